/- WideParses: own texts in one (part 2 of 3): contracts of the functions that the law reaches. -/
import Derived.Test.YtbccokfdkieakaaBWideParsesa
import Derived.Lib.Mul64
import Derived.OpenShut
import Derived.Test.YtbccokfdkieakaaWMore
import Derived.WalkKit

section
/- wide.show (a number's decimal digits), in the print's form. -/
namespace Go.Proofs.Ytbccokfdkieakaa.F
open Go Go.RowKit Go.Proofs.YtbccokfdkieakaaW.PrintWords Go.Proofs.YtbccokfdkieakaaW.PrintLast Go.Proofs.YtbccokfdkieakaaW.PrintMore
set_option linter.unusedVariables false
/-- At the head of a round: n letters are written. -/
structure ShowRel (w : World) (g N : Nat) (t4 t5 t6 t8 t9 : Value) (wr : World) : Prop where
  out : ∃ (n : Nat) (i X Y R : Int), n ≤ 39 ∧ i = 40 - n ∧ X = ((qq N n / 18446744073709551616 : Nat) : Int) ∧ Y = ((qq N n % 18446744073709551616 : Nat) : Int) ∧ R = ((rr N n : Nat) : Int) ∧ t4 = .int .u64 X ∧ t5 = .int .u64 Y ∧ t6 = .int .u64 R ∧ t8 = .int .i64 i ∧ t9 = .int .i64 n ∧
    wr.heap[g]? = some (.cells (bcells (List.replicate (40 - n) 0 ++ chars N n)) 61 (0, 0)) ∧ (∀ m', m' < n → 1 ≤ m' → ¬ N / 10 ^ m' = 0) ∧ Below w.heap.size w wr
theorem or_zero {x y : Int} (x0 : 0 ≤ x) (x1 : x < 18446744073709551616) (y0 : 0 ≤ y) (y1 : y < 18446744073709551616) (h : bits .or .u64 x y = 0) : x = 0 ∧ y = 0 := by
  obtain ⟨X, rfl⟩ := Int.eq_ofNat_of_zero_le x0
  obtain ⟨Y, rfl⟩ := Int.eq_ofNat_of_zero_le y0
  rw [bits_or_u64_nat X Y (by omega) (by omega)] at h
  have h0 : X ||| Y = 0 := by omega
  have h1 : X ≤ X ||| Y := Nat.left_le_or
  have h2 : Y ≤ X ||| Y := Nat.right_le_or
  omega
theorem u8_int {a b : Int} (h : a = b) : Value.int .u8 a = .int .u8 b := by rw [h]
theorem ShowRel.step {w wr : World} {g N n : Nat} {i X R Y : Int} (hn : n ≤ 38) (Hg : Aside0 (w.heap.size ≤ g)) (HI : Aside0 (i = 40 - n)) (HG : Aside0 (wr.heap[g]? = some (.cells (bcells (List.replicate (40 - n) 0 ++ chars N n)) 61 (0, 0)))) (HB : Aside0 (Below w.heap.size w wr))
    (HS : Aside0 (∀ m', m' < n + 1 → 1 ≤ m' → ¬ N / 10 ^ m' = 0)) (hX : X = ((qq N (n + 1) / 18446744073709551616 : Nat) : Int)) (hY : Y = ((qq N (n + 1) % 18446744073709551616 : Nat) : Int)) (hR : R = ((rr N (n + 1) : Nat) : Int)) (v : Value) (hv : v = .int .u8 ((48 + N / 10 ^ n % 10 : Nat) : Int)) :
    ShowRel w g N (.int .u64 X) (.int .u64 Y) (.int .u64 R) (.int .i64 (i - 1)) (.int .i64 ((n : Int) + 1)) (wr.setCell ⟨g, i.toNat - 1, none⟩ v) := by
  have hi := HI.out
  have e : i.toNat - 1 = 39 - n := by omega
  subst hv
  refine ⟨n + 1, i - 1, X, Y, R, by omega, by omega, hX, hY, hR, rfl, rfl, rfl, rfl, rfl, ?_, HS.out, HB.out.setCell Hg.out _⟩
  rw [e]
  exact blk_put HG.out _ _ (bcells_put (by omega) _ _)
/-- How many digits a number has. -/
def dlen (N : Nat) : Nat := if N < 10 then 1 else dlen (N / 10) + 1
  termination_by N
  decreasing_by omega
theorem dlen_ok (N : Nat) : 1 ≤ dlen N ∧ N / 10 ^ dlen N = 0 ∧ ∀ n, n < dlen N → 1 ≤ n → ¬ N / 10 ^ n = 0 := by
  induction N using Nat.strongRecOn with
  | ind N ih =>
    rw [dlen]
    by_cases h : N < 10
    · rw [if_pos h]
      exact ⟨by omega, by omega, fun n h1 h2 => by omega⟩
    · rw [if_neg h]
      obtain ⟨h1, h2, h3⟩ := ih (N / 10) (by omega)
      refine ⟨by omega, ?_, fun n hn h4 => ?_⟩
      · rw [Nat.pow_succ, Nat.mul_comm, ← Nat.div_div_eq_div_mul]; exact h2
      · obtain ⟨n, rfl⟩ : ∃ m, n = m + 1 := ⟨n - 1, by omega⟩
        rw [Nat.pow_succ, Nat.mul_comm, ← Nat.div_div_eq_div_mul]
        rcases Nat.eq_zero_or_pos n with h5 | h5
        · subst h5; rw [Nat.pow_zero, Nat.div_one]; omega
        · exact h3 n (by omega) h5
theorem addr_add (g o j : Nat) : (⟨g, o, none⟩ : Addr).add j = ⟨g, o + j, none⟩ := by
  simp only [Addr.add]
  try (split <;> simp_all)
theorem arr_len : Try.prog.arrayLen 61 = 40 := by kernel_rfl
theorem arr_und : Try.prog.underlying 61 = some (.array (Try.prog.arrayLen 61) (Try.prog.elem 61)) := by kernel_rfl
theorem arr_one (W : World) : (sizeOf (Try.prog.elem 61)).run Try.prog W = .ok 1 W := by kernel_rfl
/-- The last letters of the array. -/
theorem slice40 (g n : Nat) (h0 : 1 ≤ n) (h1 : n ≤ 40) (i : Int) (hi : i = 40 - n) (W : World) :
    (Instr.sliceAt 61 (.pointer (some ⟨g, 0, none⟩)) (some (.int .i64 i)) none none).run Try.prog W = .ok (.slice (some ⟨g, 40 - n, none⟩) n n) W := by
  rw [run_sliceAt_array_l (P := Try.prog) W 61 ⟨g, 0, none⟩ arr_und .i64 i (by omega) (by rw [arr_len]; omega), arr_one, arr_len]
  have e : i.toNat = 40 - n := by omega
  simp only [Result.andThen, slicedAt, e]
  rw [if_neg (by omega), show 40 - (40 - n) = n by omega, addr_add]
  simp
theorem reads40 {wr : World} {g n : Nat} (hn : n ≤ 40) {l : List Int} (hl : l.length = n) (h : wr.heap[g]? = some (.cells (bcells (List.replicate (40 - n) 0 ++ l)) 61 (0, 0))) : ReadsOf (Value.int .u8) 0 wr (some ⟨g, 40 - n, none⟩) n l := by
  refine ⟨hl, by omega, fun _ => ⟨_, rfl, fun j hj => ?_⟩⟩
  have := (blk_cell h (40 - n + j)).trans (bcells_at hn l hl hj)
  rw [addr_add]
  exact this
theorem conv40 {wr : World} {g n : Nat} (hn : n ≤ 40) {l : List Int} (hl : l.length = n) (h : wr.heap[g]? = some (.cells (bcells (List.replicate (40 - n) 0 ++ l)) 61 (0, 0))) :
    (convert 64 9 (.slice (some ⟨g, 40 - n, none⟩) n n)).run Try.prog wr = .ok (.string (strOfNums l)) wr :=
  string_of_reads Try.underlying64 Try.underlying5 Try.underlying9 (reads40 hn hl h)
set_option maxHeartbeats 4000000 in
theorem show_pos (h l : Int) (N : Nat) (HN : Aside0 (N < 170141183460469231731687303715884105729)) (HV : Aside0 (wv h l = N)) (Hh : Aside0 (0 ≤ h ∧ h ≤ 9223372036854775807)) (Hl : Aside0 (0 ≤ l ∧ l < 18446744073709551616)) (hd : decide (h < 0) = false) (m : Nat) (hm : Aside0 (1 ≤ m ∧ N / 10 ^ m = 0 ∧ ∀ n, n < m → 1 ≤ n → ¬ N / 10 ^ n = 0)) (w : World) :
    Calls Try.prog 36 #[.agg #[.int .i64 h, .int .u64 l]] w fun e w' => e = .returned (.string (strOfNums (chars N m))) ∧ Below w.heap.size w w' := by
  go_enter Try.func36, Try.ntmps36
  go_wp2_with fail
  go_quiet (fail)
  go_wp2_with fail
  have hgg : w.heap.size ≤ w.heap.size + 1 := Nat.le_succ _
  have hg0 : (((w.alloc (Obj.cells #[Value.int IntKind.i64 h, Value.int IntKind.u64 l] 24)).drewN nq).alloc (.cells #[Value.int IntKind.u8 0, Value.int IntKind.u8 0, Value.int IntKind.u8 0, Value.int IntKind.u8 0, Value.int IntKind.u8 0, Value.int IntKind.u8 0, Value.int IntKind.u8 0, Value.int IntKind.u8 0, Value.int IntKind.u8 0, Value.int IntKind.u8 0, Value.int IntKind.u8 0, Value.int IntKind.u8 0, Value.int IntKind.u8 0, Value.int IntKind.u8 0, Value.int IntKind.u8 0, Value.int IntKind.u8 0, Value.int IntKind.u8 0, Value.int IntKind.u8 0, Value.int IntKind.u8 0, Value.int IntKind.u8 0, Value.int IntKind.u8 0, Value.int IntKind.u8 0, Value.int IntKind.u8 0, Value.int IntKind.u8 0, Value.int IntKind.u8 0, Value.int IntKind.u8 0, Value.int IntKind.u8 0, Value.int IntKind.u8 0, Value.int IntKind.u8 0, Value.int IntKind.u8 0, Value.int IntKind.u8 0, Value.int IntKind.u8 0, Value.int IntKind.u8 0, Value.int IntKind.u8 0, Value.int IntKind.u8 0, Value.int IntKind.u8 0, Value.int IntKind.u8 0, Value.int IntKind.u8 0, Value.int IntKind.u8 0, Value.int IntKind.u8 0] 61)).heap[w.heap.size + 1]? = some (.cells (bcells (List.replicate (40 - 0) 0 ++ chars N 0)) 61 (0, 0)) := by
    have e1 : ((w.alloc (Obj.cells #[Value.int IntKind.i64 h, Value.int IntKind.u64 l] 24)).drewN nq).heap.size = w.heap.size + 1 := by simp
    have e2 : bcells (List.replicate (40 - 0) 0 ++ chars N 0) = #[Value.int IntKind.u8 0, Value.int IntKind.u8 0, Value.int IntKind.u8 0, Value.int IntKind.u8 0, Value.int IntKind.u8 0, Value.int IntKind.u8 0, Value.int IntKind.u8 0, Value.int IntKind.u8 0, Value.int IntKind.u8 0, Value.int IntKind.u8 0, Value.int IntKind.u8 0, Value.int IntKind.u8 0, Value.int IntKind.u8 0, Value.int IntKind.u8 0, Value.int IntKind.u8 0, Value.int IntKind.u8 0, Value.int IntKind.u8 0, Value.int IntKind.u8 0, Value.int IntKind.u8 0, Value.int IntKind.u8 0, Value.int IntKind.u8 0, Value.int IntKind.u8 0, Value.int IntKind.u8 0, Value.int IntKind.u8 0, Value.int IntKind.u8 0, Value.int IntKind.u8 0, Value.int IntKind.u8 0, Value.int IntKind.u8 0, Value.int IntKind.u8 0, Value.int IntKind.u8 0, Value.int IntKind.u8 0, Value.int IntKind.u8 0, Value.int IntKind.u8 0, Value.int IntKind.u8 0, Value.int IntKind.u8 0, Value.int IntKind.u8 0, Value.int IntKind.u8 0, Value.int IntKind.u8 0, Value.int IntKind.u8 0, Value.int IntKind.u8 0] := rfl
    rw [← e1, e2]; exact blk_new _ _
  have hb0 : Below w.heap.size w (((w.alloc (Obj.cells #[Value.int IntKind.i64 h, Value.int IntKind.u64 l] 24)).drewN nq).alloc (.cells #[Value.int IntKind.u8 0, Value.int IntKind.u8 0, Value.int IntKind.u8 0, Value.int IntKind.u8 0, Value.int IntKind.u8 0, Value.int IntKind.u8 0, Value.int IntKind.u8 0, Value.int IntKind.u8 0, Value.int IntKind.u8 0, Value.int IntKind.u8 0, Value.int IntKind.u8 0, Value.int IntKind.u8 0, Value.int IntKind.u8 0, Value.int IntKind.u8 0, Value.int IntKind.u8 0, Value.int IntKind.u8 0, Value.int IntKind.u8 0, Value.int IntKind.u8 0, Value.int IntKind.u8 0, Value.int IntKind.u8 0, Value.int IntKind.u8 0, Value.int IntKind.u8 0, Value.int IntKind.u8 0, Value.int IntKind.u8 0, Value.int IntKind.u8 0, Value.int IntKind.u8 0, Value.int IntKind.u8 0, Value.int IntKind.u8 0, Value.int IntKind.u8 0, Value.int IntKind.u8 0, Value.int IntKind.u8 0, Value.int IntKind.u8 0, Value.int IntKind.u8 0, Value.int IntKind.u8 0, Value.int IntKind.u8 0, Value.int IntKind.u8 0, Value.int IntKind.u8 0, Value.int IntKind.u8 0, Value.int IntKind.u8 0, Value.int IntKind.u8 0] 61)) := (pw_below_drewN ((Below.refl _ _).alloc (Nat.le_refl _) _) _).alloc (by simp) _
  generalize (((w.alloc (Obj.cells #[Value.int IntKind.i64 h, Value.int IntKind.u64 l] 24)).drewN nq).alloc (.cells #[Value.int IntKind.u8 0, Value.int IntKind.u8 0, Value.int IntKind.u8 0, Value.int IntKind.u8 0, Value.int IntKind.u8 0, Value.int IntKind.u8 0, Value.int IntKind.u8 0, Value.int IntKind.u8 0, Value.int IntKind.u8 0, Value.int IntKind.u8 0, Value.int IntKind.u8 0, Value.int IntKind.u8 0, Value.int IntKind.u8 0, Value.int IntKind.u8 0, Value.int IntKind.u8 0, Value.int IntKind.u8 0, Value.int IntKind.u8 0, Value.int IntKind.u8 0, Value.int IntKind.u8 0, Value.int IntKind.u8 0, Value.int IntKind.u8 0, Value.int IntKind.u8 0, Value.int IntKind.u8 0, Value.int IntKind.u8 0, Value.int IntKind.u8 0, Value.int IntKind.u8 0, Value.int IntKind.u8 0, Value.int IntKind.u8 0, Value.int IntKind.u8 0, Value.int IntKind.u8 0, Value.int IntKind.u8 0, Value.int IntKind.u8 0, Value.int IntKind.u8 0, Value.int IntKind.u8 0, Value.int IntKind.u8 0, Value.int IntKind.u8 0, Value.int IntKind.u8 0, Value.int IntKind.u8 0, Value.int IntKind.u8 0, Value.int IntKind.u8 0] 61)) = W at hg0 hb0 ⊢
  have HG := Aside0.mk hg0
  have Hgg := Aside0.mk hgg
  clear hgg
  have HB := Aside0.mk hb0
  clear hg0 hb0
  go_loopw [4, 5, 6, 8, 9] (fun t4 t5 t6 t8 t9 wr => ShowRel w (w.heap.size + 1) N t4 t5 t6 t8 t9 wr) (fun _ _ _ t8 _ _ => (intOf t8).toNat)
  case atStart =>
    have hv := HV.out
    have h0 := Hh.out
    have l0 := Hl.out
    unfold wv at hv
    refine ⟨0, 40, _, _, _, by omega, by omega, ?_, ?_, ?_, rfl, rfl, rfl, rfl, rfl, HG.out, fun m' h1 => absurd h1 (Nat.not_lt_zero _), HB.out⟩
    · rw [qq_zero]; first | omega | (rw [IntKind.wrap_u64]; omega)
    · rw [qq_zero]; omega
    · rw [rr_zero]; rfl
  case round =>
    obtain ⟨n, i, X, Y, R, hn, hi0, hX0, hY0, hR0, rfl, rfl, rfl, rfl, rfl, hg0, hs0, hb0⟩ := hrel
    have HX := Aside0.mk hX0
    have HY := Aside0.mk hY0
    have HR := Aside0.mk hR0
    have HI := Aside0.mk hi0
    have HG := Aside0.mk hg0
    have HB := Aside0.mk hb0
    have HS := Aside0.mk hs0
    have X0 : 0 ≤ X := by omega
    have Y0 : 0 ≤ Y := by omega
    have R0 : 0 ≤ R := by omega
    have R1 : R < 1000000000000000000 := by have := rr_lt N n; omega
    have qN := qq_le N n
    have hNN := HN.out
    have X1 : X < 18446744073709551616 := by omega
    have Y1 : Y < 18446744073709551616 := by omega
    have i1 : 1 ≤ i := by omega
    have i2 : i ≤ 40 := by omega
    clear qN hNN hX0 hY0 hR0 hi0 hg0 hb0 hs0
    by_cases hc : N / 10 ^ n = 0 ∧ 1 ≤ n
    · obtain ⟨hq, hr⟩ := left_zero.1 hc.1
      have hmn : n = m := by
        obtain ⟨m1, m2, m3⟩ := hm.out
        rcases Nat.lt_trichotomy n m with h1 | h1 | h1
        · exact absurd hc.1 (m3 n h1 hc.2)
        · exact h1
        · exact absurd m2 (HS.out m h1 m1)
      obtain rfl : X = 0 := by rw [HX.out, hq]; rfl
      obtain rfl : Y = 0 := by rw [HY.out, hq]; rfl
      obtain rfl : R = 0 := by rw [HR.out, hr]; rfl
      subst hmn
      have k0 : bits .or .u64 0 0 = 0 := by decide
      have k1 : (i == 40) = false := beq_eq_false_iff_ne.2 (by have := HI.out; omega)
      clear hq hr HX HY HR
      obtain ⟨hc0, hc1⟩ := hc
      clear hc0
      have hsl := slice40 (w.heap.size + 1) n hc1 (by omega) i HI.out
      have kc := conv40 (by omega) (chars_len N n) HG.out
      go_wp2_with fail
      go_ret
      exact ⟨rfl, HB.out⟩
    · have hn38 : n ≤ 38 := by
        by_cases h0 : N / 10 ^ n = 0
        · have : n = 0 := by
            rcases Nat.eq_zero_or_pos n with h1 | h1
            · exact h1
            · exact absurd ⟨h0, h1⟩ hc
          omega
        · have := left_of (N := N) (by have := HN.out; have e : (10 : Nat) ^ 39 = 1000000000000000000000000000000000000000 := rfl; omega) h0
          omega
      have HC := Aside0.mk hc
      have HS' : Aside0 (∀ m', m' < n + 1 → 1 ≤ m' → ¬ N / 10 ^ m' = 0) := ⟨fun m' h1 h2 h3 => by
        rcases Nat.lt_or_ge m' n with h4 | h4
        · exact HS.out m' h4 h2 h3
        · have : m' = n := by omega
          subst this
          exact hc ⟨h3, h2⟩⟩
      clear hc
      have q1 : 0 ≤ i - 1 := by omega
      have hx0 : wr.cell? ⟨w.heap.size + 1, i.toNat - 1, none⟩ = some (.int .u8 0) := by
        rw [blk_cell HG.out, bcells_get _ (by have := HI.out; omega)]
      have hf0 : wr.frozen? ⟨w.heap.size + 1, i.toNat - 1, none⟩ = false := blk_frozen HG.out _
      obtain ⟨Zo, hZ⟩ : ∃ z, bits .or .u64 X Y = z := ⟨_, rfl⟩
      have hZ0 : Zo = 0 → X = 0 ∧ Y = 0 := fun h => or_zero X0 X1 Y0 Y1 (hZ.trans h)
      by_cases z : Zo = 0
      · obtain ⟨x0, y0⟩ := hZ0 z
        have z1 : (Zo == 0) = true := beq_iff_eq.2 z
        have z2 : (Zo != 0) = false := by rw [bne, z1]; rfl
        by_cases r : R = 0
        · have z3 : (R == 0) = true := beq_iff_eq.2 r
          have z4 : (R != 0) = false := by rw [bne, z3]; rfl
          have hn0 : n = 0 := by
            have hq : qq N n = 0 := by have e1 := HX.out; have e2 := HY.out; omega
            have hr : rr N n = 0 := by have e1 := HR.out; omega
            rcases Nat.eq_zero_or_pos n with h1 | h1
            · exact h1
            · exact absurd ⟨left_zero.2 ⟨hq, hr⟩, h1⟩ HC.out
          subst hn0 r x0 y0
          obtain rfl : i = 40 := by have := HI.out; omega
          have k0 : bits .or .u64 0 0 = 0 := by decide
          clear hZ0 hZ z z1 z2 z3 z4 hx0 hf0
          have hcut := cut_f (qq N 0) (by have := qq_le N 0; have := HN.out; omega)
          obtain ⟨X', hX'⟩ : ∃ z, ((qq N 0 / 1000000000000000000 / 18446744073709551616 : Nat) : Int) = z := ⟨_, rfl⟩
          obtain ⟨Y', hY'⟩ : ∃ z, ((qq N 0 / 1000000000000000000 % 18446744073709551616 : Nat) : Int) = z := ⟨_, rfl⟩
          obtain ⟨R', hR'⟩ : ∃ z, ((qq N 0 % 1000000000000000000 : Nat) : Int) = z := ⟨_, rfl⟩
          rw [← HX.out, ← HY.out, hX', hY', hR'] at hcut
          have r0 : 0 ≤ R' := by omega
          have r1 : R' < 1000000000000000000 := by omega
          have HC18 := Aside0.mk hcut
          have E18 := Aside0.mk (show 0 % 18 = 0 from rfl)
          have HX' := Aside0.mk hX'
          have HY' := Aside0.mk hY'
          have HR' := Aside0.mk hR'
          clear hcut hX' hY' hR'
          go_wp2_with fail
          refine (wide_cut.calls 0 0 1000000000000000000 _ _ _ _ HC18.out).mono ?_
          rintro e wq ⟨rfl, hb⟩
          have HG1 := Aside0.mk (blk_below HG.out hb)
          have HB1 := Aside0.mk (below_then HB.out HB.out.size hb)
          clear hb
          have hx0 : wq.cell? ⟨w.heap.size + 1, 39, none⟩ = some (.int .u8 0) := by
            rw [blk_cell HG1.out, bcells_get _ (by omega)]
          have hf0 : wq.frozen? ⟨w.heap.size + 1, 39, none⟩ = false := blk_frozen HG1.out _
          go_wp2_with fail
          go_roundw
          case rel =>
            have e3 := HR'.out
            have e4 := dig_new (N := N) (show 0 % 18 = 0 from rfl)
            have e5 := rr_new (N := N) (show 0 % 18 = 0 from rfl)
            have e6 := qq_new (N := N) (show 0 % 18 = 0 from rfl)
            refine ShowRel.step hn38 Hgg HI HG1 HB1 HS' (by rw [e6, ← HX'.out]) (by rw [e6, ← HY'.out]) (by rw [e5]; omega) _ (u8_int ?_)
            first | omega | (simp only [IntKind.wrap_u8', IntKind.wrap_u64]; omega)
          case measure => simp [intOf]
        · have z3 : (R == 0) = false := beq_eq_false_iff_ne.2 r
          have z4 : (R != 0) = true := by rw [bne, z3]; rfl
          clear hZ0 z r x0 y0
          by_cases hm18 : n % 18 = 0
          · skip
            have e1 : ((n : Int) % 18 == 0) = true := beq_iff_eq.2 (by omega)
            have hcut := cut_f (qq N n) (by have := qq_le N n; have := HN.out; omega)
            obtain ⟨X', hX'⟩ : ∃ z, ((qq N n / 1000000000000000000 / 18446744073709551616 : Nat) : Int) = z := ⟨_, rfl⟩
            obtain ⟨Y', hY'⟩ : ∃ z, ((qq N n / 1000000000000000000 % 18446744073709551616 : Nat) : Int) = z := ⟨_, rfl⟩
            obtain ⟨R', hR'⟩ : ∃ z, ((qq N n % 1000000000000000000 : Nat) : Int) = z := ⟨_, rfl⟩
            rw [← HX.out, ← HY.out, hX', hY', hR'] at hcut
            have r0 : 0 ≤ R' := by omega
            have r1 : R' < 1000000000000000000 := by omega
            have HC18 := Aside0.mk hcut
            have E18 := Aside0.mk hm18
            have HX' := Aside0.mk hX'
            have HY' := Aside0.mk hY'
            have HR' := Aside0.mk hR'
            clear hcut hm18 hx0 hf0 hX' hY' hR'
            go_wp2_with fail
            refine (wide_cut.calls X Y 1000000000000000000 _ _ _ _ HC18.out).mono ?_
            rintro e wq ⟨rfl, hb⟩
            have HG1 := Aside0.mk (blk_below HG.out hb)
            have HB1 := Aside0.mk (below_then HB.out HB.out.size hb)
            clear hb
            have hx0 : wq.cell? ⟨w.heap.size + 1, i.toNat - 1, none⟩ = some (.int .u8 0) := by
              rw [blk_cell HG1.out, bcells_get _ (by have := HI.out; omega)]
            have hf0 : wq.frozen? ⟨w.heap.size + 1, i.toNat - 1, none⟩ = false := blk_frozen HG1.out _
            go_wp2_with fail
            go_roundw
            case rel =>
              have e3 := HR'.out
              have e4 := dig_new (N := N) E18.out
              have e5 := rr_new (N := N) E18.out
              have e6 := qq_new (N := N) E18.out
              refine ShowRel.step hn38 Hgg HI HG1 HB1 HS' (by rw [e6, ← HX'.out]) (by rw [e6, ← HY'.out]) (by rw [e5]; omega) _ (u8_int ?_)
              first | omega | (simp only [IntKind.wrap_u8', IntKind.wrap_u64]; omega)
            case measure => simp [intOf]; omega
          · skip
            have e1 : ((n : Int) % 18 == 0) = false := beq_eq_false_iff_ne.2 (by omega)
            have E18 := Aside0.mk hm18
            clear hm18
            go_wp2_with fail
            go_roundw
            case rel =>
              have e3 := HR.out
              have e4 := dig_old (N := N) E18.out
              have e5 := rr_old (N := N) E18.out
              have e6 := qq_old (N := N) E18.out
              refine ShowRel.step hn38 Hgg HI HG HB HS' (by rw [e6, ← HX.out]) (by rw [e6, ← HY.out]) (by rw [e5]; omega) _ (u8_int ?_)
              first | omega | (simp only [IntKind.wrap_u8', IntKind.wrap_u64]; omega)
            case measure => simp [intOf]; omega
      · have z1 : (Zo == 0) = false := beq_eq_false_iff_ne.2 z
        have z2 : (Zo != 0) = true := by rw [bne, z1]; rfl
        clear hZ0 z
        by_cases hm18 : n % 18 = 0
        · skip
          have e1 : ((n : Int) % 18 == 0) = true := beq_iff_eq.2 (by omega)
          have hcut := cut_f (qq N n) (by have := qq_le N n; have := HN.out; omega)
          obtain ⟨X', hX'⟩ : ∃ z, ((qq N n / 1000000000000000000 / 18446744073709551616 : Nat) : Int) = z := ⟨_, rfl⟩
          obtain ⟨Y', hY'⟩ : ∃ z, ((qq N n / 1000000000000000000 % 18446744073709551616 : Nat) : Int) = z := ⟨_, rfl⟩
          obtain ⟨R', hR'⟩ : ∃ z, ((qq N n % 1000000000000000000 : Nat) : Int) = z := ⟨_, rfl⟩
          rw [← HX.out, ← HY.out, hX', hY', hR'] at hcut
          have r0 : 0 ≤ R' := by omega
          have r1 : R' < 1000000000000000000 := by omega
          have HC18 := Aside0.mk hcut
          have E18 := Aside0.mk hm18
          have HX' := Aside0.mk hX'
          have HY' := Aside0.mk hY'
          have HR' := Aside0.mk hR'
          clear hcut hm18 hx0 hf0 hX' hY' hR'
          go_wp2_with fail
          refine (wide_cut.calls X Y 1000000000000000000 _ _ _ _ HC18.out).mono ?_
          rintro e wq ⟨rfl, hb⟩
          have HG1 := Aside0.mk (blk_below HG.out hb)
          have HB1 := Aside0.mk (below_then HB.out HB.out.size hb)
          clear hb
          have hx0 : wq.cell? ⟨w.heap.size + 1, i.toNat - 1, none⟩ = some (.int .u8 0) := by
            rw [blk_cell HG1.out, bcells_get _ (by have := HI.out; omega)]
          have hf0 : wq.frozen? ⟨w.heap.size + 1, i.toNat - 1, none⟩ = false := blk_frozen HG1.out _
          go_wp2_with fail
          go_roundw
          case rel =>
            have e3 := HR'.out
            have e4 := dig_new (N := N) E18.out
            have e5 := rr_new (N := N) E18.out
            have e6 := qq_new (N := N) E18.out
            refine ShowRel.step hn38 Hgg HI HG1 HB1 HS' (by rw [e6, ← HX'.out]) (by rw [e6, ← HY'.out]) (by rw [e5]; omega) _ (u8_int ?_)
            first | omega | (simp only [IntKind.wrap_u8', IntKind.wrap_u64]; omega)
          case measure => simp [intOf]; omega
        · skip
          have e1 : ((n : Int) % 18 == 0) = false := beq_eq_false_iff_ne.2 (by omega)
          have E18 := Aside0.mk hm18
          clear hm18
          go_wp2_with fail
          go_roundw
          case rel =>
            have e3 := HR.out
            have e4 := dig_old (N := N) E18.out
            have e5 := rr_old (N := N) E18.out
            have e6 := qq_old (N := N) E18.out
            refine ShowRel.step hn38 Hgg HI HG HB HS' (by rw [e6, ← HX.out]) (by rw [e6, ← HY.out]) (by rw [e5]; omega) _ (u8_int ?_)
            first | omega | (simp only [IntKind.wrap_u8', IntKind.wrap_u64]; omega)
          case measure => simp [intOf]; omega
set_option maxHeartbeats 4000000 in
theorem show_neg (h l p q : Int) (N : Nat) (HN : Aside0 (N < 170141183460469231731687303715884105729)) (Hs : Aside0 (wide_sub.f 0 0 h l = some (p, q))) (HV : Aside0 (IntKind.u64.wrap p * 18446744073709551616 + q = N)) (Hl : Aside0 (0 ≤ q ∧ q < 18446744073709551616)) (hd : decide (h < 0) = true) (m : Nat) (hm : Aside0 (1 ≤ m ∧ N / 10 ^ m = 0 ∧ ∀ n, n < m → 1 ≤ n → ¬ N / 10 ^ n = 0)) (w : World) :
    Calls Try.prog 36 #[.agg #[.int .i64 h, .int .u64 l]] w fun e w' => e = .returned (.string (strOfNums (45 :: chars N m))) ∧ Below w.heap.size w w' := by
  go_enter Try.func36, Try.ntmps36
  go_wp2_with fail
  have n0 : (w.alloc (Obj.cells #[Value.int IntKind.i64 h, Value.int IntKind.u64 l] 24)).heap[w.heap.size]? = some (.cells #[Value.int IntKind.i64 h, Value.int IntKind.u64 l] 24 (0, 0)) := blk_new _ _
  have bw : Below w.heap.size w (w.alloc (Obj.cells #[Value.int IntKind.i64 h, Value.int IntKind.u64 l] 24)) := (Below.refl _ _).alloc (Nat.le_refl _) _
  generalize (w.alloc (Obj.cells #[Value.int IntKind.i64 h, Value.int IntKind.u64 l] 24)) = W0 at n0 bw ⊢
  refine (wide_sub.calls 0 0 h l p q _ Hs.out).mono ?_
  rintro e w1 ⟨rfl, hb⟩
  have N1 := Aside0.mk (blk_below n0 hb)
  have B1 := Aside0.mk (below_then bw bw.size hb)
  clear n0 bw hb
  have c0 : w1.cell? ⟨w.heap.size, 0, none⟩ = some (.int .i64 h) := (blk_cell N1.out 0).trans rfl
  have c1 : w1.cell? ⟨w.heap.size, 1, none⟩ = some (.int .u64 l) := (blk_cell N1.out 1).trans rfl
  have f0 := blk_frozen N1.out 0
  have f1 := blk_frozen N1.out 1
  go_wp2_with fail
  have N2 := Aside0.mk (blk_put (cs := #[.int .i64 p, .int .u64 l]) (blk_put (cs := #[.int .i64 h, .int .u64 l]) N1.out 0 (.int .i64 p) rfl) 1 (.int .u64 q) rfl)
  have B2 := Aside0.mk ((B1.out.setCell (p := ⟨w.heap.size, 0, none⟩) (Nat.le_refl _) (.int .i64 p)).setCell (p := ⟨w.heap.size, 1, none⟩) (Nat.le_refl _) (.int .u64 q))
  generalize ((w1.setCell ⟨w.heap.size, 0, none⟩ (.int .i64 p)).setCell ⟨w.heap.size, 1, none⟩ (.int .u64 q)) = W1 at N2 B2 ⊢
  clear c0 c1 f0 f1
  have c0 : W1.cell? ⟨w.heap.size, 0, none⟩ = some (.int .i64 p) := (blk_cell N2.out 0).trans rfl
  have c1 : W1.cell? ⟨w.heap.size, 1, none⟩ = some (.int .u64 q) := (blk_cell N2.out 1).trans rfl
  go_quiet (fail)
  go_wp2_with fail
  have hgg : w.heap.size ≤ W1.heap.size := B2.out.size
  have hg0 : ((W1.drewN nq).alloc (.cells #[Value.int IntKind.u8 0, Value.int IntKind.u8 0, Value.int IntKind.u8 0, Value.int IntKind.u8 0, Value.int IntKind.u8 0, Value.int IntKind.u8 0, Value.int IntKind.u8 0, Value.int IntKind.u8 0, Value.int IntKind.u8 0, Value.int IntKind.u8 0, Value.int IntKind.u8 0, Value.int IntKind.u8 0, Value.int IntKind.u8 0, Value.int IntKind.u8 0, Value.int IntKind.u8 0, Value.int IntKind.u8 0, Value.int IntKind.u8 0, Value.int IntKind.u8 0, Value.int IntKind.u8 0, Value.int IntKind.u8 0, Value.int IntKind.u8 0, Value.int IntKind.u8 0, Value.int IntKind.u8 0, Value.int IntKind.u8 0, Value.int IntKind.u8 0, Value.int IntKind.u8 0, Value.int IntKind.u8 0, Value.int IntKind.u8 0, Value.int IntKind.u8 0, Value.int IntKind.u8 0, Value.int IntKind.u8 0, Value.int IntKind.u8 0, Value.int IntKind.u8 0, Value.int IntKind.u8 0, Value.int IntKind.u8 0, Value.int IntKind.u8 0, Value.int IntKind.u8 0, Value.int IntKind.u8 0, Value.int IntKind.u8 0, Value.int IntKind.u8 0] 61)).heap[W1.heap.size]? = some (.cells (bcells (List.replicate (40 - 0) 0 ++ chars N 0)) 61 (0, 0)) := by
    have e1 : (W1.drewN nq).heap.size = W1.heap.size := by simp
    have e2 : bcells (List.replicate (40 - 0) 0 ++ chars N 0) = #[Value.int IntKind.u8 0, Value.int IntKind.u8 0, Value.int IntKind.u8 0, Value.int IntKind.u8 0, Value.int IntKind.u8 0, Value.int IntKind.u8 0, Value.int IntKind.u8 0, Value.int IntKind.u8 0, Value.int IntKind.u8 0, Value.int IntKind.u8 0, Value.int IntKind.u8 0, Value.int IntKind.u8 0, Value.int IntKind.u8 0, Value.int IntKind.u8 0, Value.int IntKind.u8 0, Value.int IntKind.u8 0, Value.int IntKind.u8 0, Value.int IntKind.u8 0, Value.int IntKind.u8 0, Value.int IntKind.u8 0, Value.int IntKind.u8 0, Value.int IntKind.u8 0, Value.int IntKind.u8 0, Value.int IntKind.u8 0, Value.int IntKind.u8 0, Value.int IntKind.u8 0, Value.int IntKind.u8 0, Value.int IntKind.u8 0, Value.int IntKind.u8 0, Value.int IntKind.u8 0, Value.int IntKind.u8 0, Value.int IntKind.u8 0, Value.int IntKind.u8 0, Value.int IntKind.u8 0, Value.int IntKind.u8 0, Value.int IntKind.u8 0, Value.int IntKind.u8 0, Value.int IntKind.u8 0, Value.int IntKind.u8 0, Value.int IntKind.u8 0] := rfl
    rw [← e1, e2]; exact blk_new _ _
  have hb0 : Below w.heap.size w ((W1.drewN nq).alloc (.cells #[Value.int IntKind.u8 0, Value.int IntKind.u8 0, Value.int IntKind.u8 0, Value.int IntKind.u8 0, Value.int IntKind.u8 0, Value.int IntKind.u8 0, Value.int IntKind.u8 0, Value.int IntKind.u8 0, Value.int IntKind.u8 0, Value.int IntKind.u8 0, Value.int IntKind.u8 0, Value.int IntKind.u8 0, Value.int IntKind.u8 0, Value.int IntKind.u8 0, Value.int IntKind.u8 0, Value.int IntKind.u8 0, Value.int IntKind.u8 0, Value.int IntKind.u8 0, Value.int IntKind.u8 0, Value.int IntKind.u8 0, Value.int IntKind.u8 0, Value.int IntKind.u8 0, Value.int IntKind.u8 0, Value.int IntKind.u8 0, Value.int IntKind.u8 0, Value.int IntKind.u8 0, Value.int IntKind.u8 0, Value.int IntKind.u8 0, Value.int IntKind.u8 0, Value.int IntKind.u8 0, Value.int IntKind.u8 0, Value.int IntKind.u8 0, Value.int IntKind.u8 0, Value.int IntKind.u8 0, Value.int IntKind.u8 0, Value.int IntKind.u8 0, Value.int IntKind.u8 0, Value.int IntKind.u8 0, Value.int IntKind.u8 0, Value.int IntKind.u8 0] 61)) := (pw_below_drewN B2.out _).alloc (B2.out.size) _
  generalize ((W1.drewN nq).alloc (.cells #[Value.int IntKind.u8 0, Value.int IntKind.u8 0, Value.int IntKind.u8 0, Value.int IntKind.u8 0, Value.int IntKind.u8 0, Value.int IntKind.u8 0, Value.int IntKind.u8 0, Value.int IntKind.u8 0, Value.int IntKind.u8 0, Value.int IntKind.u8 0, Value.int IntKind.u8 0, Value.int IntKind.u8 0, Value.int IntKind.u8 0, Value.int IntKind.u8 0, Value.int IntKind.u8 0, Value.int IntKind.u8 0, Value.int IntKind.u8 0, Value.int IntKind.u8 0, Value.int IntKind.u8 0, Value.int IntKind.u8 0, Value.int IntKind.u8 0, Value.int IntKind.u8 0, Value.int IntKind.u8 0, Value.int IntKind.u8 0, Value.int IntKind.u8 0, Value.int IntKind.u8 0, Value.int IntKind.u8 0, Value.int IntKind.u8 0, Value.int IntKind.u8 0, Value.int IntKind.u8 0, Value.int IntKind.u8 0, Value.int IntKind.u8 0, Value.int IntKind.u8 0, Value.int IntKind.u8 0, Value.int IntKind.u8 0, Value.int IntKind.u8 0, Value.int IntKind.u8 0, Value.int IntKind.u8 0, Value.int IntKind.u8 0, Value.int IntKind.u8 0] 61)) = W at hg0 hb0 ⊢
  have HG := Aside0.mk hg0
  have Hgg := Aside0.mk hgg
  clear hgg
  have HB := Aside0.mk hb0
  clear hg0 hb0
  go_loopw [4, 5, 6, 8, 9] (fun t4 t5 t6 t8 t9 wr => ShowRel w (W1.heap.size) N t4 t5 t6 t8 t9 wr) (fun _ _ _ t8 _ _ => (intOf t8).toNat)
  case atStart =>
    have hv := HV.out
    have l0 := Hl.out
    have h0 := IntKind.wrap_u64 p
    refine ⟨0, 40, _, _, _, by omega, by omega, ?_, ?_, ?_, rfl, rfl, rfl, rfl, rfl, HG.out, fun m' h1 => absurd h1 (Nat.not_lt_zero _), HB.out⟩
    · rw [qq_zero]; omega
    · rw [qq_zero]; omega
    · rw [rr_zero]; rfl
  case round =>
    obtain ⟨n, i, X, Y, R, hn, hi0, hX0, hY0, hR0, rfl, rfl, rfl, rfl, rfl, hg0, hs0, hb0⟩ := hrel
    have HX := Aside0.mk hX0
    have HY := Aside0.mk hY0
    have HR := Aside0.mk hR0
    have HI := Aside0.mk hi0
    have HG := Aside0.mk hg0
    have HB := Aside0.mk hb0
    have HS := Aside0.mk hs0
    have X0 : 0 ≤ X := by omega
    have Y0 : 0 ≤ Y := by omega
    have R0 : 0 ≤ R := by omega
    have R1 : R < 1000000000000000000 := by have := rr_lt N n; omega
    have qN := qq_le N n
    have hNN := HN.out
    have X1 : X < 18446744073709551616 := by omega
    have Y1 : Y < 18446744073709551616 := by omega
    have i1 : 1 ≤ i := by omega
    have i2 : i ≤ 40 := by omega
    clear qN hNN hX0 hY0 hR0 hi0 hg0 hb0 hs0
    by_cases hc : N / 10 ^ n = 0 ∧ 1 ≤ n
    · obtain ⟨hq, hr⟩ := left_zero.1 hc.1
      have hmn : n = m := by
        obtain ⟨m1, m2, m3⟩ := hm.out
        rcases Nat.lt_trichotomy n m with h1 | h1 | h1
        · exact absurd hc.1 (m3 n h1 hc.2)
        · exact h1
        · exact absurd m2 (HS.out m h1 m1)
      obtain rfl : X = 0 := by rw [HX.out, hq]; rfl
      obtain rfl : Y = 0 := by rw [HY.out, hq]; rfl
      obtain rfl : R = 0 := by rw [HR.out, hr]; rfl
      subst hmn
      have k0 : bits .or .u64 0 0 = 0 := by decide
      have k1 : (i == 40) = false := beq_eq_false_iff_ne.2 (by have := HI.out; omega)
      clear hq hr HX HY HR
      obtain ⟨hc0, hc1⟩ := hc
      clear hc0
      have hx0 : wr.cell? ⟨W1.heap.size, i.toNat - 1, none⟩ = some (.int .u8 0) := by
        rw [blk_cell HG.out, bcells_get _ (by have := HI.out; omega)]
      have hf0 : wr.frozen? ⟨W1.heap.size, i.toNat - 1, none⟩ = false := blk_frozen HG.out _
      have q1 : 0 ≤ i - 1 := by omega
      have hn40 : n + 1 ≤ 40 := by omega
      have hsl := slice40 (W1.heap.size) (n + 1) (by omega) hn40 (i - 1) (by have := HI.out; omega)
      have e39 : i.toNat - 1 = 39 - n := by have := HI.out; omega
      have HG2 : (wr.setCell ⟨W1.heap.size, i.toNat - 1, none⟩ (.int .u8 45)).heap[W1.heap.size]? = some (.cells (bcells (List.replicate (40 - (n + 1)) 0 ++ (45 :: chars N n))) 61 (0, 0)) := by
        rw [e39]
        exact blk_put HG.out _ _ (bcells_put (by omega) _ _)
      have kc := conv40 hn40 (by rw [List.length_cons, chars_len]) HG2
      rw [show 40 - (n + 1) = 39 - n by omega] at kc
      have HB2 := Aside0.mk (HB.out.setCell (p := ⟨W1.heap.size, i.toNat - 1, none⟩) Hgg.out (.int .u8 45))
      clear HG2 e39
      go_wp2_with fail
      go_ret
      exact ⟨rfl, HB2.out⟩
    · have hn38 : n ≤ 38 := by
        by_cases h0 : N / 10 ^ n = 0
        · have : n = 0 := by
            rcases Nat.eq_zero_or_pos n with h1 | h1
            · exact h1
            · exact absurd ⟨h0, h1⟩ hc
          omega
        · have := left_of (N := N) (by have := HN.out; have e : (10 : Nat) ^ 39 = 1000000000000000000000000000000000000000 := rfl; omega) h0
          omega
      have HC := Aside0.mk hc
      have HS' : Aside0 (∀ m', m' < n + 1 → 1 ≤ m' → ¬ N / 10 ^ m' = 0) := ⟨fun m' h1 h2 h3 => by
        rcases Nat.lt_or_ge m' n with h4 | h4
        · exact HS.out m' h4 h2 h3
        · have : m' = n := by omega
          subst this
          exact hc ⟨h3, h2⟩⟩
      clear hc
      have q1 : 0 ≤ i - 1 := by omega
      have hx0 : wr.cell? ⟨W1.heap.size, i.toNat - 1, none⟩ = some (.int .u8 0) := by
        rw [blk_cell HG.out, bcells_get _ (by have := HI.out; omega)]
      have hf0 : wr.frozen? ⟨W1.heap.size, i.toNat - 1, none⟩ = false := blk_frozen HG.out _
      obtain ⟨Zo, hZ⟩ : ∃ z, bits .or .u64 X Y = z := ⟨_, rfl⟩
      have hZ0 : Zo = 0 → X = 0 ∧ Y = 0 := fun h => or_zero X0 X1 Y0 Y1 (hZ.trans h)
      by_cases z : Zo = 0
      · obtain ⟨x0, y0⟩ := hZ0 z
        have z1 : (Zo == 0) = true := beq_iff_eq.2 z
        have z2 : (Zo != 0) = false := by rw [bne, z1]; rfl
        by_cases r : R = 0
        · have z3 : (R == 0) = true := beq_iff_eq.2 r
          have z4 : (R != 0) = false := by rw [bne, z3]; rfl
          have hn0 : n = 0 := by
            have hq : qq N n = 0 := by have e1 := HX.out; have e2 := HY.out; omega
            have hr : rr N n = 0 := by have e1 := HR.out; omega
            rcases Nat.eq_zero_or_pos n with h1 | h1
            · exact h1
            · exact absurd ⟨left_zero.2 ⟨hq, hr⟩, h1⟩ HC.out
          subst hn0 r x0 y0
          obtain rfl : i = 40 := by have := HI.out; omega
          have k0 : bits .or .u64 0 0 = 0 := by decide
          clear hZ0 hZ z z1 z2 z3 z4 hx0 hf0
          have hcut := cut_f (qq N 0) (by have := qq_le N 0; have := HN.out; omega)
          obtain ⟨X', hX'⟩ : ∃ z, ((qq N 0 / 1000000000000000000 / 18446744073709551616 : Nat) : Int) = z := ⟨_, rfl⟩
          obtain ⟨Y', hY'⟩ : ∃ z, ((qq N 0 / 1000000000000000000 % 18446744073709551616 : Nat) : Int) = z := ⟨_, rfl⟩
          obtain ⟨R', hR'⟩ : ∃ z, ((qq N 0 % 1000000000000000000 : Nat) : Int) = z := ⟨_, rfl⟩
          rw [← HX.out, ← HY.out, hX', hY', hR'] at hcut
          have r0 : 0 ≤ R' := by omega
          have r1 : R' < 1000000000000000000 := by omega
          have HC18 := Aside0.mk hcut
          have E18 := Aside0.mk (show 0 % 18 = 0 from rfl)
          have HX' := Aside0.mk hX'
          have HY' := Aside0.mk hY'
          have HR' := Aside0.mk hR'
          clear hcut hX' hY' hR'
          go_wp2_with fail
          refine (wide_cut.calls 0 0 1000000000000000000 _ _ _ _ HC18.out).mono ?_
          rintro e wq ⟨rfl, hb⟩
          have HG1 := Aside0.mk (blk_below HG.out hb)
          have HB1 := Aside0.mk (below_then HB.out HB.out.size hb)
          clear hb
          have hx0 : wq.cell? ⟨W1.heap.size, 39, none⟩ = some (.int .u8 0) := by
            rw [blk_cell HG1.out, bcells_get _ (by omega)]
          have hf0 : wq.frozen? ⟨W1.heap.size, 39, none⟩ = false := blk_frozen HG1.out _
          go_wp2_with fail
          go_roundw
          case rel =>
            have e3 := HR'.out
            have e4 := dig_new (N := N) (show 0 % 18 = 0 from rfl)
            have e5 := rr_new (N := N) (show 0 % 18 = 0 from rfl)
            have e6 := qq_new (N := N) (show 0 % 18 = 0 from rfl)
            refine ShowRel.step hn38 Hgg HI HG1 HB1 HS' (by rw [e6, ← HX'.out]) (by rw [e6, ← HY'.out]) (by rw [e5]; omega) _ (u8_int ?_)
            first | omega | (simp only [IntKind.wrap_u8', IntKind.wrap_u64]; omega)
          case measure => simp [intOf]
        · have z3 : (R == 0) = false := beq_eq_false_iff_ne.2 r
          have z4 : (R != 0) = true := by rw [bne, z3]; rfl
          clear hZ0 z r x0 y0
          by_cases hm18 : n % 18 = 0
          · skip
            have e1 : ((n : Int) % 18 == 0) = true := beq_iff_eq.2 (by omega)
            have hcut := cut_f (qq N n) (by have := qq_le N n; have := HN.out; omega)
            obtain ⟨X', hX'⟩ : ∃ z, ((qq N n / 1000000000000000000 / 18446744073709551616 : Nat) : Int) = z := ⟨_, rfl⟩
            obtain ⟨Y', hY'⟩ : ∃ z, ((qq N n / 1000000000000000000 % 18446744073709551616 : Nat) : Int) = z := ⟨_, rfl⟩
            obtain ⟨R', hR'⟩ : ∃ z, ((qq N n % 1000000000000000000 : Nat) : Int) = z := ⟨_, rfl⟩
            rw [← HX.out, ← HY.out, hX', hY', hR'] at hcut
            have r0 : 0 ≤ R' := by omega
            have r1 : R' < 1000000000000000000 := by omega
            have HC18 := Aside0.mk hcut
            have E18 := Aside0.mk hm18
            have HX' := Aside0.mk hX'
            have HY' := Aside0.mk hY'
            have HR' := Aside0.mk hR'
            clear hcut hm18 hx0 hf0 hX' hY' hR'
            go_wp2_with fail
            refine (wide_cut.calls X Y 1000000000000000000 _ _ _ _ HC18.out).mono ?_
            rintro e wq ⟨rfl, hb⟩
            have HG1 := Aside0.mk (blk_below HG.out hb)
            have HB1 := Aside0.mk (below_then HB.out HB.out.size hb)
            clear hb
            have hx0 : wq.cell? ⟨W1.heap.size, i.toNat - 1, none⟩ = some (.int .u8 0) := by
              rw [blk_cell HG1.out, bcells_get _ (by have := HI.out; omega)]
            have hf0 : wq.frozen? ⟨W1.heap.size, i.toNat - 1, none⟩ = false := blk_frozen HG1.out _
            go_wp2_with fail
            go_roundw
            case rel =>
              have e3 := HR'.out
              have e4 := dig_new (N := N) E18.out
              have e5 := rr_new (N := N) E18.out
              have e6 := qq_new (N := N) E18.out
              refine ShowRel.step hn38 Hgg HI HG1 HB1 HS' (by rw [e6, ← HX'.out]) (by rw [e6, ← HY'.out]) (by rw [e5]; omega) _ (u8_int ?_)
              first | omega | (simp only [IntKind.wrap_u8', IntKind.wrap_u64]; omega)
            case measure => simp [intOf]; omega
          · skip
            have e1 : ((n : Int) % 18 == 0) = false := beq_eq_false_iff_ne.2 (by omega)
            have E18 := Aside0.mk hm18
            clear hm18
            go_wp2_with fail
            go_roundw
            case rel =>
              have e3 := HR.out
              have e4 := dig_old (N := N) E18.out
              have e5 := rr_old (N := N) E18.out
              have e6 := qq_old (N := N) E18.out
              refine ShowRel.step hn38 Hgg HI HG HB HS' (by rw [e6, ← HX.out]) (by rw [e6, ← HY.out]) (by rw [e5]; omega) _ (u8_int ?_)
              first | omega | (simp only [IntKind.wrap_u8', IntKind.wrap_u64]; omega)
            case measure => simp [intOf]; omega
      · have z1 : (Zo == 0) = false := beq_eq_false_iff_ne.2 z
        have z2 : (Zo != 0) = true := by rw [bne, z1]; rfl
        clear hZ0 z
        by_cases hm18 : n % 18 = 0
        · skip
          have e1 : ((n : Int) % 18 == 0) = true := beq_iff_eq.2 (by omega)
          have hcut := cut_f (qq N n) (by have := qq_le N n; have := HN.out; omega)
          obtain ⟨X', hX'⟩ : ∃ z, ((qq N n / 1000000000000000000 / 18446744073709551616 : Nat) : Int) = z := ⟨_, rfl⟩
          obtain ⟨Y', hY'⟩ : ∃ z, ((qq N n / 1000000000000000000 % 18446744073709551616 : Nat) : Int) = z := ⟨_, rfl⟩
          obtain ⟨R', hR'⟩ : ∃ z, ((qq N n % 1000000000000000000 : Nat) : Int) = z := ⟨_, rfl⟩
          rw [← HX.out, ← HY.out, hX', hY', hR'] at hcut
          have r0 : 0 ≤ R' := by omega
          have r1 : R' < 1000000000000000000 := by omega
          have HC18 := Aside0.mk hcut
          have E18 := Aside0.mk hm18
          have HX' := Aside0.mk hX'
          have HY' := Aside0.mk hY'
          have HR' := Aside0.mk hR'
          clear hcut hm18 hx0 hf0 hX' hY' hR'
          go_wp2_with fail
          refine (wide_cut.calls X Y 1000000000000000000 _ _ _ _ HC18.out).mono ?_
          rintro e wq ⟨rfl, hb⟩
          have HG1 := Aside0.mk (blk_below HG.out hb)
          have HB1 := Aside0.mk (below_then HB.out HB.out.size hb)
          clear hb
          have hx0 : wq.cell? ⟨W1.heap.size, i.toNat - 1, none⟩ = some (.int .u8 0) := by
            rw [blk_cell HG1.out, bcells_get _ (by have := HI.out; omega)]
          have hf0 : wq.frozen? ⟨W1.heap.size, i.toNat - 1, none⟩ = false := blk_frozen HG1.out _
          go_wp2_with fail
          go_roundw
          case rel =>
            have e3 := HR'.out
            have e4 := dig_new (N := N) E18.out
            have e5 := rr_new (N := N) E18.out
            have e6 := qq_new (N := N) E18.out
            refine ShowRel.step hn38 Hgg HI HG1 HB1 HS' (by rw [e6, ← HX'.out]) (by rw [e6, ← HY'.out]) (by rw [e5]; omega) _ (u8_int ?_)
            first | omega | (simp only [IntKind.wrap_u8', IntKind.wrap_u64]; omega)
          case measure => simp [intOf]; omega
        · skip
          have e1 : ((n : Int) % 18 == 0) = false := beq_eq_false_iff_ne.2 (by omega)
          have E18 := Aside0.mk hm18
          clear hm18
          go_wp2_with fail
          go_roundw
          case rel =>
            have e3 := HR.out
            have e4 := dig_old (N := N) E18.out
            have e5 := rr_old (N := N) E18.out
            have e6 := qq_old (N := N) E18.out
            refine ShowRel.step hn38 Hgg HI HG HB HS' (by rw [e6, ← HX.out]) (by rw [e6, ← HY.out]) (by rw [e5]; omega) _ (u8_int ?_)
            first | omega | (simp only [IntKind.wrap_u8', IntKind.wrap_u64]; omega)
          case measure => simp [intOf]; omega
/-- The text of a number. -/
def wide_show.f (a0_0 : Int) (a0_1 : Int) : Option ByteArray := if WOk a0_0 a0_1 then some (strOfNums (if a0_0 < 0 then 45 :: chars (wv a0_0 a0_1).natAbs (dlen (wv a0_0 a0_1).natAbs) else chars (wv a0_0 a0_1).natAbs (dlen (wv a0_0 a0_1).natAbs))) else none
theorem wide_show.calls (a0_0 : Int) (a0_1 : Int) (r : ByteArray) (w : World) (h : wide_show.f a0_0 a0_1 = some r) :
    Calls Try.prog 36 #[.agg #[.int .i64 a0_0, .int .u64 a0_1]] w fun e w' => e = .returned (.string r) ∧ Below w.heap.size w w' := by
  unfold wide_show.f at h
  by_cases hb : WOk a0_0 a0_1
  · rw [if_pos hb] at h
    obtain rfl := Option.some.inj h
    obtain ⟨b1, b2⟩ := hb
    by_cases hn : a0_0 < 0
    · rw [if_pos hn]
      have hs : wide_sub.f 0 0 a0_0 a0_1 = some (whi (-(wv a0_0 a0_1)), wlo (-(wv a0_0 a0_1))) := by
        unfold wide_sub.f
        rw [if_pos ⟨⟨by omega, by omega⟩, b1, b2⟩]
        have e0 : wv 0 0 - wv a0_0 a0_1 = -(wv a0_0 a0_1) := by unfold wv; omega
        rw [e0]
      refine show_neg a0_0 a0_1 _ _ (wv a0_0 a0_1).natAbs ⟨by unfold wv; omega⟩ ⟨hs⟩ ⟨?_⟩ ⟨by unfold wlo; omega⟩ (decide_eq_true hn) _ ⟨dlen_ok _⟩ w
      rw [IntKind.wrap_u64]
      unfold whi wlo wv wrap64
      omega
    · rw [if_neg hn]
      exact show_pos a0_0 a0_1 (wv a0_0 a0_1).natAbs ⟨by unfold wv; omega⟩ ⟨by unfold wv; omega⟩ ⟨by omega⟩ ⟨b2⟩ (decide_eq_false hn) _ ⟨dlen_ok _⟩ w
  · rw [if_neg hb] at h
    cases h
end Go.Proofs.Ytbccokfdkieakaa.F
end

section
namespace Go.Proofs.Ytbccokfdkieakaa.F
open Go.RowKit Go.Proofs.YtbccokfdkieakaaW.PrintWords Go.Proofs.YtbccokfdkieakaaW.PrintLast Go.Proofs.YtbccokfdkieakaaW.PrintMore
attribute [local go_sem] max2_int min2_int max_two min_two max_three min_three max_four min_four   -- for this text's walks alone
set_option linter.unusedVariables false
set_option linter.unusedSimpArgs false

/-! ### wide_Show: function 27 -/
def wide_Show.f (a0_0 : Int) (a0_1 : Int) : Option (ByteArray) := (wide_show.f a0_0 a0_1).bind fun t125 => (some t125)
set_option maxHeartbeats 8000000 in
set_option maxRecDepth 100000 in
theorem wide_Show.calls (a0_0 : Int) (a0_1 : Int) (r : ByteArray) (w : World) (h : wide_Show.f a0_0 a0_1 = some r) :
    Calls Try.prog 27 #[.agg #[.int .i64 a0_0, .int .u64 a0_1]] w fun e w' => e = .returned (.string r) ∧ Below w.heap.size w w' := by
  have hu24 := Try.underlying24
  have HB := Aside0.mk (Below.refl w.heap.size w)
  have H : ((wide_show.f a0_0 a0_1).bind fun t125 => (some t125)) = some r := h
  clear h
  replace H := Option.bind_eq_some_iff.mp H
  obtain ⟨t125, A20, H⟩ := H
  replace H : (some t125) = some r := H
  have A2 := Aside0.mk A20
  clear A20
  obtain rfl := Option.some.inj H
  go_enter Try.func27, Try.ntmps27
  go_wp2_with (first | ((with_reducible refine gate_dst (N := 1) rfl ?_); refine box_event ?hg (N := 1) ?hd (cs := #[.int .i64 a0_0, .int .u64 a0_1]) (t := 24) ?hr ?_; (case hd => rfl); (case hg => rfl); (case hr => first | (go_simp; done) | (go_simp; rfl)); intro gb124 hg w3 hbox hb; have n0_ := Aside0.mk (below_step (by repeat (first | (with_reducible first | exact HB.out | apply below_alloc | apply pw_below_drewN | apply below_drew1) | exact HB.out)) hb); have n1_ := Aside0.mk (hbox); have n2_ := Aside0.mk ((by rw [hg]; exact (below_size (by repeat (first | (with_reducible first | exact HB.out | apply below_alloc | apply pw_below_drewN | apply below_drew1) | exact HB.out))) : w.heap.size ≤ gb124)); have n3_ := Aside0.mk ((by rw [hg]; exact (below_size (by repeat (first | (with_reducible first | exact HB.out | apply below_alloc | apply pw_below_drewN | apply below_drew1) | exact HB.out))) : w.heap.size ≤ gb124)); clear HB; have HB := n0_; have BK124 := n1_; have GW124 := n2_; have GE124 := n3_; clear n0_ n1_ n2_ n3_; clear hb hbox hg; have hcz4_0 : w3.cell? ⟨gb124, 0, none⟩ = some (.int .i64 a0_0) := (blk_cell BK124.out 0).trans rfl; have hcz4_1 : w3.cell? ⟨gb124, 1, none⟩ = some (.int .u64 a0_1) := (blk_cell BK124.out 1).trans rfl; have hfz4_0 := blk_frozen BK124.out 0; have hfz4_1 := blk_frozen BK124.out 1) | ((with_reducible refine gate_callee (f := 36) rfl ?_); refine goesL_ (some 4) rfl rfl Try.func36 (by kernel_rfl) rfl #[.agg #[.int .i64 a0_0, .int .u64 a0_1]] rfl (by (try simp only [List.map_toArray, List.map_cons, List.map_nil]); first | done | rfl | (simp only [List.length_drop, List.length_take]; rfl)) ?_; (with_reducible refine (wide_show.calls a0_0 a0_1 t125 _ A2.out).mono ?_); rintro e w5 ⟨rfl, hb⟩; refine ⟨_, rfl, ?_⟩; have n0_ := Aside0.mk (blk_below (g := gb124) (o := .cells #[.int .i64 a0_0, .int .u64 a0_1] 24 (0, 0)) (by (with_reducible repeat (first | refine blk_drewN ?_ _ | refine blk_drew ?_ | refine blk_alloc ?_ _)); exact BK124.out) hb); have n1_ := Aside0.mk (below_step (by repeat (first | (with_reducible first | exact HB.out | apply below_alloc | apply pw_below_drewN | apply below_drew1 | refine below_set ?_ GE124.out) | exact HB.out)) hb); clear BK124; clear HB; have BK124 := n0_; have HB := n1_; clear n0_ n1_; (try clear hb); (try clear hb2); (try clear hk); (try clear hi)))
  go_ret
  exact ⟨by first | rfl | (simp [errW_none, errW_some] <;> rfl) | (simp [*, errW_none, errW_some] <;> rfl), by repeat (first | (with_reducible first | exact HB.out | apply below_alloc | apply pw_below_drewN | apply below_drew1 | refine below_set ?_ GE124.out) | exact HB.out)⟩

end Go.Proofs.Ytbccokfdkieakaa.F
end

section
namespace Go.Proofs.Ytbccokfdkieakaa.F
open Go.RowKit Go.Proofs.YtbccokfdkieakaaW.PrintWords Go.Proofs.YtbccokfdkieakaaW.PrintLast Go.Proofs.YtbccokfdkieakaaW.PrintMore
attribute [local go_sem] max2_int min2_int max_two min_two max_three min_three max_four min_four   -- for this text's walks alone
set_option linter.unusedVariables false
set_option linter.unusedSimpArgs false

/-! ### zelligelaw01_lives: function 16 -/
def zelligelaw01_lives.f  : Option (Bool) := (wide_Mul.f (-3) 4611686018427387904).bind fun bt126 => ((wide_Show.f bt126.1 bt126.2).bind fun t128 => (some (t128.toList == ([45, 49, 51, 56, 51, 53, 48, 53, 56, 48, 53, 53, 50, 56, 50, 49, 54, 51, 55, 49, 50] : List UInt8))))
set_option maxHeartbeats 8000000 in
set_option maxRecDepth 100000 in
theorem zelligelaw01_lives.calls  (r : Bool) (w : World) (h : zelligelaw01_lives.f  = some r) :
    Calls Try.prog 16 #[] w fun e w' => e = .returned (.bool r) ∧ Below w.heap.size w w' := by
  have HB := Aside0.mk (Below.refl w.heap.size w)
  have H : ((wide_Mul.f (-3) 4611686018427387904).bind fun bt126 => ((wide_Show.f bt126.1 bt126.2).bind fun t128 => (some (t128.toList == ([45, 49, 51, 56, 51, 53, 48, 53, 56, 48, 53, 53, 50, 56, 50, 49, 54, 51, 55, 49, 50] : List UInt8))))) = some r := h
  clear h
  replace H := Option.bind_eq_some_iff.mp H
  obtain ⟨⟨t126, t127⟩, A10, H⟩ := H
  replace H : ((wide_Show.f t126 t127).bind fun t128 => (some (t128.toList == ([45, 49, 51, 56, 51, 53, 48, 53, 56, 48, 53, 53, 50, 56, 50, 49, 54, 51, 55, 49, 50] : List UInt8)))) = some r := H
  have A1 := Aside0.mk A10
  clear A10
  replace H := Option.bind_eq_some_iff.mp H
  obtain ⟨t128, A20, H⟩ := H
  replace H : (some (t128.toList == ([45, 49, 51, 56, 51, 53, 48, 53, 56, 48, 53, 53, 50, 56, 50, 49, 54, 51, 55, 49, 50] : List UInt8))) = some r := H
  have A2 := Aside0.mk A20
  clear A20
  obtain rfl := Option.some.inj H
  go_enter Try.func16, Try.ntmps16
  go_wp2_with (first | ((with_reducible refine gate_callee (f := 12) rfl ?_); refine goesL_ (some 1) rfl rfl Try.func12 (by kernel_rfl) rfl #[.int .i64 (-3), .int .i64 4611686018427387904] rfl (by (try simp only [List.map_toArray, List.map_cons, List.map_nil]); first | done | rfl | (simp only [List.length_drop, List.length_take]; rfl)) ?_; (with_reducible refine (wide_Mul.calls (-3) 4611686018427387904 t126 t127 _ A1.out).mono ?_); rintro e w3 ⟨rfl, hb⟩; refine ⟨_, rfl, ?_⟩; have n0_ := Aside0.mk (below_step (by repeat (first | (with_reducible first | exact HB.out | apply below_alloc | apply pw_below_drewN | apply below_drew1) | exact HB.out)) hb); clear HB; have HB := n0_; clear n0_; (try clear hb); (try clear hb2); (try clear hk); (try clear hi)) | ((with_reducible refine gate_callee (f := 27) rfl ?_); refine goesL_ (some 2) rfl rfl Try.func27 (by kernel_rfl) rfl #[.agg #[.int .i64 t126, .int .u64 t127]] rfl (by (try simp only [List.map_toArray, List.map_cons, List.map_nil]); first | done | rfl | (simp only [List.length_drop, List.length_take]; rfl)) ?_; (with_reducible refine (wide_Show.calls t126 t127 t128 _ A2.out).mono ?_); rintro e w4 ⟨rfl, hb⟩; refine ⟨_, rfl, ?_⟩; have n0_ := Aside0.mk (below_step (by repeat (first | (with_reducible first | exact HB.out | apply below_alloc | apply pw_below_drewN | apply below_drew1) | exact HB.out)) hb); clear HB; have HB := n0_; clear n0_; (try clear hb); (try clear hb2); (try clear hk); (try clear hi)))
  go_ret
  exact ⟨by first | rfl | (simp [errW_none, errW_some] <;> rfl) | (simp [*, errW_none, errW_some] <;> rfl), by repeat (first | (with_reducible first | exact HB.out | apply below_alloc | apply pw_below_drewN | apply below_drew1) | exact HB.out)⟩

end Go.Proofs.Ytbccokfdkieakaa.F
end

section
/- Numbers of 128 bits as two words: what wide's functions come to. Plain numbers. -/
namespace Go.Proofs.Ytbccokfdkieakaa.Wd
open Go Go.RowKit Go.Proofs.YtbccokfdkieakaaW.PrintWords Go.Proofs.Ytbccokfdkieakaa.F
set_option linter.unusedVariables false

theorem wok_of (n : Int) : WOk (whi n) (wlo n) := by
  unfold whi wlo wrap64
  exact ⟨by omega, by omega⟩
theorem wv_of (n : Int) : ∃ t : Int, wv (whi n) (wlo n) = n + 340282366920938463463374607431768211456 * t := by
  unfold wv whi wlo wrap64
  exact ⟨-((n / 18446744073709551616 + 9223372036854775808) / 18446744073709551616), by omega⟩
/-- The words of a number are those of any number that is the same modulo 2^128. -/
theorem wcong {n m t : Int} (h : n = m + 340282366920938463463374607431768211456 * t) : whi n = whi m ∧ wlo n = wlo m := by
  unfold whi wlo wrap64
  omega
theorem wuniq {h l : Int} (ok : WOk h l) : whi (wv h l) = h ∧ wlo (wv h l) = l := by
  obtain ⟨h1, h2⟩ := ok
  unfold whi wlo wv wrap64
  omega
theorem weq {h l n t : Int} (ok : WOk h l) (e : n = wv h l + 340282366920938463463374607431768211456 * t) : whi n = h ∧ wlo n = l := by
  obtain ⟨e1, e2⟩ := wcong e
  obtain ⟨e3, e4⟩ := wuniq ok
  exact ⟨e1.trans e3, e2.trans e4⟩
/-- A wide that is small enough is told as it is. -/
theorem wv_small {n : Int} (h : -170141183460469231731687303715884105728 ≤ n ∧ n < 170141183460469231731687303715884105728) : wv (whi n) (wlo n) = n := by
  unfold wv whi wlo wrap64
  omega
theorem wv_le {h l : Int} (ok : WOk h l) : -170141183460469231731687303715884105728 ≤ wv h l ∧ wv h l < 170141183460469231731687303715884105728 := by
  obtain ⟨h1, h2⟩ := ok
  unfold wv
  omega
theorem wadd_f {a b c d : Int} (h : WOk a b) (h' : WOk c d) : wide_Add.f a b c d = some (whi (wv a b + wv c d), wlo (wv a b + wv c d)) := by
  unfold wide_Add.f wide_add.f
  rw [if_pos ⟨h, h'⟩, Option.bind_some]
theorem wsub_f {a b c d : Int} (h : WOk a b) (h' : WOk c d) : wide_Sub.f a b c d = some (whi (wv a b - wv c d), wlo (wv a b - wv c d)) := by
  unfold wide_Sub.f wide_sub.f
  rw [if_pos ⟨h, h'⟩, Option.bind_some]
theorem wneg_f {a b : Int} (h : WOk a b) : wide_Neg.f a b = some (whi (-(wv a b)), wlo (-(wv a b))) := by
  unfold wide_Neg.f wide_sub.f
  rw [if_pos ⟨⟨by omega, by omega⟩, h⟩, Option.bind_some]
  have e : wv 0 0 - wv a b = -(wv a b) := by unfold wv; omega
  rw [e]
theorem of_f {a : Int} (h : -9223372036854775808 ≤ a ∧ a ≤ 9223372036854775807) : wide_Of.f a = some (whi a, wlo a) := by
  unfold wide_Of.f
  rw [IntKind.wrap_u64]
  have e : whi a = a / 9223372036854775808 := by unfold whi wrap64; omega
  rw [e]
  rfl
theorem mask_n (a : Nat) (ha : a < 18446744073709551616) : bits .and .u64 (a : Int) 4294967295 = ((a % 4294967296 : Nat) : Int) := by
  rw [and_mask _ (by omega) (by omega)]; omega
theorem wrap_n (a : Nat) (ha : a < 18446744073709551616) : IntKind.u64.wrap (a : Int) = (a : Int) := by rw [IntKind.wrap_u64]; omega
theorem mul64_f {x y : Int} (hx : 0 ≤ x ∧ x < 18446744073709551616) (hy : 0 ≤ y ∧ y < 18446744073709551616) : bits_Mul64.f x y = some (x * y / 18446744073709551616, x * y % 18446744073709551616) := by
  obtain ⟨X, rfl⟩ := Int.eq_ofNat_of_zero_le hx.1
  obtain ⟨Y, rfl⟩ := Int.eq_ofNat_of_zero_le hy.1
  obtain ⟨m1, m2, m3, m4⟩ := Lib.mul64_hi X Y (by omega) (by omega)
  have ba := Lib.half_mul_le (a := X / 4294967296) (b := Y / 4294967296) (by omega) (by omega)
  have bb := Lib.half_mul_le (a := X / 4294967296) (b := Y % 4294967296) (by omega) (by omega)
  have bc := Lib.half_mul_le (a := X % 4294967296) (b := Y / 4294967296) (by omega) (by omega)
  have d1 : ((X : Int)) / 4294967296 = ((X / 4294967296 : Nat) : Int) := by omega
  have d2 : ((Y : Int)) / 4294967296 = ((Y / 4294967296 : Nat) : Int) := by omega
  have e1 : (X : Int) * (Y : Int) / 18446744073709551616 = ((X * Y / 18446744073709551616 : Nat) : Int) := by rw [← Int.natCast_mul]; omega
  have e2 : IntKind.u64.wrap ((X : Int) * (Y : Int)) = (X : Int) * (Y : Int) % 18446744073709551616 := IntKind.wrap_u64 _
  unfold bits_Mul64.f
  rw [e1, e2, mask_n X (by omega), mask_n Y (by omega), d1, d2, ← Int.natCast_mul, ← Int.natCast_mul, ← Int.natCast_mul, ← Int.natCast_mul, ← m4]
  clear e1 e2 d1 d2
  generalize X / 4294967296 * (Y / 4294967296) = p at m4 ba ⊢
  generalize X / 4294967296 * (Y % 4294967296) = q at m2 m3 m4 bb ⊢
  generalize X % 4294967296 * (Y / 4294967296) = r at m3 m4 bc ⊢
  generalize X % 4294967296 * (Y % 4294967296) = s at m1 m2 m3 m4 ⊢
  have f1 : ((s : Int)) / 4294967296 = ((s / 4294967296 : Nat) : Int) := by omega
  have f2 : (q : Int) + ((s / 4294967296 : Nat) : Int) = ((q + s / 4294967296 : Nat) : Int) := by omega
  have f3 : ((q + s / 4294967296 : Nat) : Int) / 4294967296 = (((q + s / 4294967296) / 4294967296 : Nat) : Int) := by omega
  have f4 : (((q + s / 4294967296) % 4294967296 : Nat) : Int) + (r : Int) = (((q + s / 4294967296) % 4294967296 + r : Nat) : Int) := by omega
  have f5 : (((q + s / 4294967296) % 4294967296 + r : Nat) : Int) / 4294967296 = ((((q + s / 4294967296) % 4294967296 + r) / 4294967296 : Nat) : Int) := by omega
  rw [wrap_n s m1, f1, wrap_n q (by omega), f2, wrap_n _ m2, f3, mask_n _ m2, wrap_n r (by omega), f4, wrap_n _ m3, f5, wrap_n p (by omega)]
  have hlt : p + (q + s / 4294967296) / 4294967296 + ((q + s / 4294967296) % 4294967296 + r) / 4294967296 < 18446744073709551616 := by
    rw [m4]
    have hXY : X * Y < 18446744073709551616 * 18446744073709551616 := Nat.mul_lt_mul_of_lt_of_lt (by omega) (by omega)
    omega
  have f6 : (p : Int) + (((q + s / 4294967296) / 4294967296 : Nat) : Int) = ((p + (q + s / 4294967296) / 4294967296 : Nat) : Int) := by omega
  have f7 : ((p + (q + s / 4294967296) / 4294967296 : Nat) : Int) + ((((q + s / 4294967296) % 4294967296 + r) / 4294967296 : Nat) : Int) = ((p + (q + s / 4294967296) / 4294967296 + ((q + s / 4294967296) % 4294967296 + r) / 4294967296 : Nat) : Int) := by omega
  rw [f6, wrap_n _ (by omega), f7, wrap_n _ hlt]
/-- Mul: the product. -/
theorem wmul_f {a b : Int} (ha : -9223372036854775808 ≤ a ∧ a ≤ 9223372036854775807) (hb : -9223372036854775808 ≤ b ∧ b ≤ 9223372036854775807) : wide_Mul.f a b = some (whi (a * b), wlo (a * b)) := by
  unfold wide_Mul.f
  have wa := IntKind.wrap_u64 a
  have wb := IntKind.wrap_u64 b
  rw [mul64_f (by omega) (by omega), Option.bind_some]
  generalize hU : IntKind.u64.wrap a = U at wa ⊢
  generalize hV : IntKind.u64.wrap b = V at wb ⊢
  clear hU hV
  have w1 := fun z => IntKind.wrap_u64 z
  by_cases na : a < 0
  · obtain rfl : U = a + 18446744073709551616 := by omega
    rw [if_pos na]
    by_cases nb : b < 0
    · obtain rfl : V = b + 18446744073709551616 := by omega
      have e : (a + 18446744073709551616) * (b + 18446744073709551616) = a * b + 18446744073709551616 * (a + b + 18446744073709551616) := by grind
      rw [if_pos nb, w1, w1, e]
      generalize a * b = M
      unfold whi wlo wrap64
      congr 2
      · omega
      · omega
    · obtain rfl : V = b := by omega
      have e : (a + 18446744073709551616) * V = a * V + 18446744073709551616 * V := by grind
      rw [if_neg nb, w1, e]
      generalize a * V = M
      unfold whi wlo wrap64
      congr 2
      · omega
      · omega
  · obtain rfl : U = a := by omega
    rw [if_neg na]
    by_cases nb : b < 0
    · obtain rfl : V = b + 18446744073709551616 := by omega
      have e : U * (b + 18446744073709551616) = U * b + 18446744073709551616 * U := by grind
      rw [if_pos nb, w1, e]
      generalize U * b = M
      unfold whi wlo wrap64
      congr 2
      · omega
      · omega
    · obtain rfl : V = b := by omega
      rw [if_neg nb]
      generalize U * V = M
      unfold whi wlo wrap64
      congr 2
theorem small_f {h l : Int} (ok : WOk h l) : wide_Small.f h l = some (if -9223372036854775808 ≤ wv h l ∧ wv h l ≤ 9223372036854775807 then (wv h l, true) else (0, false)) := by
  obtain ⟨h1, h2⟩ := ok
  unfold wide_Small.f
  by_cases k : -9223372036854775808 ≤ wv h l ∧ wv h l ≤ 9223372036854775807
  · rw [if_pos k]
    unfold wv at k ⊢
    have e : wrap64 l = h * 18446744073709551616 + l := by unfold wrap64; omega
    rw [e, if_pos (by omega)]
  · rw [if_neg k]
    unfold wv at k
    rw [if_neg (by unfold wrap64; omega)]
theorem cmp_f {a b c d : Int} (h : WOk a b) (h' : WOk c d) : wide_Cmp.f a b c d = some (if wv a b < wv c d then -1 else if wv c d < wv a b then 1 else 0) := by
  obtain ⟨h1, h2⟩ := h
  obtain ⟨h3, h4⟩ := h'
  unfold wide_Cmp.f wv
  by_cases k : a = c ∧ b = d
  · obtain ⟨rfl, rfl⟩ := k
    rw [if_pos ⟨rfl, rfl⟩, if_neg (by omega), if_neg (by omega)]
  · rw [if_neg k]
    by_cases k1 : a < c
    · rw [if_pos k1, if_pos (by omega)]
    · rw [if_neg k1]
      by_cases k2 : a = c ∧ b < d
      · rw [if_pos k2, if_pos (by omega)]
      · rw [if_neg k2, if_neg (by omega), if_pos (by omega)]
theorem sign_f {h l : Int} (ok : WOk h l) : wide_Sign.f h l = some (wv h l).sign := by
  obtain ⟨h1, h2⟩ := ok
  unfold wide_Sign.f wide_sign.f
  by_cases k : h < 0
  · rw [if_pos k, Option.bind_some, Int.sign_eq_neg_one_of_neg (by unfold wv; omega)]
  · rw [if_neg k]
    by_cases k2 : h = 0
    · rw [if_pos k2]
      by_cases k3 : l = 0
      · rw [if_pos k3, Option.bind_some, k2, k3]; rfl
      · rw [if_neg k3, Option.bind_some, Int.sign_eq_one_of_pos (by unfold wv; omega)]
    · rw [if_neg k2, Option.bind_some, Int.sign_eq_one_of_pos (by unfold wv; omega)]
/-! ### lives -/
theorem dlen_eq {N n : Nat} (h : 1 ≤ n) (h0 : N / 10 ^ n = 0) (h1 : ¬ N / 10 ^ (n - 1) = 0) : dlen N = n := by
  obtain ⟨d1, d2, d3⟩ := dlen_ok N
  rcases Nat.lt_trichotomy (dlen N) n with k | k | k
  · exact absurd (Nat.div_eq_of_lt (Nat.lt_of_lt_of_le ((Nat.div_eq_zero_iff.1 d2).resolve_left (by have := Nat.pow_pos (n := dlen N) (show 0 < 10 by omega); omega)) (Nat.pow_le_pow_right (by omega) (by omega)))) h1
  · exact k
  · exact absurd h0 (d3 n k h)
theorem lives_true : zelligelaw01_lives.f = some true := by
  have e1 : wide_Mul.f (-3) 4611686018427387904 = some (whi (-13835058055282163712), wlo (-13835058055282163712)) := wmul_f (by omega) (by omega)
  have e2 : whi (-13835058055282163712) = -1 := by unfold whi wrap64; omega
  have e3 : wlo (-13835058055282163712) = 4611686018427387904 := by unfold wlo; omega
  have e4 : wide_Show.f (-1) 4611686018427387904 = some (strOfNums (45 :: chars 13835058055282163712 20)) := by
    unfold wide_Show.f wide_show.f
    have e5 : (wv (-1) 4611686018427387904).natAbs = 13835058055282163712 := by decide
    have e6 : dlen 13835058055282163712 = 20 := dlen_eq (by omega) (by decide) (by decide)
    rw [if_pos ⟨by omega, by omega⟩, Option.bind_some, if_pos (by omega), e5, e6]
  unfold zelligelaw01_lives.f
  rw [e1, Option.bind_some, e2, e3, e4, Option.bind_some]
  decide +kernel
end Go.Proofs.Ytbccokfdkieakaa.Wd
end

section
namespace Go.Proofs.Ytbccokfdkieakaa.F
open Go.RowKit Go.Proofs.YtbccokfdkieakaaW.PrintWords Go.Proofs.YtbccokfdkieakaaW.PrintLast Go.Proofs.YtbccokfdkieakaaW.PrintMore
attribute [local go_sem] max2_int min2_int max_two min_two max_three min_three max_four min_four   -- for this text's walks alone
set_option linter.unusedVariables false
set_option linter.unusedSimpArgs false

/-! ### zelligeref01_Of: function 15 -/
def zelligeref01_Of.l0 : Nat → List Int → Int → Int → Int → Option (List Int)
  | 0, _, _, _, _ => none
  | k + 1, x3, x4, x116000, x116001 => if x4 < 8 then (if 0 ≤ (IntKind.u64.wrap (wrap64 (8 * x4))) then (if 0 ≤ x4 then (if x4 < (x3.length : Int) then (if 0 ≤ (wrap64 (8 + x4)) then (if (wrap64 (8 + x4)) < (x3.length : Int) then (zelligeref01_Of.l0 k ((x3.set (x4 : Int).toNat (wrap64 (Go.bits .and .u64 (shr .u64 x116001 (IntKind.u64.wrap (wrap64 (8 * x4)))) 255))).set ((wrap64 (8 + x4)) : Int).toNat (wrap64 (Go.bits .and .u64 (shr .u64 (IntKind.u64.wrap (x116000)) (IntKind.u64.wrap (wrap64 (8 * x4)))) 255))) (wrap64 (x4 + 1)) x116000 x116001) else (none)) else (none)) else (none)) else (none)) else (none)) else (some x3)
def zelligeref01_Of.f (k : Nat) (a0_0 : Int) (a0_1 : Int) : Option (List Int) := if 16 ≤ 35184372088832 then (zelligeref01_Of.l0 k (List.replicate 16 0) 0 a0_0 a0_1) else (none)
theorem zelligeref01_Of.mono_l : ∀ k, (∀ y0 y1 y2 y3, LeO (zelligeref01_Of.l0 k y0 y1 y2 y3) (zelligeref01_Of.l0 (k + 1) y0 y1 y2 y3))
  | 0 => fun _ _ _ _ r h => by simp [zelligeref01_Of.l0] at h
  | k + 1 => by
    have ih0 := zelligeref01_Of.mono_l k
    · intro y0 y1 y2 y3
      unfold zelligeref01_Of.l0
      repeat' first
      | (with_reducible exact ih0 _ _ _ _)
      | (with_reducible exact LeO.refl _)
      | (with_reducible exact LeO.none _)
      | (with_reducible refine LeO.ite ?_ ?_)
      | (with_reducible refine LeO.bind ?_ (fun _ => ?_))
      | exact ih0 _ _ _ _
      | exact LeO.none _
      | refine LeO.ite ?_ ?_
      | refine LeO.bind ?_ (fun _ => ?_)
theorem zelligeref01_Of.mono : ∀ a0 a1 k, LeO (zelligeref01_Of.f k a0 a1) (zelligeref01_Of.f (k + 1) a0 a1) := by
  intro a0 a1 k
  have ih0 := zelligeref01_Of.mono_l k
  unfold zelligeref01_Of.f
  repeat' first
      | (with_reducible exact ih0 _ _ _ _)
      | (with_reducible exact LeO.refl _)
      | (with_reducible exact LeO.none _)
      | (with_reducible refine LeO.ite ?_ ?_)
      | (with_reducible refine LeO.bind ?_ (fun _ => ?_))
      | exact ih0 _ _ _ _
      | exact LeO.none _
      | refine LeO.ite ?_ ?_
      | refine LeO.bind ?_ (fun _ => ?_)
set_option maxHeartbeats 8000000 in
set_option maxRecDepth 100000 in
theorem zelligeref01_Of.calls (k : Nat) (a0_0 : Int) (a0_1 : Int) (r : List Int) (w : World) (h : zelligeref01_Of.f k a0_0 a0_1 = some r) :
    Calls Try.prog 15 #[.agg #[.int .i64 a0_0, .int .u64 a0_1]] w fun e w' => ∃ v0_ : Value, e = .returned (v0_) ∧ Kd.R (Kd.int .i64) 3 w' w.heap.size (fun _ => True) v0_ r ∧ Below w.heap.size w w' := by
  have hu24 := Try.underlying24
  have HB := Aside0.mk (Below.refl w.heap.size w)
  have H : (if 16 ≤ 35184372088832 then (zelligeref01_Of.l0 k (List.replicate 16 0) 0 a0_0 a0_1) else (none)) = some r := h
  clear h
  by_cases c2 : 16 ≤ 35184372088832
  · rw [if_pos c2] at H
    have c2b0 := eq_true c2
    have c2b1 : decide (16 ≤ 35184372088832) = true := decide_eq_true c2
    clear c2
    obtain ⟨y116, hy116⟩ : ∃ y_ : List Int, y_ = (List.replicate 16 0) := ⟨_, rfl⟩
    replace H : (zelligeref01_Of.l0 k y116 0 a0_0 a0_1) = some r := by first | (rw [hy116]; with_reducible exact H) | (have H2_ := (Option.bind_some _ _).symm.trans H; rw [hy116]; with_reducible exact H2_) | (have H2_ := (Option.bind_some _ _).symm.trans H; with_reducible exact H2_) | with_reducible exact H | (rw [hy116]; exact H) | exact H
    have Ny116 := Aside0.mk hy116
    clear hy116
    have H' := Aside0.mk H
    clear H
    go_enter Try.func15, Try.ntmps15
    go_wp2_with (first | ((with_reducible refine gate_dst (N := 1) rfl ?_); refine box_event ?hg (N := 1) ?hd (cs := #[.int .i64 a0_0, .int .u64 a0_1]) (t := 24) ?hr ?_; (case hd => rfl); (case hg => rfl); (case hr => first | (go_simp; done) | (go_simp; rfl)); intro gb115 hg w3 hbox hb; have n0_ := Aside0.mk (below_step (by repeat (first | (with_reducible first | exact HB.out | apply below_alloc | apply pw_below_drewN | apply below_drew1) | exact HB.out)) hb); have n1_ := Aside0.mk (hbox); have n2_ := Aside0.mk ((by rw [hg]; exact (below_size (by repeat (first | (with_reducible first | exact HB.out | apply below_alloc | apply pw_below_drewN | apply below_drew1) | exact HB.out))) : w.heap.size ≤ gb115)); have n3_ := Aside0.mk ((by rw [hg]; exact (below_size (by repeat (first | (with_reducible first | exact HB.out | apply below_alloc | apply pw_below_drewN | apply below_drew1) | exact HB.out))) : w.heap.size ≤ gb115)); clear HB; have HB := n0_; have BK115 := n1_; have GW115 := n2_; have GE115 := n3_; clear n0_ n1_ n2_ n3_; clear hb hbox hg) | ((with_reducible refine gate_dst (N := 5) rfl ?_); refine Kd.R_make (Kd.int .i64) _ 3 rfl (N := 5) rfl 28 _ _ rfl 16 rfl rfl Try.underlying28 (.int .i64 0) 8 info3 rfl (by decide) (by omega) 0 (ok := fun _ => True) (okp := fun _ => True) rfl (fun _ hk => hk) trivial (by omega) (by omega) (Below.refl _ _) (Nat.le_refl _) ?_; intro v117 w4 ho5 hb hg_ hnew_; clear hg_ hnew_; (first | rw [← Ny116.out] at ho5 | (simp only [Int.reduceToNat] at ho5; rw [← Ny116.out] at ho5)); have n0_ := Aside0.mk (Kd.R_lower ho5 (below_size (by repeat (first | (with_reducible first | exact HB.out | apply below_alloc | apply pw_below_drewN | apply below_drew1 | refine below_set ?_ GE115.out) | exact HB.out)))); have n1_ := Aside0.mk (blk_below (g := gb115) (o := .cells #[.int .i64 a0_0, .int .u64 a0_1] 24 (0, 0)) (by (with_reducible repeat (first | refine blk_drewN ?_ _ | refine blk_drew ?_ | refine blk_alloc ?_ _)); exact BK115.out) hb); have n2_ := Aside0.mk (below_step (by repeat (first | (with_reducible first | exact HB.out | apply below_alloc | apply pw_below_drewN | apply below_drew1 | refine below_set ?_ GE115.out) | exact HB.out)) hb); clear BK115; clear HB; have HO118 := n0_; have BK115 := n1_; have HB := n2_; clear n0_ n1_ n2_; clear hb ho5))
    go_loopg [4] k (fun kq v4 w' => ∃ (x3_1 : List Int) (x4_1 : Int), v4 = .int .i64 x4_1 ∧ Aside0 (zelligeref01_Of.l0 kq x3_1 x4_1 a0_0 a0_1 = some r) ∧ Aside0 (kq ≤ k) ∧ Aside0 (Kd.R (Kd.int .i64) 3 w' w.heap.size (fun _ => True) v117 x3_1) ∧ Aside0 (w'.heap[gb115]? = some (.cells #[.int .i64 a0_0, .int .u64 a0_1] 24 (0, 0))) ∧ Aside0 (Below w.heap.size w w'))
    case atStart => exact ⟨(y116), (0), (by first | rfl | (simp; done) | (simp [*]; done)), H', ⟨Nat.le_refl _⟩, ⟨by (with_reducible repeat (first | apply Kd.R_alloc | apply Kd.R_drewN | apply Kd.R_drew)); exact HO118.out⟩, ⟨by (with_reducible repeat (first | refine blk_drewN ?_ _ | refine blk_drew ?_ | refine blk_alloc ?_ _)); exact BK115.out⟩, ⟨by repeat (first | (with_reducible first | exact HB.out | apply below_alloc | apply pw_below_drewN | apply below_drew1 | refine below_set ?_ GE115.out) | exact HB.out)⟩⟩
    case round =>
      clear H'
      try clear c1
      try clear c2
      try clear c2b0
      try clear c2b1
      try clear p2
      obtain ⟨x3_1, x4_1, rfl, HA, HK1, HO_3, BK115, HB⟩ := hrel
      cases gk with
      | zero => exact absurd HA.out (by simp [zelligeref01_Of.l0])
      | succ k1 =>
        have H := HA.out
        clear HA
        simp only [zelligeref01_Of.l0] at H
        by_cases c6 : x4_1 < 8
        · rw [if_pos c6] at H
          have c6b0 : decide (x4_1 < 8) = true := decide_eq_true c6
          clear c6
          obtain ⟨ji7, hji7⟩ : ∃ j_ : Int, (IntKind.u64.wrap (wrap64 (8 * x4_1))) = j_ := ⟨_, rfl⟩
          replace H : (if 0 ≤ (ji7) then (if 0 ≤ x4_1 then (if x4_1 < (x3_1.length : Int) then (if 0 ≤ (wrap64 (8 + x4_1)) then (if (wrap64 (8 + x4_1)) < (x3_1.length : Int) then (zelligeref01_Of.l0 k1 ((x3_1.set (x4_1 : Int).toNat (wrap64 (Go.bits .and .u64 (shr .u64 a0_1 (ji7)) 255))).set ((wrap64 (8 + x4_1)) : Int).toNat (wrap64 (Go.bits .and .u64 (shr .u64 (IntKind.u64.wrap (a0_0)) (ji7)) 255))) (wrap64 (x4_1 + 1)) a0_0 a0_1) else (none)) else (none)) else (none)) else (none)) else (none)) = some r := by first | (rw [hji7] at H; exact H) | (simp only [hji7] at H ⊢; exact H)
          by_cases c8 : 0 ≤ (ji7)
          · rw [if_pos c8] at H
            have c8b0 := eq_true c8
            have c8b1 : decide (0 ≤ (ji7)) = true := decide_eq_true c8
            clear c8
            obtain ⟨ji9, hji9⟩ : ∃ j_ : Int, (shr .u64 a0_1 (ji7)) = j_ := ⟨_, rfl⟩
            replace H : (if 0 ≤ x4_1 then (if x4_1 < (x3_1.length : Int) then (if 0 ≤ (wrap64 (8 + x4_1)) then (if (wrap64 (8 + x4_1)) < (x3_1.length : Int) then (zelligeref01_Of.l0 k1 ((x3_1.set (x4_1 : Int).toNat (wrap64 (Go.bits .and .u64 (ji9) 255))).set ((wrap64 (8 + x4_1)) : Int).toNat (wrap64 (Go.bits .and .u64 (shr .u64 (IntKind.u64.wrap (a0_0)) (ji7)) 255))) (wrap64 (x4_1 + 1)) a0_0 a0_1) else (none)) else (none)) else (none)) else (none)) = some r := by first | (rw [hji9] at H; exact H) | (simp only [hji9] at H ⊢; exact H)
            have hji9_ : (a0_1 / 2 ^ min (ji7).toNat 64) = ji9 := hji9
            have hji9z : (ji7) ≤ 64 → (a0_1 / 2 ^ (ji7).toNat) = ji9 := shr_small hji9
            by_cases c10 : 0 ≤ x4_1
            · rw [if_pos c10] at H
              have c10b0 : decide (0 ≤ x4_1) = true := decide_eq_true c10
              clear c10
              by_cases c11 : x4_1 < (x3_1.length : Int)
              · rw [if_pos c11] at H
                have c11b0 : decide (x4_1 < (x3_1.length : Int)) = true := decide_eq_true c11
                clear c11
                obtain ⟨y119, hy119⟩ : ∃ y_ : List Int, y_ = (x3_1.set (x4_1 : Int).toNat (wrap64 (Go.bits .and .u64 (ji9) 255))) := ⟨_, rfl⟩
                replace H : (if 0 ≤ (wrap64 (8 + x4_1)) then (if (wrap64 (8 + x4_1)) < (x3_1.length : Int) then (zelligeref01_Of.l0 k1 (y119.set ((wrap64 (8 + x4_1)) : Int).toNat (wrap64 (Go.bits .and .u64 (shr .u64 (IntKind.u64.wrap (a0_0)) (ji7)) 255))) (wrap64 (x4_1 + 1)) a0_0 a0_1) else (none)) else (none)) = some r := by first | (rw [hy119]; with_reducible exact H) | (have H2_ := (Option.bind_some _ _).symm.trans H; rw [hy119]; with_reducible exact H2_) | (have H2_ := (Option.bind_some _ _).symm.trans H; with_reducible exact H2_) | with_reducible exact H | (rw [hy119]; exact H) | exact H
                have Ny119 := Aside0.mk hy119
                clear hy119
                have c13b0 := eq_true (of_decide_eq_true (by first | (with_reducible assumption) | assumption) : 0 ≤ (ji7))
                obtain ⟨ji14, hji14⟩ : ∃ j_ : Int, (shr .u64 (IntKind.u64.wrap (a0_0)) (ji7)) = j_ := ⟨_, rfl⟩
                replace H : (if 0 ≤ (wrap64 (8 + x4_1)) then (if (wrap64 (8 + x4_1)) < (x3_1.length : Int) then (zelligeref01_Of.l0 k1 (y119.set ((wrap64 (8 + x4_1)) : Int).toNat (wrap64 (Go.bits .and .u64 (ji14) 255))) (wrap64 (x4_1 + 1)) a0_0 a0_1) else (none)) else (none)) = some r := by first | (rw [hji14] at H; exact H) | (simp only [hji14] at H ⊢; exact H)
                have hji14_ : ((IntKind.u64.wrap (a0_0)) / 2 ^ min (ji7).toNat 64) = ji14 := hji14
                have hji14z : (ji7) ≤ 64 → ((IntKind.u64.wrap (a0_0)) / 2 ^ (ji7).toNat) = ji14 := shr_small hji14
                obtain ⟨ji15, hji15⟩ : ∃ j_ : Int, (wrap64 (8 + x4_1)) = j_ := ⟨_, rfl⟩
                replace H : (if 0 ≤ (ji15) then (if (ji15) < (x3_1.length : Int) then (zelligeref01_Of.l0 k1 (y119.set ((ji15) : Int).toNat (wrap64 (Go.bits .and .u64 (ji14) 255))) (wrap64 (x4_1 + 1)) a0_0 a0_1) else (none)) else (none)) = some r := by first | (rw [hji15] at H; exact H) | (simp only [hji15] at H ⊢; exact H)
                have hji15w : (IntKind.i64.wrap (8 + x4_1)) = ji15 := (i64_w _).trans hji15
                by_cases c16 : 0 ≤ (ji15)
                · rw [if_pos c16] at H
                  have c16b0 : decide (0 ≤ (ji15)) = true := decide_eq_true c16
                  clear c16
                  by_cases c17 : (ji15) < (x3_1.length : Int)
                  · rw [if_pos c17] at H
                    have c17b0 : decide ((ji15) < (x3_1.length : Int)) = true := decide_eq_true c17
                    clear c17
                    obtain ⟨y120, hy120⟩ : ∃ y_ : List Int, y_ = (y119.set ((ji15) : Int).toNat (wrap64 (Go.bits .and .u64 (ji14) 255))) := ⟨_, rfl⟩
                    replace H : (zelligeref01_Of.l0 k1 y120 (wrap64 (x4_1 + 1)) a0_0 a0_1) = some r := by first | (rw [hy120]; with_reducible exact H) | (have H2_ := (Option.bind_some _ _).symm.trans H; rw [hy120]; with_reducible exact H2_) | (have H2_ := (Option.bind_some _ _).symm.trans H; with_reducible exact H2_) | with_reducible exact H | (rw [hy120]; exact H) | exact H
                    have Ny120 := Aside0.mk hy120
                    clear hy120
                    have H' := Aside0.mk H
                    clear H
                    have hcz19_0 : wr.cell? ⟨gb115, 0, none⟩ = some (.int .i64 a0_0) := (blk_cell BK115.out 0).trans rfl
                    have hcz19_1 : wr.cell? ⟨gb115, 1, none⟩ = some (.int .u64 a0_1) := (blk_cell BK115.out 1).trans rfl
                    have hfz19_0 := blk_frozen BK115.out 0
                    have hfz19_1 := blk_frozen BK115.out 1
                    have p12 : 0 ≤ (x4_1 : Int) := of_decide_eq_true (by first | (with_reducible assumption) | assumption)
                    have q12 : (x4_1 : Int) < ((x3_1.length : Int) : Int) := of_decide_eq_true (by first | (with_reducible assumption) | assumption)
                    obtain ⟨go12, co12, eo12, gb12, gl12, cl12, HG12⟩ := Kd.R_form HO_3.out (by omega)
                    (first | cases eo12 | (injection eo12 with ea_ en_ ec_; (first | subst ea_ | (injection ea_ with ea_; subst ea_)); subst ec_; clear en_))
                    have GB12 := Aside0.mk gb12
                    have GG12 := Aside0.mk HG12
                    clear gb12 gl12 HG12
                    obtain ⟨hx12_0, hf12_0⟩ := Kd.R_celln 0 HO_3.out (x4_1 : Int) p12 q12
                    replace p12 := eq_true p12
                    replace q12 := eq_true q12
                    have HP20 := Kd.R_putg HO_3.out (x4_1 : Int) (wrap64 (Go.bits .and .u64 (ji9) 255))
                    go_wp2_with (first | ((with_reducible refine gate_store (t := 3) (p := 20) rfl ?_); refine store_event (t := 3) (p := 20) (v := ?vo_w21) (w1 := (wr.setCell ⟨go12, (x4_1 : Int).toNat, none⟩ (.int .i64 (wrap64 (Go.bits .and .u64 (ji9) 255))))) ?hg ?ho ?hn ?hr ?_; (case ho => rfl); (case hg => rfl); (case hn => rfl); (case hr => first | (go_simp; done) | (go_simp; rfl)); intro w21 hw; have hg : wr.grownBy w21 (some go12) := (by rw [hw]; exact HP20.2); have hp_ : Kd.R (Kd.int .i64) 3 w21 w.heap.size (fun _ => True) (.slice (some ⟨go12, 0, none⟩) x3_1.length co12) y119 := (by rw [hw, Ny119.out]; exact HP20.1); clear HP20; have n0_ := Aside0.mk (hp_); have n1_ := Aside0.mk (blk_grown (g := gb115) (o := .cells #[.int .i64 a0_0, .int .u64 a0_1] 24 (0, 0)) (by (with_reducible repeat (first | refine blk_drewN ?_ _ | refine blk_drew ?_ | refine blk_alloc ?_ _)); exact BK115.out) hg (Kd.R_ne HO_3.out BK115.out (by decide))); have n2_ := Aside0.mk ((by rw [hw]; exact below_set (HB.out) GB12.out : Below w.heap.size w w21)); clear HO_3; clear BK115; clear HB; have HO_3 := n0_; have BK115 := n1_; have HB := n2_; clear n0_ n1_ n2_; clear hg hw hp_; have hcz22_0 : w21.cell? ⟨gb115, 0, none⟩ = some (.int .i64 a0_0) := (blk_cell BK115.out 0).trans rfl; have hcz22_1 : w21.cell? ⟨gb115, 1, none⟩ = some (.int .u64 a0_1) := (blk_cell BK115.out 1).trans rfl; have hfz22_0 := blk_frozen BK115.out 0; have hfz22_1 := blk_frozen BK115.out 1; have p18 : 0 ≤ ((ji15) : Int) := of_decide_eq_true (by first | (with_reducible assumption) | assumption); have q18 : ((ji15) : Int) < ((x3_1.length : Int) : Int) := of_decide_eq_true (by first | (with_reducible assumption) | assumption); obtain ⟨hx18_0, hf18_0⟩ := Kd.R_celln 0 HO_3.out ((ji15) : Int) p18 q18; replace p18 := eq_true p18; replace q18 := eq_true q18; obtain ⟨hy23_, hz23_⟩ := Kd.R_celln 0 HO_3.out ((ji15) : Int) (of_decide_eq_true (by first | (with_reducible assumption) | assumption)) (of_decide_eq_true (by first | (with_reducible assumption) | assumption)); have HP23 := Kd.R_putg HO_3.out ((ji15) : Int) (wrap64 (Go.bits .and .u64 (ji14) 255))) | ((with_reducible refine gate_store (t := 3) (p := 33) rfl ?_); refine store_event (t := 3) (p := 33) (v := ?vo_w24) (w1 := (w21.setCell ⟨go12, ((ji15) : Int).toNat, none⟩ (.int .i64 (wrap64 (Go.bits .and .u64 (ji14) 255))))) ?hg ?ho ?hn ?hr ?_; (case ho => rfl); (case hg => rfl); (case hn => rfl); (case hr => first | (go_simp; done) | (go_simp; rfl)); intro w24 hw; have hg : w21.grownBy w24 (some go12) := (by rw [hw]; exact HP23.2); have hp_ : Kd.R (Kd.int .i64) 3 w24 w.heap.size (fun _ => True) (.slice (some ⟨go12, 0, none⟩) x3_1.length co12) y120 := (by rw [hw, Ny120.out]; exact HP23.1); clear HP23; have n0_ := Aside0.mk (hp_); have n1_ := Aside0.mk (blk_grown (g := gb115) (o := .cells #[.int .i64 a0_0, .int .u64 a0_1] 24 (0, 0)) (by (with_reducible repeat (first | refine blk_drewN ?_ _ | refine blk_drew ?_ | refine blk_alloc ?_ _)); exact BK115.out) hg (Kd.R_ne HO_3.out BK115.out (by decide))); have n2_ := Aside0.mk ((by rw [hw]; exact below_set (HB.out) GB12.out : Below w.heap.size w w24)); clear HO_3; clear BK115; clear HB; have HO_3 := n0_; have BK115 := n1_; have HB := n2_; clear n0_ n1_ n2_; clear hg hw hp_))
                    go_roundg k1
                    case measure => have := HK1.out; omega
                    case rel => exact ⟨(y120), (wrap64 (x4_1 + 1)), (by first | rfl | (simp; done) | (simp [*]; done)), H', ⟨by have := HK1.out; omega⟩, ⟨by (with_reducible repeat (first | apply Kd.R_alloc | apply Kd.R_drewN | apply Kd.R_drew)); exact HO_3.out⟩, ⟨by (with_reducible repeat (first | refine blk_drewN ?_ _ | refine blk_drew ?_ | refine blk_alloc ?_ _)); exact BK115.out⟩, ⟨by repeat (first | (with_reducible first | exact HB.out | apply below_alloc | apply pw_below_drewN | apply below_drew1 | refine below_set ?_ GE115.out) | exact HB.out)⟩⟩
                  · rw [if_neg c17] at H
                    exact absurd H (by simp)
                · rw [if_neg c16] at H
                  exact absurd H (by simp)
              · rw [if_neg c11] at H
                exact absurd H (by simp)
            · rw [if_neg c10] at H
              exact absurd H (by simp)
          · rw [if_neg c8] at H
            exact absurd H (by simp)
        · rw [if_neg c6] at H
          have c6b0 : decide (x4_1 < 8) = false := decide_eq_false c6
          clear c6
          obtain rfl := Option.some.inj H
          go_wp2
          go_ret
          exact ⟨_, by first | rfl | (simp [errW_none, errW_some] <;> rfl) | (simp [*, errW_none, errW_some] <;> rfl), by (with_reducible repeat (first | apply Kd.R_alloc | apply Kd.R_drewN | apply Kd.R_drew)); exact HO_3.out, by repeat (first | (with_reducible first | exact HB.out | apply below_alloc | apply pw_below_drewN | apply below_drew1 | refine below_set ?_ GE115.out) | exact HB.out)⟩
  · rw [if_neg c2] at H
    exact absurd H (by simp)

end Go.Proofs.Ytbccokfdkieakaa.F
end

section
namespace Go.Proofs.Ytbccokfdkieakaa.F
open Go.RowKit Go.Proofs.YtbccokfdkieakaaW.PrintWords Go.Proofs.YtbccokfdkieakaaW.PrintLast Go.Proofs.YtbccokfdkieakaaW.PrintMore
attribute [local go_sem] max2_int min2_int max_two min_two max_three min_three max_four min_four   -- for this text's walks alone
set_option linter.unusedVariables false
set_option linter.unusedSimpArgs false

/-! ### zelligeref01_Wide: function 13 -/
def zelligeref01_Wide.l0 : Nat → List Int → Int → Int → Int → Option (Int × Int)
  | 0, _, _, _, _ => none
  | k + 1, x0, x3, x4, x5 => if x5 ≥ 0 then (if 0 ≤ x5 then (if x5 < (x0.length : Int) then (if 0 ≤ (wrap64 (8 + x5)) then (if (wrap64 (8 + x5)) < (x0.length : Int) then (zelligeref01_Wide.l0 k x0 (IntKind.u64.wrap ((IntKind.u64.wrap (x3 * 256)) + (IntKind.u64.wrap (rd x0 x5)))) (IntKind.u64.wrap ((IntKind.u64.wrap (x4 * 256)) + (IntKind.u64.wrap (rd x0 (wrap64 (8 + x5)))))) (wrap64 (x5 - 1))) else (none)) else (none)) else (none)) else (none)) else (some (wrap64 (x4), x3))
def zelligeref01_Wide.f (k : Nat) (l0 : List Int) : Option (Int × Int) := zelligeref01_Wide.l0 k l0 0 0 7
theorem zelligeref01_Wide.mono_l : ∀ k, (∀ y0 y1 y2 y3, LeO (zelligeref01_Wide.l0 k y0 y1 y2 y3) (zelligeref01_Wide.l0 (k + 1) y0 y1 y2 y3))
  | 0 => fun _ _ _ _ r h => by simp [zelligeref01_Wide.l0] at h
  | k + 1 => by
    have ih0 := zelligeref01_Wide.mono_l k
    · intro y0 y1 y2 y3
      unfold zelligeref01_Wide.l0
      repeat' first
      | (with_reducible exact ih0 _ _ _ _)
      | (with_reducible exact LeO.refl _)
      | (with_reducible exact LeO.none _)
      | (with_reducible refine LeO.ite ?_ ?_)
      | (with_reducible refine LeO.bind ?_ (fun _ => ?_))
      | exact ih0 _ _ _ _
      | exact LeO.none _
      | refine LeO.ite ?_ ?_
      | refine LeO.bind ?_ (fun _ => ?_)
theorem zelligeref01_Wide.mono : ∀ a0 k, LeO (zelligeref01_Wide.f k a0) (zelligeref01_Wide.f (k + 1) a0) := by
  intro a0 k
  have ih0 := zelligeref01_Wide.mono_l k
  unfold zelligeref01_Wide.f
  repeat' first
      | (with_reducible exact ih0 _ _ _ _)
      | (with_reducible exact LeO.refl _)
      | (with_reducible exact LeO.none _)
      | (with_reducible refine LeO.ite ?_ ?_)
      | (with_reducible refine LeO.bind ?_ (fun _ => ?_))
      | exact ih0 _ _ _ _
      | exact LeO.none _
      | refine LeO.ite ?_ ?_
      | refine LeO.bind ?_ (fun _ => ?_)
set_option maxHeartbeats 8000000 in
set_option maxRecDepth 100000 in
theorem zelligeref01_Wide.calls (k : Nat) (A0 : Option Addr) (c0 : Nat) (l0 : List Int) (r1 : Int) (r2 : Int) (w : World) (hr0 : Kd.C (Kd.int .i64) w A0 l0.length l0) (hc0 : l0.length ≤ c0) (h : zelligeref01_Wide.f k l0 = some (r1, r2)) :
    Calls Try.prog 13 #[.slice A0 l0.length c0] w fun e w' => e = .returned (.agg #[.int .i64 r1, .int .u64 r2]) ∧ Below w.heap.size w w' := by
  have hu24 := Try.underlying24
  have HR0 := Aside0.mk hr0
  have HC0 := Aside0.mk hc0
  clear hr0 hc0
  have HB := Aside0.mk (Below.refl w.heap.size w)
  have H : (zelligeref01_Wide.l0 k l0 0 0 7) = some (r1, r2) := h
  clear h
  have H' := Aside0.mk H
  clear H
  go_enter Try.func13, Try.ntmps13
  go_wp2_with (first | ((with_reducible refine gate_dst (N := 2) rfl ?_); refine box_event ?hg (N := 2) ?hd (cs := #[.int .i64 0, .int .u64 0]) (t := 24) ?hr ?_; (case hd => rfl); (case hg => rfl); (case hr => first | (go_simp; done) | (go_simp; rfl)); intro gb105 hg w2 hbox hb; have n0_ := Aside0.mk (below_step (by repeat (first | (with_reducible first | exact HB.out | apply below_alloc | apply pw_below_drewN | apply below_drew1) | exact HB.out)) hb); have n1_ := Aside0.mk (hbox); have n2_ := Aside0.mk ((by rw [hg]; exact (below_size (by repeat (first | (with_reducible first | exact HB.out | apply below_alloc | apply pw_below_drewN | apply below_drew1) | exact HB.out))) : w.heap.size ≤ gb105)); have n3_ := Aside0.mk ((by rw [hg]; exact (below_size (by repeat (first | (with_reducible first | exact HB.out | apply below_alloc | apply pw_below_drewN | apply below_drew1) | exact HB.out))) : w.heap.size ≤ gb105)); clear HB; have HB := n0_; have BK105 := n1_; have GW105 := n2_; have GE105 := n3_; clear n0_ n1_ n2_ n3_; clear hb hbox hg))
  repeat (go_quiet (first | ((with_reducible refine gate_dst (N := 2) rfl ?_); refine box_event ?hg (N := 2) ?hd (cs := #[.int .i64 0, .int .u64 0]) (t := 24) ?hr ?_; (case hd => rfl); (case hg => rfl); (case hr => first | (go_simp; done) | (go_simp; rfl)); intro gb105 hg w2 hbox hb; have n0_ := Aside0.mk (below_step (by repeat (first | (with_reducible first | exact HB.out | apply below_alloc | apply pw_below_drewN | apply below_drew1) | exact HB.out)) hb); have n1_ := Aside0.mk (hbox); have n2_ := Aside0.mk ((by rw [hg]; exact (below_size (by repeat (first | (with_reducible first | exact HB.out | apply below_alloc | apply pw_below_drewN | apply below_drew1) | exact HB.out))) : w.heap.size ≤ gb105)); have n3_ := Aside0.mk ((by rw [hg]; exact (below_size (by repeat (first | (with_reducible first | exact HB.out | apply below_alloc | apply pw_below_drewN | apply below_drew1) | exact HB.out))) : w.heap.size ≤ gb105)); clear HB; have HB := n0_; have BK105 := n1_; have GW105 := n2_; have GE105 := n3_; clear n0_ n1_ n2_ n3_; clear hb hbox hg)); try go_wp2_with (first | ((with_reducible refine gate_dst (N := 2) rfl ?_); refine box_event ?hg (N := 2) ?hd (cs := #[.int .i64 0, .int .u64 0]) (t := 24) ?hr ?_; (case hd => rfl); (case hg => rfl); (case hr => first | (go_simp; done) | (go_simp; rfl)); intro gb105 hg w2 hbox hb; have n0_ := Aside0.mk (below_step (by repeat (first | (with_reducible first | exact HB.out | apply below_alloc | apply pw_below_drewN | apply below_drew1) | exact HB.out)) hb); have n1_ := Aside0.mk (hbox); have n2_ := Aside0.mk ((by rw [hg]; exact (below_size (by repeat (first | (with_reducible first | exact HB.out | apply below_alloc | apply pw_below_drewN | apply below_drew1) | exact HB.out))) : w.heap.size ≤ gb105)); have n3_ := Aside0.mk ((by rw [hg]; exact (below_size (by repeat (first | (with_reducible first | exact HB.out | apply below_alloc | apply pw_below_drewN | apply below_drew1) | exact HB.out))) : w.heap.size ≤ gb105)); clear HB; have HB := n0_; have BK105 := n1_; have GW105 := n2_; have GE105 := n3_; clear n0_ n1_ n2_ n3_; clear hb hbox hg)))
  go_loopg [3, 4, 5] k (fun kq v3 v4 v5 w' => ∃ (x3_1 : Int) (x4_1 : Int) (x5_1 : Int), v3 = .int .u64 x3_1 ∧ v4 = .int .u64 x4_1 ∧ v5 = .int .i64 x5_1 ∧ Aside0 (zelligeref01_Wide.l0 kq l0 x3_1 x4_1 x5_1 = some (r1, r2)) ∧ Aside0 (kq ≤ k) ∧ Aside0 (w'.heap[gb105]? = some (.cells #[.int .i64 0, .int .u64 0] 24 (0, 0))) ∧ Aside0 (Below w.heap.size w w'))
  case atStart => exact ⟨(0), (0), (7), (by first | rfl | (simp; done) | (simp [*]; done)), (by first | rfl | (simp; done) | (simp [*]; done)), (by first | rfl | (simp; done) | (simp [*]; done)), H', ⟨Nat.le_refl _⟩, ⟨by (with_reducible repeat (first | refine blk_drewN ?_ _ | refine blk_drew ?_ | refine blk_alloc ?_ _)); exact BK105.out⟩, ⟨by repeat (first | (with_reducible first | exact HB.out | apply below_alloc | apply pw_below_drewN | apply below_drew1 | refine below_set ?_ GE105.out) | exact HB.out)⟩⟩
  case round =>
    clear H'
    try clear c1
    try clear p2
    obtain ⟨x3_1, x4_1, x5_1, rfl, rfl, rfl, HA, HK1, BK105, HB⟩ := hrel
    cases gk with
    | zero => exact absurd HA.out (by simp [zelligeref01_Wide.l0])
    | succ k1 =>
      have H := HA.out
      clear HA
      simp only [zelligeref01_Wide.l0] at H
      by_cases c3 : x5_1 ≥ 0
      · rw [if_pos c3] at H
        have c3b0 : decide (0 ≤ x5_1) = true := decide_eq_true c3
        clear c3
        by_cases c4 : 0 ≤ x5_1
        · rw [if_pos c4] at H
          have c4b0 : decide (0 ≤ x5_1) = true := decide_eq_true c4
          clear c4
          by_cases c5 : x5_1 < (l0.length : Int)
          · rw [if_pos c5] at H
            have c5b0 : decide (x5_1 < (l0.length : Int)) = true := decide_eq_true c5
            clear c5
            obtain ⟨ji6, hji6⟩ : ∃ j_ : Int, (wrap64 (8 + x5_1)) = j_ := ⟨_, rfl⟩
            replace H : (if 0 ≤ (ji6) then (if (ji6) < (l0.length : Int) then (zelligeref01_Wide.l0 k1 l0 (IntKind.u64.wrap ((IntKind.u64.wrap (x3_1 * 256)) + (IntKind.u64.wrap (rd l0 x5_1)))) (IntKind.u64.wrap ((IntKind.u64.wrap (x4_1 * 256)) + (IntKind.u64.wrap (rd l0 (ji6))))) (wrap64 (x5_1 - 1))) else (none)) else (none)) = some (r1, r2) := by first | (rw [hji6] at H; exact H) | (simp only [hji6] at H ⊢; exact H)
            have hji6w : (IntKind.i64.wrap (8 + x5_1)) = ji6 := (i64_w _).trans hji6
            by_cases c7 : 0 ≤ (ji6)
            · rw [if_pos c7] at H
              have c7b0 : decide (0 ≤ (ji6)) = true := decide_eq_true c7
              clear c7
              by_cases c8 : (ji6) < (l0.length : Int)
              · rw [if_pos c8] at H
                have c8b0 : decide ((ji6) < (l0.length : Int)) = true := decide_eq_true c8
                clear c8
                have H' := Aside0.mk H
                clear H
                have p106 : 0 ≤ (x5_1 : Int) := of_decide_eq_true (by first | (with_reducible assumption) | assumption)
                have q106 : x5_1 < (l0.length : Int) := of_decide_eq_true (by first | (with_reducible assumption) | assumption)
                obtain ⟨ad106, e106, hx106_0⟩ := Kd.at_int HR0.out x5_1 p106 q106
                cases e106
                replace hx106_0 := (HB.out.cell (World.block_lt_of_cell? w _ hx106_0)).trans hx106_0
                replace p106 := eq_true p106
                replace q106 := eq_true q106
                have p107 : 0 ≤ ((ji6) : Int) := of_decide_eq_true (by first | (with_reducible assumption) | assumption)
                have q107 : (ji6) < (l0.length : Int) := of_decide_eq_true (by first | (with_reducible assumption) | assumption)
                obtain ⟨ad107, e107, hx107_0⟩ := Kd.at_int HR0.out (ji6) p107 q107
                obtain rfl : ad106 = ad107 := (by injection e107)
                replace hx107_0 := (HB.out.cell (World.block_lt_of_cell? w _ hx107_0)).trans hx107_0
                replace p107 := eq_true p107
                replace q107 := eq_true q107
                go_wp2
                repeat (go_quiet (fail); try go_wp2)
                go_roundg k1
                case measure => have := HK1.out; omega
                case rel => exact ⟨(IntKind.u64.wrap ((IntKind.u64.wrap (x3_1 * 256)) + (IntKind.u64.wrap (rd l0 x5_1)))), (IntKind.u64.wrap ((IntKind.u64.wrap (x4_1 * 256)) + (IntKind.u64.wrap (rd l0 (ji6))))), (wrap64 (x5_1 - 1)), (by first | rfl | (simp; done) | (simp [*]; done)), (by first | rfl | (simp; done) | (simp only [← hji6] <;> (first | rfl | simp)) | (simp [*]; done)), (by first | rfl | (simp; done) | (simp [*]; done)), H', ⟨by have := HK1.out; omega⟩, ⟨by (with_reducible repeat (first | refine blk_drewN ?_ _ | refine blk_drew ?_ | refine blk_alloc ?_ _)); exact BK105.out⟩, ⟨by repeat (first | (with_reducible first | exact HB.out | apply below_alloc | apply pw_below_drewN | apply below_drew1 | refine below_set ?_ GE105.out) | exact HB.out)⟩⟩
              · rw [if_neg c8] at H
                exact absurd H (by simp)
            · rw [if_neg c7] at H
              exact absurd H (by simp)
          · rw [if_neg c5] at H
            exact absurd H (by simp)
        · rw [if_neg c4] at H
          exact absurd H (by simp)
      · rw [if_neg c3] at H
        have c3b0 : decide (0 ≤ x5_1) = false := decide_eq_false c3
        clear c3
        simp only [Option.some.injEq, Prod.mk.injEq] at H
        obtain ⟨rfl, rfl⟩ := H
        have hcz9_0 : wr.cell? ⟨gb105, 0, none⟩ = some (.int .i64 0) := (blk_cell BK105.out 0).trans rfl
        have hcz9_1 : wr.cell? ⟨gb105, 1, none⟩ = some (.int .u64 0) := (blk_cell BK105.out 1).trans rfl
        have hfz9_0 := blk_frozen BK105.out 0
        have hfz9_1 := blk_frozen BK105.out 1
        go_wp2
        repeat (go_quiet (fail); try go_wp2)
        refine bodyPost_ret (results_cell_row rfl _ _ gb105 24 #[.int .i64 (wrap64 (x4_1)), .int .u64 x3_1] (0, 0) _ rfl (by (with_reducible repeat (first | refine blk_drewN ?_ _ | refine blk_drew ?_ | refine blk_alloc ?_ _)); refine blk_put (cs := #[.int .i64 (wrap64 (x4_1)), .int .u64 0]) ?_ 1 _ rfl; (with_reducible repeat (first | refine blk_drewN ?_ _ | refine blk_drew ?_ | refine blk_alloc ?_ _)); refine blk_put (cs := #[.int .i64 0, .int .u64 0]) ?_ 0 _ rfl; (with_reducible repeat (first | refine blk_drewN ?_ _ | refine blk_drew ?_ | refine blk_alloc ?_ _)); exact BK105.out) Try.underlying24 rfl (by kernel_rfl)) rfl ?_
        exact ⟨by first | rfl | (simp [errW_none, errW_some] <;> rfl) | (simp [*, errW_none, errW_some] <;> rfl), by repeat (first | (with_reducible first | exact HB.out | apply below_alloc | apply pw_below_drewN | apply below_drew1 | refine below_set ?_ GE105.out) | exact HB.out)⟩

end Go.Proofs.Ytbccokfdkieakaa.F
end

section
/- Wides as digits to the base 256 (Of, Wide), and their signs and order: plain lists and whole numbers. -/
namespace Go.Proofs.Ytbccokfdkieakaa.D8
open Go Go.RowKit Go.Proofs.YtbccokfdkieakaaW.PrintWords Go.Proofs.Ytbccokfdkieakaa.F Go.Proofs.Ytbccokfdkieakaa.Wd
set_option linter.unusedVariables false
theorem P8 : P 8 = 18446744073709551616 := by decide
theorem P16 : P 16 = 340282366920938463463374607431768211456 := by decide
theorem mask255 (a : Int) (ha : 0 ≤ a) (ha2 : a < 18446744073709551616) : bits .and .u64 a 255 = a % 256 := by
  obtain ⟨A, rfl⟩ := Int.eq_ofNat_of_zero_le ha
  have h := bits_and_u64_nat A 255 (by omega) (by omega)
  have e : A &&& 255 = A % 256 := Nat.and_two_pow_sub_one_eq_mod A 8
  rw [e] at h
  exact h
/-- The digit at a place. -/
def dd (x : Int) (i : Nat) : Int := x / ((2 ^ (8 * i) : Nat) : Int) % 256
theorem byte_go (x : Int) (x0 : 0 ≤ x) (x1 : x < 18446744073709551616) (i : Nat) (hi : i < 8) : wrap64 (bits .and .u64 (shr .u64 x (IntKind.u64.wrap (wrap64 (8 * (i : Int))))) 255) = dd x i := by
  have e1 : IntKind.u64.wrap (wrap64 (8 * (i : Int))) = ((8 * i : Nat) : Int) := by rw [w64 (by omega) (by omega), IntKind.wrap_u64]; omega
  have e2 : shr .u64 x ((8 * i : Nat) : Int) = x / ((2 ^ (8 * i) : Nat) : Int) := by
    unfold shr
    rw [Int.toNat_natCast, Nat.min_eq_left (by simp [IntKind.bits]; omega)]
    rfl
  have h0 : 0 ≤ x / ((2 ^ (8 * i) : Nat) : Int) := Int.ediv_nonneg x0 (Int.natCast_nonneg _)
  have h1 : x / ((2 ^ (8 * i) : Nat) : Int) ≤ x := Int.ediv_le_self _ x0
  rw [e1, e2, mask255 _ h0 (by omega)]
  unfold dd
  generalize x / ((2 ^ (8 * i) : Nat) : Int) = y
  exact w64 (by omega) (by omega)
theorem of_step (k : Nat) (l : List Int) (i : Nat) (hi : i < 8) (hl : l.length = 16) (h x : Int) (x0 : 0 ≤ x) (x1 : x < 18446744073709551616) :
    zelligeref01_Of.l0 (k + 1) l (i : Int) h x = zelligeref01_Of.l0 k ((l.set i (dd x i)).set (8 + i) (dd (IntKind.u64.wrap h) i)) ((i + 1 : Nat) : Int) h x := by
  have w := IntKind.wrap_u64 h
  have e1 : (IntKind.u64.wrap (wrap64 (8 * (i : Int)))) = ((8 * i : Nat) : Int) := by rw [w64 (by omega) (by omega), IntKind.wrap_u64]; omega
  have e2 := Aside0.mk (show wrap64 (8 + (i : Int)) = ((8 + i : Nat) : Int) by rw [w64 (by omega) (by omega)]; omega)
  have e3 := Aside0.mk (show wrap64 ((i : Int) + 1) = ((i + 1 : Nat) : Int) by rw [w64 (by omega) (by omega)]; omega)
  have b1 := Aside0.mk (byte_go x x0 x1 i hi)
  have b2 := Aside0.mk (byte_go (IntKind.u64.wrap h) (by omega) (by omega) i hi)
  rw [zelligeref01_Of.l0, if_pos (by omega), if_pos (by rw [e1]; omega), if_pos (by omega), if_pos (by omega), e2.out, if_pos (by omega), if_pos (by omega), b1.out, b2.out, e3.out, Int.toNat_natCast, Int.toNat_natCast]
theorem dd_bd (x : Int) (i : Nat) : 0 ≤ dd x i ∧ dd x i < 256 := by unfold dd; omega
def digs (h x : Int) : List Int := [dd x 0, dd x 1, dd x 2, dd x 3, dd x 4, dd x 5, dd x 6, dd x 7, dd h 0, dd h 1, dd h 2, dd h 3, dd h 4, dd h 5, dd h 6, dd h 7]
theorem eight (x : Int) (x0 : 0 ≤ x) (x1 : x < 18446744073709551616) : dd x 0 + 256 * (dd x 1 + 256 * (dd x 2 + 256 * (dd x 3 + 256 * (dd x 4 + 256 * (dd x 5 + 256 * (dd x 6 + 256 * dd x 7)))))) = x := by
  unfold dd
  simp only [Nat.reduceMul, Nat.reducePow, Nat.mul_zero, Nat.pow_zero]
  omega
/-- Of: the digits of a wide. -/
theorem rof_f {h x : Int} (ok : WOk h x) {k : Nat} (hk : 9 ≤ k) : ∃ l, zelligeref01_Of.f k h x = some l ∧ l.length = 16 ∧ Dg l ∧ val l = wv h x % P 16 := by
  obtain ⟨⟨h1, h2⟩, x0, x1⟩ := ok
  have w := IntKind.wrap_u64 h
  obtain ⟨k, rfl⟩ : ∃ m, k = m + 9 := ⟨k - 9, by omega⟩
  refine ⟨digs (IntKind.u64.wrap h) x, ?_, rfl, ?_, ?_⟩
  · unfold zelligeref01_Of.f
    rw [if_pos (by omega)]
    have s := fun (k i : Nat) (l : List Int) (hi : i < 8) (hl : l.length = 16) => of_step k l i hi hl h x x0 x1
    rw [show (0 : Int) = ((0 : Nat) : Int) from rfl, show k + 9 = k + 8 + 1 from rfl, s (k + 8) 0 _ (by omega) (by simp), show k + 8 = k + 7 + 1 from rfl, s (k + 7) 1 _ (by omega) (by simp), show k + 7 = k + 6 + 1 from rfl, s (k + 6) 2 _ (by omega) (by simp),
      show k + 6 = k + 5 + 1 from rfl, s (k + 5) 3 _ (by omega) (by simp), show k + 5 = k + 4 + 1 from rfl, s (k + 4) 4 _ (by omega) (by simp), show k + 4 = k + 3 + 1 from rfl, s (k + 3) 5 _ (by omega) (by simp), show k + 3 = k + 2 + 1 from rfl, s (k + 2) 6 _ (by omega) (by simp),
      show k + 2 = k + 1 + 1 from rfl, s (k + 1) 7 _ (by omega) (by simp), zelligeref01_Of.l0, if_neg (by omega)]
    rfl
  · intro d hd
    simp only [digs, List.mem_cons, List.not_mem_nil, or_false] at hd
    rcases hd with rfl | rfl | rfl | rfl | rfl | rfl | rfl | rfl | rfl | rfl | rfl | rfl | rfl | rfl | rfl | rfl <;> exact dd_bd _ _
  · have e1 := eight x x0 x1
    have e2 := eight (IntKind.u64.wrap h) (by omega) (by omega)
    unfold digs
    simp only [val]
    rw [P16]
    unfold wv
    generalize dd x 0 = a0 at *; generalize dd x 1 = a1 at *; generalize dd x 2 = a2 at *; generalize dd x 3 = a3 at *; generalize dd x 4 = a4 at *; generalize dd x 5 = a5 at *; generalize dd x 6 = a6 at *; generalize dd x 7 = a7 at *
    generalize dd (IntKind.u64.wrap h) 0 = b0 at *; generalize dd (IntKind.u64.wrap h) 1 = b1 at *; generalize dd (IntKind.u64.wrap h) 2 = b2 at *; generalize dd (IntKind.u64.wrap h) 3 = b3 at *; generalize dd (IntKind.u64.wrap h) 4 = b4 at *; generalize dd (IntKind.u64.wrap h) 5 = b5 at *; generalize dd (IntKind.u64.wrap h) 6 = b6 at *; generalize dd (IntKind.u64.wrap h) 7 = b7 at *
    omega
/-- Wide: the wide of digits. -/
theorem rwide_l0 {l : List Int} (hl : l.length = 16) (hD : Dg l) : ∀ (n k : Nat), n ≤ 8 → n < k → zelligeref01_Wide.l0 k l (val ((l.take 8).drop n)) (val ((l.drop 8).drop n)) ((n : Int) - 1) = some (wrap64 (val (l.drop 8)), val (l.take 8)) := by
  intro n
  induction n with
  | zero =>
    intro k hn hk
    obtain ⟨k, rfl⟩ : ∃ m, k = m + 1 := ⟨k - 1, by omega⟩
    rw [zelligeref01_Wide.l0, if_neg (by omega), List.drop_zero, List.drop_zero]
  | succ n ih =>
    intro k hn hk
    obtain ⟨k, rfl⟩ : ∃ m, k = m + 1 := ⟨k - 1, by omega⟩
    have l1 : (l.take 8).length = 8 := by rw [List.length_take]; omega
    have l2 : (l.drop 8).length = 8 := by rw [List.length_drop]; omega
    have d1 := Dg_take hD 8
    have d2 := Dg_drop hD 8
    have g1 := Dg_get d1 n
    have g2 := Dg_get d2 n
    have v1 := val_drop (l := l.take 8) (i := n) (by omega)
    have v2 := val_drop (l := l.drop 8) (i := n) (by omega)
    have b1 := val_lt (Dg_drop d1 n)
    have b2 := val_lt (Dg_drop d2 n)
    have z1 := val_nonneg (Dg_drop d1 (n + 1))
    have z2 := val_nonneg (Dg_drop d2 (n + 1))
    rw [List.length_drop, l1] at b1
    rw [List.length_drop, l2] at b2
    have p8 := P_mono (a := 8 - n) (b := 8) (by omega)
    rw [P8] at p8
    have r1 : l.getD n 0 = (l.take 8).getD n 0 := by
      rw [List.getD_eq_getElem?_getD, List.getD_eq_getElem?_getD, List.getElem?_take_of_lt (by omega)]
    have r2 : l.getD (8 + n) 0 = (l.drop 8).getD n 0 := by
      rw [List.getD_eq_getElem?_getD, List.getD_eq_getElem?_getD, List.getElem?_drop]
    have e0 := Aside0.mk (show (((n + 1 : Nat) : Int) - 1) = (n : Int) by omega)
    have e1 := Aside0.mk (show wrap64 (8 + (n : Int)) = ((8 + n : Nat) : Int) by rw [w64 (by omega) (by omega)]; omega)
    have e2 := Aside0.mk (show wrap64 ((n : Int) - 1) = (n : Int) - 1 by rw [w64 (by omega) (by omega)])
    have w := fun z => IntKind.wrap_u64 z
    rw [e0.out, zelligeref01_Wide.l0, if_pos (by omega), if_pos (by omega), if_pos (by omega), e1.out, if_pos (by omega), if_pos (by omega), rd_nat, rd_nat, r1, r2, e2.out]
    have s1 : IntKind.u64.wrap (IntKind.u64.wrap (val ((l.take 8).drop (n + 1)) * 256) + IntKind.u64.wrap ((l.take 8).getD n 0)) = val ((l.take 8).drop n) := by rw [w, w, w]; omega
    have s2 : IntKind.u64.wrap (IntKind.u64.wrap (val ((l.drop 8).drop (n + 1)) * 256) + IntKind.u64.wrap ((l.drop 8).getD n 0)) = val ((l.drop 8).drop n) := by rw [w, w, w]; omega
    rw [s1, s2]
    exact ih k (by omega) (by omega)
theorem rwide_f {l : List Int} (hl : l.length = 16) (hD : Dg l) {k : Nat} (hk : 9 ≤ k) : zelligeref01_Wide.f k l = some (whi (val l), wlo (val l)) := by
  have l1 : (l.take 8).length = 8 := by rw [List.length_take]; omega
  have l2 : (l.drop 8).length = 8 := by rw [List.length_drop]; omega
  have h := rwide_l0 hl hD 8 k (by omega) (by omega)
  rw [val_drop_all (l := l.take 8) (by omega), val_drop_all (l := l.drop 8) (by omega)] at h
  unfold zelligeref01_Wide.f
  rw [show (7 : Int) = ((8 : Nat) : Int) - 1 from rfl, h]
  have e := val_take_drop l 8 (by omega)
  rw [P8] at e
  have b1 := val_lt (Dg_take hD 8)
  have b2 := val_lt (Dg_drop hD 8)
  rw [l1, P8] at b1
  rw [l2, P8] at b2
  have z1 := val_nonneg (Dg_take hD 8)
  have z2 := val_nonneg (Dg_drop hD 8)
  rw [e]
  unfold whi wlo
  congr 2
  · congr 1; omega
  · omega
/-! ### signs, order -/
def sv (l : List Int) : Int := if 2 * val l < P l.length then val l else val l - P l.length
theorem rbelow_f {l : List Int} (hD : Dg l) (n0 : 0 < l.length) (n1 : l.length ≤ 1000) : zelligeref01_Below.f l = some (decide (P l.length ≤ 2 * val l)) := by
  have e := Aside0.mk (show wrap64 ((l.length : Int) - 1) = ((l.length - 1 : Nat) : Int) by rw [w64 (by omega) (by omega)]; omega)
  unfold zelligeref01_Below.f
  rw [e.out, if_pos (by omega), if_pos (by omega), rd_nat]
  have v := val_take_drop l (l.length - 1) (by omega)
  have v2 := val_drop (l := l) (i := l.length - 1) (by omega)
  rw [val_drop_all (i := l.length - 1 + 1) (by omega)] at v2
  have b := val_lt (Dg_take hD (l.length - 1))
  rw [List.length_take, Nat.min_eq_left (by omega)] at b
  have z := val_nonneg (Dg_take hD (l.length - 1))
  have g := Dg_get hD (l.length - 1)
  have hP : P l.length = 256 * P (l.length - 1) := by
    conv => lhs; rw [show l.length = l.length - 1 + 1 by omega]
    rw [P]
  have pp := P_pos (l.length - 1)
  congr 1
  rw [decide_eq_decide]
  rw [v, v2, hP]
  generalize P (l.length - 1) = p at *
  generalize l.getD (l.length - 1) 0 = d at *
  constructor
  · intro h
    have := Int.mul_le_mul_of_nonneg_left (show (128 : Int) ≤ d + 256 * 0 by omega) (show 0 ≤ p by omega)
    omega
  · intro h
    rcases Int.lt_or_le d 128 with k | k
    · have := Int.mul_le_mul_of_nonneg_left (show d + 256 * 0 ≤ 127 by omega) (show 0 ≤ p by omega)
      omega
    · exact k
theorem rsign_l0 {l : List Int} (hD : Dg l) (n1 : l.length ≤ 1000) : ∀ (d k i : Nat), l.length - i = d → i ≤ l.length → d < k → zelligeref01_Sign.l0 k l (i : Int) = some (if 0 < val (l.drop i) then 1 else 0) := by
  intro d
  induction d with
  | zero =>
    intro k i hd hi hk
    obtain ⟨k, rfl⟩ : ∃ m, k = m + 1 := ⟨k - 1, by omega⟩
    rw [zelligeref01_Sign.l0, if_neg (by omega), val_drop_all (by omega), if_neg (by omega)]
  | succ d ih =>
    intro k i hd hi hk
    obtain ⟨k, rfl⟩ : ∃ m, k = m + 1 := ⟨k - 1, by omega⟩
    have v := val_drop (l := l) (i := i) (by omega)
    have g := Dg_get hD i
    have z := val_nonneg (Dg_drop hD (i + 1))
    have e := Aside0.mk (show wrap64 ((i : Int) + 1) = ((i + 1 : Nat) : Int) by rw [w64 (by omega) (by omega)]; omega)
    rw [zelligeref01_Sign.l0, if_pos (by omega), if_pos (by omega), rd_nat, e.out]
    by_cases h : l.getD i 0 > 0
    · rw [if_pos h, if_pos (by omega)]
    · rw [if_neg h, ih k (i + 1) (by omega) (by omega) (by omega), v]
      congr 1
      by_cases h2 : 0 < val (l.drop (i + 1))
      · rw [if_pos h2, if_pos (by omega)]
      · rw [if_neg h2, if_neg (by omega)]
theorem rsign_f {l : List Int} (hD : Dg l) (n0 : 0 < l.length) (n1 : l.length ≤ 1000) {k : Nat} (hk : 1001 ≤ k) : zelligeref01_Sign.f k l = some (sv l).sign := by
  have z := val_nonneg hD
  have b := val_lt hD
  unfold zelligeref01_Sign.f sv
  rw [rbelow_f hD n0 n1, Option.bind_some]
  by_cases h : P l.length ≤ 2 * val l
  · rw [if_pos (decide_eq_true h), if_neg (by omega), Int.sign_eq_neg_one_of_neg (by omega)]
  · rw [if_neg (by rw [decide_eq_true_eq]; exact h), if_pos (by omega)]
    have := rsign_l0 hD n1 l.length k 0 (by omega) (by omega) (by omega)
    rw [List.drop_zero] at this
    rw [show (0 : Int) = ((0 : Nat) : Int) from rfl, this]
    congr 1
    by_cases h2 : 0 < val l
    · rw [if_pos h2, Int.sign_eq_one_of_pos h2]
    · rw [if_neg h2, show val l = 0 by omega]; rfl
theorem rcmp_l0 {a b : List Int} (ha : Dg a) (hb : Dg b) (hl : a.length = b.length) (na : a.length ≤ 1000) : ∀ (n k : Nat), n ≤ a.length → n + 1 < k → val (a.drop n) = val (b.drop n) →
    zelligeref01_Cmp.l0 k a b ((n : Int) - 1) = some (if val a < val b then -1 else if val a > val b then 1 else 0) := by
  intro n
  induction n with
  | zero =>
    intro k _ hk he
    obtain ⟨k, rfl⟩ : ∃ m, k = m + 1 := ⟨k - 1, by omega⟩
    rw [zelligeref01_Cmp.l0, if_neg (by omega)]
    rw [List.drop_zero, List.drop_zero] at he
    rw [if_neg (by omega), if_neg (by omega)]
  | succ n ih =>
    intro k hn hk he
    obtain ⟨k, rfl⟩ : ∃ m, k = m + 1 := ⟨k - 1, by omega⟩
    have e0 : (((n + 1 : Nat) : Int) - 1) = (n : Int) := by omega
    rw [e0, zelligeref01_Cmp.l0, if_pos (by omega), if_pos (by omega), if_pos (by omega), if_pos (by omega), rd_nat, rd_nat, w64 (x := (n : Int) - 1) (by omega) (by omega)]
    have gA := Dg_get ha n
    have gB := Dg_get hb n
    have eA := val_drop (l := a) (i := n) (by omega)
    have eB := val_drop (l := b) (i := n) (by omega)
    have tA := val_take_drop a n (by omega)
    have tB := val_take_drop b n (by omega)
    have lA := val_lt (Dg_take ha n)
    have lB := val_lt (Dg_take hb n)
    rw [List.length_take, Nat.min_eq_left (by omega)] at lA lB
    have zA := val_nonneg (Dg_take ha n)
    have zB := val_nonneg (Dg_take hb n)
    have hP := P_pos n
    by_cases h1 : a.getD n 0 < b.getD n 0
    · rw [if_pos h1]
      have h3 : P n * (val (b.drop n) - val (a.drop n)) ≥ P n * 1 := Int.mul_le_mul_of_nonneg_left (by omega) (by omega)
      rw [Int.mul_sub] at h3
      rw [if_pos (by omega)]
    · rw [if_neg h1]
      by_cases h2 : a.getD n 0 > b.getD n 0
      · rw [if_pos h2]
        have h3 : P n * (val (a.drop n) - val (b.drop n)) ≥ P n * 1 := Int.mul_le_mul_of_nonneg_left (by omega) (by omega)
        rw [Int.mul_sub] at h3
        rw [if_neg (by omega), if_pos (by omega)]
      · rw [if_neg h2]
        exact ih k (by omega) (by omega) (by omega)
theorem rcmp_f {a b : List Int} (ha : Dg a) (hb : Dg b) (hl : a.length = b.length) (n0 : 0 < a.length) (na : a.length ≤ 1000) {k : Nat} (hk : 2000 ≤ k) : zelligeref01_Cmp.f k a b = some (if sv a < sv b then -1 else if sv b < sv a then 1 else 0) := by
  obtain ⟨k, rfl⟩ : ∃ m, k = m + 2 := ⟨k - 2, by omega⟩
  have zA := val_nonneg ha
  have zB := val_nonneg hb
  have bA := val_lt ha
  have bB := val_lt hb
  have fin : zelligeref01_Cmp.j1 (k + 1) a b false = some (if val a < val b then -1 else if val a > val b then 1 else 0) := by
    have e := Aside0.mk (show wrap64 ((a.length : Int) - 1) = (a.length : Int) - 1 by rw [w64 (by omega) (by omega)])
    rw [zelligeref01_Cmp.j1, if_neg (by decide), e.out]
    exact rcmp_l0 ha hb hl na a.length k (by omega) (by omega) (by rw [val_drop_all (by omega), val_drop_all (by omega)])
  have svn : ∀ l : List Int, P l.length ≤ 2 * val l → sv l = val l - P l.length := fun l h => by unfold sv; rw [if_neg (by omega)]
  have svp : ∀ l : List Int, ¬ P l.length ≤ 2 * val l → sv l = val l := fun l h => by unfold sv; rw [if_pos (by omega)]
  unfold zelligeref01_Cmp.f
  rw [rbelow_f ha n0 na, Option.bind_some, rbelow_f hb (by omega) (by omega)]
  rw [hl] at bA
  by_cases hA : P a.length ≤ 2 * val a
  · rw [if_pos (decide_eq_true hA), Option.bind_some, svn a hA]
    rw [hl] at hA ⊢
    by_cases hB : P b.length ≤ 2 * val b
    · rw [decide_eq_true hB, svn b hB, zelligeref01_Cmp.j0, if_neg (by decide), rbelow_f hb (by omega) (by omega), Option.bind_some, if_pos (decide_eq_true hB), rbelow_f ha n0 na, hl, decide_eq_true hA, Option.bind_some]
      rw [show (!true) = false from rfl, fin]
      congr 1
      by_cases h : val a < val b
      · rw [if_pos h, if_pos (by omega)]
      · rw [if_neg h, if_neg (c := val a - P b.length < val b - P b.length) (by omega)]
        by_cases h2 : val a > val b
        · rw [if_pos h2, if_pos (by omega)]
        · rw [if_neg h2, if_neg (by omega)]
    · rw [decide_eq_false hB, svp b hB, zelligeref01_Cmp.j0, if_pos (by decide), if_pos (by omega)]
  · rw [if_neg (by rw [decide_eq_true_eq]; exact hA), zelligeref01_Cmp.j0, if_neg (by decide), rbelow_f hb (by omega) (by omega), Option.bind_some, svp a hA]
    rw [hl] at hA
    by_cases hB : P b.length ≤ 2 * val b
    · rw [if_pos (decide_eq_true hB), svn b hB, rbelow_f ha n0 na, hl, decide_eq_false hA, Option.bind_some, show (!false) = true from rfl, zelligeref01_Cmp.j1, if_pos rfl, if_neg (by omega), if_pos (by omega)]
    · rw [if_neg (by rw [decide_eq_true_eq]; exact hB), fin, svp b hB]
end Go.Proofs.Ytbccokfdkieakaa.D8
namespace Go.Proofs.Ytbccokfdkieakaa.Wd
open Go Go.RowKit Go.Proofs.YtbccokfdkieakaaW.PrintWords Go.Proofs.Ytbccokfdkieakaa.F Go.Proofs.Ytbccokfdkieakaa.D8
set_option linter.unusedVariables false
theorem bu64_ {n : Int} (h : (Lit.int .u64 n).wf = true) : 0 ≤ n ∧ n < 18446744073709551616 := by
  have := bounds_u64 h
  omega
theorem both_ {h l h' l' : Int} (e : h = h' ∧ l = l') : (h == h' && (l == l')) = true := by
  rw [e.1, e.2, beq_self_eq_true, beq_self_eq_true]; rfl
/-- The same modulo 2^128. -/
theorem modc {n m : Int} (h : n % P 16 = m % P 16) : whi n = whi m ∧ wlo n = wlo m := by
  rw [P16] at h
  exact wcong (t := n / 340282366920938463463374607431768211456 - m / 340282366920938463463374607431768211456) (by omega)
theorem modm (n : Int) : whi (n % P 16) = whi n ∧ wlo (n % P 16) = wlo n := modc (Int.emod_emod_of_dvd n (Int.dvd_refl _))
end Go.Proofs.Ytbccokfdkieakaa.Wd
end

section
/- append whose second argument is of another slice type than its first: as one of the same type. -/
namespace Go.Proofs.Ytbccokfdkieakaa.Ap
open Go Go.RowKit Go.Proofs.YtbccokfdkieakaaW.PrintWords
variable {P : Program} {ops : Array Oper} {rest : List Oper} {o : Oper} {a : Act} {Q : Exit → Act → World → Prop}
theorem append_types {t t2 e e2 ty : TypeId} (ht : P.underlying t = some (.slice e)) (ht2 : P.underlying t2 = some (.slice e2)) (v x : Value) (W : World) :
    (Builtin.append_ #[t, t2] ty #[v, x]).run P W = (Builtin.append_ #[t, t] ty #[v, x]).run P W := by
  cases v <;> simp [Builtin.append_, run_underlying ht, run_underlying ht2]
theorem wpList_types {s x : Operand} {t t2 e e2 : TypeId} (hgd : o.guard = none) (ho : o.op = .call { callee := .builtin .append, args := #[s, x], argTypes := #[t, t2] })
    (ht : P.underlying t = some (.slice e)) (ht2 : P.underlying t2 = some (.slice e2)) {W : World}
    (h : ∀ K : Act → World → Prop, (∀ a w, wpList P ops Q rest a w → K a w) → ({ o with op := .call { callee := .builtin .append, args := #[s, x], argTypes := #[t, t] } } : Oper).wp P a W K Q) : wpList P ops Q (o :: rest) a W := by
  refine wpList_plain hgd fun K hK => ?_
  have h1 := h K hK
  unfold Oper.wp execOp at h1 ⊢
  simp only [ho, resolve, invoke, builtin, Sem.run_bind, Sem.run_pure, Result.andThen_ok, List.map_toArray, List.map_cons, List.map_nil, append_types ht ht2] at h1 ⊢
  exact h1
/-- append(v, ys...), ys of another slice type. -/
theorem R_append_rows2 {α : Type} (d : Kd α) {Rr : α → List Value → Prop} {w0 W : World} (base : Nat) (hgd : o.guard = none) (s x : Operand) (t t2 e2 e : TypeId) (z : Value) (bytes : Nat)
    (ho : o.op = .call { callee := .builtin .append, args := #[s, x], argTypes := #[t, t2] })
    (ht : P.underlying t = some (.slice e)) (ht2 : P.underlying t2 = some (.slice e2)) (hinfo : (P.info? e).map (fun i => (i.zero, i.size, i.bytes)) = some (some z, d.sz, bytes)) (hz : z.cells.size = d.sz) (hs0 : 0 < d.sz) (hb0 : 0 < bytes)
    (v : Value) (xs ys : List α) (A : Option Addr) (m c : Nat) (ok okp : Nat → Prop) (hs : a.eval s = v) (hx : a.eval x = .slice A m c)
    (HO : d.R e W base ok v xs) (HR : ReadsRow Rr d.sz W A m ys) (hKM : ∀ x cs, Rr x cs → d.M W base okp x cs) (hokp : ∀ k, okp k → ok k ∧ some k ≠ v.ownBlock) (hfresh : ∀ k, W.heap.size ≤ k → ok k)
    (HB : Below base w0 W) (hbase : base ≤ W.heap.size) (hl : (xs.length + m) * bytes ≤ 140737488355328)
    (h : ∀ v1 w1, d.R e w1 base ok v1 (xs ++ ys) → Below base w0 w1 → W.grownBy w1 v.ownBlock → (v1.ownBlock = v.ownBlock ∨ ∃ b, v1.ownBlock = some b ∧ W.heap.size ≤ b) → wpList P ops Q rest (a.put o.dst v1) w1) :
    wpList P ops Q (o :: rest) a W := by
  refine wpList_types hgd ho ht ht2 fun K hK => ?_
  have hw : Region.wanted ({ o with op := .call { callee := .builtin .append, args := #[s, x], argTypes := #[t, t] } } : Oper) (yielded ops a.tmps) = true := by simp [Region.wanted, hgd]
  have h2 := Kd.R_append_rows_step (P := P) (ops := ops) (Kc := K) (Q := Q) d base hw s x t e z bytes rfl ht hinfo hz hs0 hb0 v xs ys A m c ok okp hs hx HO HR hKM hokp hfresh HB hbase hl (fun v1 w1 h1 h2 h3 h4 => hK _ _ (h v1 w1 h1 h2 h3 h4))
  rwa [if_pos hw] at h2
end Go.Proofs.Ytbccokfdkieakaa.Ap
end

section
namespace Go.Proofs.Ytbccokfdkieakaa.F
open Go.RowKit Go.Proofs.YtbccokfdkieakaaW.PrintWords Go.Proofs.YtbccokfdkieakaaW.PrintLast Go.Proofs.YtbccokfdkieakaaW.PrintMore
attribute [local go_sem] max2_int min2_int max_two min_two max_three min_three max_four min_four   -- for this text's walks alone
set_option linter.unusedVariables false
set_option linter.unusedSimpArgs false

/-! ### zelligeref01_Show: function 29 -/
mutual
def zelligeref01_Show.j0 : Nat → List Int → ByteArray → Bool → Option (ByteArray)
  | 0, _, _, _ => none
  | k + 1, x3, x4, x5 => zelligeref01_Show.l0 k x3 x4 x5 true
def zelligeref01_Show.l0 : Nat → List Int → ByteArray → Bool → Bool → Option (ByteArray)
  | 0, _, _, _, _ => none
  | k + 1, x3, x4, x5, x6 => if x6 = true then (zelligeref01_Show.l1 k x3 x4 x5 false 0 (wrap64 ((x3.length : Int) - 1))) else (if x5 = true then (if 1 + x4.size ≤ 9223372036854775807 then (some ((⟨#[45]⟩ : ByteArray) ++ x4)) else (none)) else (some x4))
def zelligeref01_Show.l1 : Nat → List Int → ByteArray → Bool → Bool → Int → Int → Option (ByteArray)
  | 0, _, _, _, _, _, _ => none
  | k + 1, x3, x4, x5, x6, x7, x8 => if x8 ≥ 0 then (if 0 ≤ x8 then (if x8 < (x3.length : Int) then ((some (x3.set (x8 : Int).toNat (wrap64 (Int.tdiv (wrap64 ((wrap64 (x7 * 256)) + (rd x3 x8))) 10)) : List Int)).bind fun y367 => (if x6 = true then (zelligeref01_Show.l1 k y367 x4 x5 true (Int.tmod (wrap64 ((wrap64 (x7 * 256)) + (rd x3 x8))) 10) (wrap64 (x8 - 1))) else (zelligeref01_Show.l1 k y367 x4 x5 (decide ((rd y367 x8) > 0)) (Int.tmod (wrap64 ((wrap64 (x7 * 256)) + (rd x3 x8))) 10) (wrap64 (x8 - 1))))) else (none)) else (none)) else (if 0 ≤ x7 then (if x7 ≤ (wrap64 (x7 + 1)) then (if (wrap64 (x7 + 1)) ≤ 10 then (if ((⟨#[48, 49, 50, 51, 52, 53, 54, 55, 56, 57]⟩ : ByteArray).extract (x7 : Int).toNat ((wrap64 (x7 + 1)) : Int).toNat).size + x4.size ≤ 9223372036854775807 then (zelligeref01_Show.l0 k x3 (((⟨#[48, 49, 50, 51, 52, 53, 54, 55, 56, 57]⟩ : ByteArray).extract (x7 : Int).toNat ((wrap64 (x7 + 1)) : Int).toNat) ++ x4) x5 x6) else (none)) else (none)) else (none)) else (none))
end
def zelligeref01_Show.f (k : Nat) (l0 : List Int) : Option (ByteArray) := (some (([] : List Int) : List Int)).bind fun y356 => (if y356.length + l0.length < 17592186044416 then ((some (y356 ++ l0 : List Int)).bind fun y359 => ((zelligeref01_Below.f y359).bind fun t362 => (if t362 = true then ((zelligeref01_Neg.f k y359).bind fun t363 => (zelligeref01_Show.j0 k t363 (⟨#[]⟩ : ByteArray) t362)) else (zelligeref01_Show.j0 k y359 (⟨#[]⟩ : ByteArray) t362)))) else (none))
theorem zelligeref01_Show.mono_l : ∀ k, (∀ y0 y1 y2, LeO (zelligeref01_Show.j0 k y0 y1 y2) (zelligeref01_Show.j0 (k + 1) y0 y1 y2)) ∧ (∀ y0 y1 y2 y3, LeO (zelligeref01_Show.l0 k y0 y1 y2 y3) (zelligeref01_Show.l0 (k + 1) y0 y1 y2 y3)) ∧ (∀ y0 y1 y2 y3 y4 y5, LeO (zelligeref01_Show.l1 k y0 y1 y2 y3 y4 y5) (zelligeref01_Show.l1 (k + 1) y0 y1 y2 y3 y4 y5))
  | 0 => ⟨fun _ _ _ r h => by simp [zelligeref01_Show.j0] at h, fun _ _ _ _ r h => by simp [zelligeref01_Show.l0] at h, fun _ _ _ _ _ _ r h => by simp [zelligeref01_Show.l1] at h⟩
  | k + 1 => by
    obtain ⟨ih0, ih1, ih2⟩ := zelligeref01_Show.mono_l k
    refine ⟨?_, ?_, ?_⟩
    · intro y0 y1 y2
      unfold zelligeref01_Show.j0
      repeat' first
      | (with_reducible exact ih0 _ _ _)
      | (with_reducible exact ih1 _ _ _ _)
      | (with_reducible exact ih2 _ _ _ _ _ _)
      | (with_reducible exact zelligeref01_Neg.mono _ _)
      | (with_reducible exact LeO.refl _)
      | (with_reducible exact LeO.none _)
      | (with_reducible refine LeO.ite ?_ ?_)
      | (with_reducible refine LeO.bind ?_ (fun _ => ?_))
      | exact ih0 _ _ _
      | exact ih1 _ _ _ _
      | exact ih2 _ _ _ _ _ _
      | exact zelligeref01_Neg.mono _ _
      | exact LeO.none _
      | refine LeO.ite ?_ ?_
      | refine LeO.bind ?_ (fun _ => ?_)
    · intro y0 y1 y2 y3
      unfold zelligeref01_Show.l0
      repeat' first
      | (with_reducible exact ih0 _ _ _)
      | (with_reducible exact ih1 _ _ _ _)
      | (with_reducible exact ih2 _ _ _ _ _ _)
      | (with_reducible exact zelligeref01_Neg.mono _ _)
      | (with_reducible exact LeO.refl _)
      | (with_reducible exact LeO.none _)
      | (with_reducible refine LeO.ite ?_ ?_)
      | (with_reducible refine LeO.bind ?_ (fun _ => ?_))
      | exact ih0 _ _ _
      | exact ih1 _ _ _ _
      | exact ih2 _ _ _ _ _ _
      | exact zelligeref01_Neg.mono _ _
      | exact LeO.none _
      | refine LeO.ite ?_ ?_
      | refine LeO.bind ?_ (fun _ => ?_)
    · intro y0 y1 y2 y3 y4 y5
      unfold zelligeref01_Show.l1
      repeat' first
      | (with_reducible exact ih0 _ _ _)
      | (with_reducible exact ih1 _ _ _ _)
      | (with_reducible exact ih2 _ _ _ _ _ _)
      | (with_reducible exact zelligeref01_Neg.mono _ _)
      | (with_reducible exact LeO.refl _)
      | (with_reducible exact LeO.none _)
      | (with_reducible refine LeO.ite ?_ ?_)
      | (with_reducible refine LeO.bind ?_ (fun _ => ?_))
      | exact ih0 _ _ _
      | exact ih1 _ _ _ _
      | exact ih2 _ _ _ _ _ _
      | exact zelligeref01_Neg.mono _ _
      | exact LeO.none _
      | refine LeO.ite ?_ ?_
      | refine LeO.bind ?_ (fun _ => ?_)
theorem zelligeref01_Show.mono : ∀ a0 k, LeO (zelligeref01_Show.f k a0) (zelligeref01_Show.f (k + 1) a0) := by
  intro a0 k
  obtain ⟨ih0, ih1, ih2⟩ := zelligeref01_Show.mono_l k
  unfold zelligeref01_Show.f
  repeat' first
      | (with_reducible exact ih0 _ _ _)
      | (with_reducible exact ih1 _ _ _ _)
      | (with_reducible exact ih2 _ _ _ _ _ _)
      | (with_reducible exact zelligeref01_Neg.mono _ _)
      | (with_reducible exact LeO.refl _)
      | (with_reducible exact LeO.none _)
      | (with_reducible refine LeO.ite ?_ ?_)
      | (with_reducible refine LeO.bind ?_ (fun _ => ?_))
      | exact ih0 _ _ _
      | exact ih1 _ _ _ _
      | exact ih2 _ _ _ _ _ _
      | exact zelligeref01_Neg.mono _ _
      | exact LeO.none _
      | refine LeO.ite ?_ ?_
      | refine LeO.bind ?_ (fun _ => ?_)
set_option maxHeartbeats 8000000 in
set_option maxRecDepth 100000 in
theorem zelligeref01_Show.calls (k : Nat) (A0 : Option Addr) (c0 : Nat) (l0 : List Int) (r : ByteArray) (w : World) (hr0 : Kd.C (Kd.int .i64) w A0 l0.length l0) (hc0 : l0.length ≤ c0) (h : zelligeref01_Show.f k l0 = some r) :
    Calls Try.prog 29 #[.slice A0 l0.length c0] w fun e w' => e = .returned (.string r) ∧ Below w.heap.size w w' := by
  have HR0 := Aside0.mk hr0
  have HC0 := Aside0.mk hc0
  clear hr0 hc0
  have HB := Aside0.mk (Below.refl w.heap.size w)
  have H : ((some (([] : List Int) : List Int)).bind fun y356 => (if y356.length + l0.length < 17592186044416 then ((some (y356 ++ l0 : List Int)).bind fun y359 => ((zelligeref01_Below.f y359).bind fun t362 => (if t362 = true then ((zelligeref01_Neg.f k y359).bind fun t363 => (zelligeref01_Show.j0 k t363 (⟨#[]⟩ : ByteArray) t362)) else (zelligeref01_Show.j0 k y359 (⟨#[]⟩ : ByteArray) t362)))) else (none))) = some r := h
  clear h
  obtain ⟨y356, hy356⟩ : ∃ y_ : List Int, y_ = (([] : List Int)) := ⟨_, rfl⟩
  replace H : (if y356.length + l0.length < 17592186044416 then ((some (y356 ++ l0 : List Int)).bind fun y359 => ((zelligeref01_Below.f y359).bind fun t362 => (if t362 = true then ((zelligeref01_Neg.f k y359).bind fun t363 => (zelligeref01_Show.j0 k t363 (⟨#[]⟩ : ByteArray) t362)) else (zelligeref01_Show.j0 k y359 (⟨#[]⟩ : ByteArray) t362)))) else (none)) = some r := by first | (rw [hy356]; with_reducible exact H) | (have H2_ := (Option.bind_some _ _).symm.trans H; rw [hy356]; with_reducible exact H2_) | (have H2_ := (Option.bind_some _ _).symm.trans H; with_reducible exact H2_) | with_reducible exact H | (rw [hy356]; exact H) | exact H
  have Ny356 := Aside0.mk hy356
  clear hy356
  by_cases c2 : y356.length + l0.length < 17592186044416
  · rw [if_pos c2] at H
    have LMc2 := Aside0.mk c2
    clear c2
    obtain ⟨y359, hy359⟩ : ∃ y_ : List Int, y_ = (y356 ++ l0) := ⟨_, rfl⟩
    replace H : ((zelligeref01_Below.f y359).bind fun t362 => (if t362 = true then ((zelligeref01_Neg.f k y359).bind fun t363 => (zelligeref01_Show.j0 k t363 (⟨#[]⟩ : ByteArray) t362)) else (zelligeref01_Show.j0 k y359 (⟨#[]⟩ : ByteArray) t362))) = some r := by first | (rw [hy359]; with_reducible exact H) | (have H2_ := (Option.bind_some _ _).symm.trans H; rw [hy359]; with_reducible exact H2_) | (have H2_ := (Option.bind_some _ _).symm.trans H; with_reducible exact H2_) | with_reducible exact H | (rw [hy359]; exact H) | exact H
    have Ny359 := Aside0.mk hy359
    clear hy359
    replace H := Option.bind_eq_some_iff.mp H
    obtain ⟨t362, A30, H⟩ := H
    replace H : (if t362 = true then ((zelligeref01_Neg.f k y359).bind fun t363 => (zelligeref01_Show.j0 k t363 (⟨#[]⟩ : ByteArray) t362)) else (zelligeref01_Show.j0 k y359 (⟨#[]⟩ : ByteArray) t362)) = some r := H
    have A3 := Aside0.mk A30
    clear A30
    have HC4 := Aside0.mk H
    clear H
    go_enter Try.func29, Try.ntmps29
    go_upto_if 14 with (first | ((with_reducible refine gate_dst (N := 9) rfl ?_); refine Kd.R_lit (Kd.int .i64) _ 3 ?hg (N := 9) ?hd (xs := ([] : List Int)) (inner := []) (ok := fun _ => True) (okp := fun _ => True) ?hr ?hp (fun _ hk => hk) trivial (Below.refl _ _) (Nat.le_refl _) (by simp) ?_; (case hd => rfl); (case hg => rfl); (case hr => first | (go_simp; done) | (go_simp; rfl)); (case hp => exact (Reps.none _ _)); intro v357 w5 ho6 hb hg_ hnew_; clear hg_ hnew_; (first | rw [← Ny356.out] at ho6 | (simp only [Int.reduceToNat] at ho6; rw [← Ny356.out] at ho6)); have n0_ := Aside0.mk (Kd.R_lower ho6 (below_size (by repeat (first | (with_reducible first | exact HB.out | apply below_alloc | apply pw_below_drewN | apply below_drew1) | exact HB.out)))); have n1_ := Aside0.mk (below_step (by repeat (first | (with_reducible first | exact HB.out | apply below_alloc | apply pw_below_drewN | apply below_drew1) | exact HB.out)) hb); clear HB; have HO358 := n0_; have HB := n1_; clear n0_ n1_; clear hb ho6) | ((with_reducible refine gate_builtin (b := .append) (xs := #[.tmp 9, .tmp 10]) rfl ?_); at_builtin; refine Go.Proofs.Ytbccokfdkieakaa.Ap.R_append_rows2 (Kd.int .i64) (w0 := w) w.heap.size rfl (.tmp 9) (.tmp 10) 28 29 3 3 (.int .i64 0) 8 rfl Try.underlying28 Try.underlying29 info3 rfl (by decide) (by omega) v357 y356 l0 _ _ _ (fun _ => True) (fun _ => False) rfl rfl ?aO ?aR (fun _ _ h => h) (fun _ h => h.elim) ?aF ?aB ?aS ?aL ?_; (case aR => repeat (first | exact (Kd.C_below HR0.out HB.out) | (with_reducible refine Kd.C_alloc ?_ _) | (with_reducible refine Kd.C_drewN ?_ _) | (with_reducible refine Kd.C_drew ?_))); (case aB => exact (by repeat (first | (with_reducible first | exact HB.out | apply below_alloc | apply pw_below_drewN | apply below_drew1) | exact HB.out))); (case aF => exact (fun _ _ => trivial)); (case aO => exact (by (with_reducible repeat (first | apply Kd.R_alloc | apply Kd.R_drewN | apply Kd.R_drew)); exact HO358.out)); (case aS => exact (below_size (by repeat (first | (with_reducible first | exact HB.out | apply below_alloc | apply pw_below_drewN | apply below_drew1) | exact HB.out)))); (case aL => have := LMc2.out; omega); intro v360 w7 ho hb hg hat; rw [← Ny359.out] at ho; have n0_ := Aside0.mk (hb); have n1_ := Aside0.mk (ho); clear HB; clear HO358; have HB := n0_; have HO361 := n1_; clear n0_ n1_; clear ho hb hg hat; obtain ⟨Ao8, co8, eo8⟩ := Kd.R_slice HO361.out; subst eo8) | ((with_reducible refine gate_callee (f := 35) rfl ?_); refine goesL_ (some 13) rfl rfl Try.func35 (by kernel_rfl) rfl #[.slice Ao8 y359.length co8] rfl (by (try simp only [List.map_toArray, List.map_cons, List.map_nil]); first | done | rfl | (simp only [List.length_drop, List.length_take]; rfl)) ?_; (with_reducible refine (zelligeref01_Below.calls _ _ y359 t362 _ ?side1 ?side2 A3.out).mono ?_); (case side1 => repeat (first | exact (Kd.R_reads' HO361.out).2.2 | (with_reducible refine Kd.C_alloc ?_ _) | (with_reducible refine Kd.C_drewN ?_ _) | (with_reducible refine Kd.C_drew ?_))); (case side2 => exact (Kd.R_reads' HO361.out).2.1); rintro e w' ⟨rfl, ⟨nd, rfl⟩⟩; refine ⟨_, rfl, ?_⟩))
    (try simp only [Act.put, List.setIfInBounds_toArray, List.set_cons_zero, List.set_cons_succ])
    go_cut [3] (fun v3 wc => ∃ (kq : Nat) (x3_3 : List Int), Aside0 (zelligeref01_Show.j0 kq x3_3 (⟨#[]⟩ : ByteArray) t362 = some r) ∧ Aside0 (kq ≤ k) ∧ Aside0 (Kd.R (Kd.int .i64) 3 wc w.heap.size (fun _ => True) v3 x3_3) ∧ Aside0 (Below w.heap.size w wc))
    case first =>
      have H := HC4.out
      clear HC4
      by_cases c9 : t362 = true
      · subst c9
        have H1 : ((zelligeref01_Neg.f k y359).bind fun t363 => (zelligeref01_Show.j0 k t363 (⟨#[]⟩ : ByteArray) true)) = some r := by rw [if_pos rfl] at H; exact H
        clear H
        have H := H1
        clear H1
        replace H := Option.bind_eq_some_iff.mp H
        obtain ⟨t363, A100, H⟩ := H
        replace H : (zelligeref01_Show.j0 k t363 (⟨#[]⟩ : ByteArray) true) = some r := H
        have A10 := Aside0.mk A100
        clear A100
        have H' := Aside0.mk H
        clear H
        go_wp2_with (first | ((with_reducible refine gate_callee (f := 20) rfl ?_); refine goesL_ (some 16) rfl rfl Try.func20 (by kernel_rfl) rfl #[.slice Ao8 y359.length co8] rfl (by (try simp only [List.map_toArray, List.map_cons, List.map_nil]); first | done | rfl | (simp only [List.length_drop, List.length_take]; rfl)) ?_; (with_reducible refine (zelligeref01_Neg.calls k _ _ y359 t363 _ ?side1 ?side2 A10.out).mono ?_); (case side1 => repeat (first | exact (Kd.R_reads' HO361.out).2.2 | (with_reducible refine Kd.C_alloc ?_ _) | (with_reducible refine Kd.C_drewN ?_ _) | (with_reducible refine Kd.C_drew ?_))); (case side2 => exact (Kd.R_reads' HO361.out).2.1); rintro e w11 ⟨v364, rfl, ho0, hb⟩; refine ⟨_, rfl, ?_⟩; have n0_ := Aside0.mk (Kd.R_elder' (by (with_reducible repeat (first | apply Kd.R_alloc | apply Kd.R_drewN | apply Kd.R_drew)); exact HO361.out) (Kd.R_base ho0) hb); have n1_ := Aside0.mk (Kd.R_lower (Kd.R_new' ho0 (Kd.R_lt (by (with_reducible repeat (first | apply Kd.R_alloc | apply Kd.R_drewN | apply Kd.R_drew)); exact HO361.out))) (below_size (by repeat (first | (with_reducible first | exact HB.out | apply below_alloc | apply pw_below_drewN | apply below_drew1) | exact HB.out)))); have n2_ := Aside0.mk (below_step (by repeat (first | (with_reducible first | exact HB.out | apply below_alloc | apply pw_below_drewN | apply below_drew1) | exact HB.out)) hb); clear HO361; clear HB; have HO361 := n0_; have HO365 := n1_; have HB := n2_; clear n0_ n1_ n2_; (try clear hb); (try clear hb2); (try clear hk); (try clear hi); (try clear ho0)))
        go_meet
        case rel => exact ⟨_, (t363), H', ⟨by first | omega | exact Nat.le_refl _⟩, ⟨by (with_reducible repeat (first | apply Kd.R_alloc | apply Kd.R_drewN | apply Kd.R_drew)); exact Kd.R_mono HO365.out (fun _ hk => trivial)⟩, ⟨by repeat (first | (with_reducible first | exact HB.out | apply below_alloc | apply pw_below_drewN | apply below_drew1) | exact HB.out)⟩⟩
      · replace c9 := Bool.eq_false_iff.mpr c9
        subst c9
        have H1 : (zelligeref01_Show.j0 k y359 (⟨#[]⟩ : ByteArray) false) = some r := by rw [if_neg (show ¬ (false = true) by decide)] at H; exact H
        clear H
        have H := H1
        clear H1
        have H' := Aside0.mk H
        clear H
        go_wp2
        go_meet
        case rel => exact ⟨_, (y359), H', ⟨by first | omega | exact Nat.le_refl _⟩, ⟨by (with_reducible repeat (first | apply Kd.R_alloc | apply Kd.R_drewN | apply Kd.R_drew)); exact HO361.out⟩, ⟨by repeat (first | (with_reducible first | exact HB.out | apply below_alloc | apply pw_below_drewN | apply below_drew1) | exact HB.out)⟩⟩
    case rest =>
      clear HC4
      try clear c2
      try clear p2
      try clear c3
      try clear c9
      obtain ⟨kq, x3_3, HA, HJ3, HO_3, HB⟩ := hcut
      cases kq with
      | zero => exact absurd HA.out (by simp [zelligeref01_Show.j0])
      | succ kj3 =>
        have H := HA.out
        clear HA
        simp only [zelligeref01_Show.j0] at H
        have H' := Aside0.mk H
        clear H
        go_wp2
        go_loopg [4, 6] kj3 (fun kq v4 v6 w' => ∃ (x3_2 : List Int) (x4_2 : ByteArray) (x6_2 : Bool), v4 = .string x4_2 ∧ v6 = .bool x6_2 ∧ Aside0 (zelligeref01_Show.l0 kq x3_2 x4_2 t362 x6_2 = some r) ∧ Aside0 (kq ≤ kj3) ∧ Aside0 (Kd.R (Kd.int .i64) 3 w' w.heap.size (fun _ => True) u3 x3_2) ∧ Aside0 (Below w.heap.size w w'))
        case atStart => exact ⟨(x3_3), ((⟨#[]⟩ : ByteArray)), (true), (by first | rfl | (simp; done) | (simp [*]; done)), (by first | rfl | (simp; done) | (simp [*]; done)), H', ⟨Nat.le_refl _⟩, ⟨by (with_reducible repeat (first | apply Kd.R_alloc | apply Kd.R_drewN | apply Kd.R_drew)); exact HO_3.out⟩, ⟨by repeat (first | (with_reducible first | exact HB.out | apply below_alloc | apply pw_below_drewN | apply below_drew1) | exact HB.out)⟩⟩
        case round =>
          clear H'
          try clear c2
          try clear p2
          try clear c3
          try clear c9
          try clear p2
          obtain ⟨x3_2, x4_2, x6_2, rfl, rfl, HA, HK2, HO_3, HB⟩ := hrel
          cases gk with
          | zero => exact absurd HA.out (by simp [zelligeref01_Show.l0])
          | succ k2 =>
            have H := HA.out
            clear HA
            simp only [zelligeref01_Show.l0] at H
            by_cases c12 : x6_2 = true
            · subst c12
              have H1 : (zelligeref01_Show.l1 k2 x3_2 x4_2 t362 false 0 (wrap64 ((x3_2.length : Int) - 1))) = some r := by rw [if_pos rfl] at H; exact H
              clear H
              have H := H1
              clear H1
              have H' := Aside0.mk H
              clear H
              obtain ⟨Ao13, co13, eo13⟩ := Kd.R_slice HO_3.out
              subst eo13
              go_wp2
              go_loopg [6, 7, 8] k2 (fun kq v6 v7 v8 w' => ∃ (x3_3 : List Int) (x6_3 : Bool) (x7_3 : Int) (x8_3 : Int), v6 = .bool x6_3 ∧ v7 = .int .i64 x7_3 ∧ v8 = .int .i64 x8_3 ∧ Aside0 (zelligeref01_Show.l1 kq x3_3 x4_2 t362 x6_3 x7_3 x8_3 = some r) ∧ Aside0 (kq ≤ k2) ∧ Aside0 (Kd.R (Kd.int .i64) 3 w' w.heap.size (fun _ => True) (.slice Ao13 x3_2.length co13) x3_3) ∧ Aside0 (Below w.heap.size w w'))
              case atStart => exact ⟨(x3_2), (false), (0), (wrap64 ((x3_2.length : Int) - 1)), (by first | rfl | (simp; done) | (simp [*]; done)), (by first | rfl | (simp; done) | (simp [*]; done)), (by first | rfl | (simp; done) | (simp [*]; done)), H', ⟨Nat.le_refl _⟩, ⟨by (with_reducible repeat (first | apply Kd.R_alloc | apply Kd.R_drewN | apply Kd.R_drew)); exact HO_3.out⟩, ⟨by repeat (first | (with_reducible first | exact HB.out | apply below_alloc | apply pw_below_drewN | apply below_drew1) | exact HB.out)⟩⟩
              case round =>
                clear H'
                try clear c1
                try clear c2
                try clear p2
                try clear c3
                try clear p6
                try clear c9
                try clear c12
                try clear p2
                obtain ⟨x3_3, x6_3, x7_3, x8_3, rfl, rfl, rfl, HA, HK3, HO_3, HB⟩ := hrel
                have hl3_3 := (Kd.R_reads' HO_3.out).1
                rw [hl3_3] at HO_3
                (try simp only [hl3_3])
                cases gk with
                | zero => exact absurd HA.out (by simp [zelligeref01_Show.l1])
                | succ k3 =>
                  have H := HA.out
                  clear HA
                  simp only [zelligeref01_Show.l1] at H
                  by_cases c14 : x8_3 ≥ 0
                  · rw [if_pos c14] at H
                    have c14b0 : decide (0 ≤ x8_3) = true := decide_eq_true c14
                    clear c14
                    by_cases c15 : 0 ≤ x8_3
                    · rw [if_pos c15] at H
                      have c15b0 : decide (0 ≤ x8_3) = true := decide_eq_true c15
                      clear c15
                      by_cases c16 : x8_3 < (x3_3.length : Int)
                      · rw [if_pos c16] at H
                        have c16b0 : decide (x8_3 < (x3_3.length : Int)) = true := decide_eq_true c16
                        clear c16
                        obtain ⟨y367, hy367⟩ : ∃ y_ : List Int, y_ = (x3_3.set (x8_3 : Int).toNat (wrap64 (Int.tdiv (wrap64 ((wrap64 (x7_3 * 256)) + (rd x3_3 x8_3))) 10))) := ⟨_, rfl⟩
                        replace H : (if x6_3 = true then (zelligeref01_Show.l1 k3 y367 x4_2 t362 true (Int.tmod (wrap64 ((wrap64 (x7_3 * 256)) + (rd x3_3 x8_3))) 10) (wrap64 (x8_3 - 1))) else (zelligeref01_Show.l1 k3 y367 x4_2 t362 (decide ((rd y367 x8_3) > 0)) (Int.tmod (wrap64 ((wrap64 (x7_3 * 256)) + (rd x3_3 x8_3))) 10) (wrap64 (x8_3 - 1)))) = some r := by first | (rw [hy367]; with_reducible exact H) | (have H2_ := (Option.bind_some _ _).symm.trans H; rw [hy367]; with_reducible exact H2_) | (have H2_ := (Option.bind_some _ _).symm.trans H; with_reducible exact H2_) | with_reducible exact H | (rw [hy367]; exact H) | exact H
                        have Ny367 := Aside0.mk hy367
                        clear hy367
                        by_cases c18 : x6_3 = true
                        · subst c18
                          have H1 : (zelligeref01_Show.l1 k3 y367 x4_2 t362 true (Int.tmod (wrap64 ((wrap64 (x7_3 * 256)) + (rd x3_3 x8_3))) 10) (wrap64 (x8_3 - 1))) = some r := by rw [if_pos rfl] at H; exact H
                          clear H
                          have H := H1
                          clear H1
                          have H' := Aside0.mk H
                          clear H
                          have p366 : 0 ≤ (x8_3 : Int) := of_decide_eq_true (by first | (with_reducible assumption) | assumption)
                          have q366 : x8_3 < (x3_3.length : Int) := of_decide_eq_true (by first | (with_reducible assumption) | assumption)
                          obtain ⟨ad366, e366, hx366_0⟩ := Kd.at_int (Kd.R_reads' HO_3.out).2.2 x8_3 p366 q366
                          cases e366
                          replace p366 := eq_true p366
                          replace q366 := eq_true q366
                          have p17 : 0 ≤ (x8_3 : Int) := of_decide_eq_true (by first | (with_reducible assumption) | assumption)
                          have q17 : (x8_3 : Int) < ((x3_3.length : Int) : Int) := of_decide_eq_true (by first | (with_reducible assumption) | assumption)
                          obtain ⟨go17, co17, eo17, gb17, gl17, cl17, HG17⟩ := Kd.R_form HO_3.out (by omega)
                          (first | cases eo17 | (injection eo17 with ea_ en_ ec_; (first | subst ea_ | (injection ea_ with ea_; subst ea_)); subst ec_; clear en_))
                          have GB17 := Aside0.mk gb17
                          have GG17 := Aside0.mk HG17
                          clear gb17 gl17 HG17
                          (first | simp only [add_plain] at hx366_0 | skip)
                          obtain ⟨hx17_0, hf17_0⟩ := Kd.R_celln 0 HO_3.out (x8_3 : Int) p17 q17
                          replace p17 := eq_true p17
                          replace q17 := eq_true q17
                          have HP19 := Kd.R_putg HO_3.out (x8_3 : Int) (wrap64 (Int.tdiv (wrap64 ((wrap64 (x7_3 * 256)) + (rd x3_3 x8_3))) 10))
                          go_wp2_with (first | ((with_reducible refine gate_store (t := 3) (p := 36) rfl ?_); refine store_event (t := 3) (p := 36) (v := ?vo_w20) (w1 := (wr.setCell ⟨go17, (x8_3 : Int).toNat, none⟩ (.int .i64 (wrap64 (Int.tdiv (wrap64 ((wrap64 (x7_3 * 256)) + (rd x3_3 x8_3))) 10))))) ?hg ?ho ?hn ?hr ?_; (case ho => rfl); (case hg => rfl); (case hn => rfl); (case hr => first | (go_simp; done) | (go_simp; rfl)); intro w20 hw; have hg : wr.grownBy w20 (some go17) := (by rw [hw]; exact HP19.2); have hp_ : Kd.R (Kd.int .i64) 3 w20 w.heap.size (fun _ => True) (.slice (some ⟨go17, 0, none⟩) x3_3.length co13) y367 := (by rw [hw, Ny367.out]; exact HP19.1); clear HP19; have n0_ := Aside0.mk (hp_); have n1_ := Aside0.mk ((by rw [hw]; exact below_set (HB.out) GB17.out : Below w.heap.size w w20)); clear HO_3; clear HB; have HO_3 := n0_; have HB := n1_; clear n0_ n1_; clear hg hw hp_))
                          (try simp only [← hl3_3])
                          go_roundg k3
                          case measure => have := HJ3.out; have := HK2.out; have := HK3.out; omega
                          case rel => exact ⟨(y367), (true), (Int.tmod (wrap64 ((wrap64 (x7_3 * 256)) + (rd x3_3 x8_3))) 10), (wrap64 (x8_3 - 1)), (by first | rfl | (simp; done) | (simp [*]; done)), (by first | rfl | (simp; done) | (simp [*]; done)), (by first | rfl | (simp; done) | (simp [*]; done)), H', ⟨by have := HJ3.out; have := HK2.out; have := HK3.out; omega⟩, ⟨by (try simp only [hl3_3]); (with_reducible repeat (first | apply Kd.R_alloc | apply Kd.R_drewN | apply Kd.R_drew)); exact HO_3.out⟩, ⟨by repeat (first | (with_reducible first | exact HB.out | apply below_alloc | apply pw_below_drewN | apply below_drew1) | exact HB.out)⟩⟩
                        · replace c18 := Bool.eq_false_iff.mpr c18
                          subst c18
                          have H1 : (zelligeref01_Show.l1 k3 y367 x4_2 t362 (decide ((rd y367 x8_3) > 0)) (Int.tmod (wrap64 ((wrap64 (x7_3 * 256)) + (rd x3_3 x8_3))) 10) (wrap64 (x8_3 - 1))) = some r := by rw [if_neg (show ¬ (false = true) by decide)] at H; exact H
                          clear H
                          have H := H1
                          clear H1
                          have H' := Aside0.mk H
                          clear H
                          have p366 : 0 ≤ (x8_3 : Int) := of_decide_eq_true (by first | (with_reducible assumption) | assumption)
                          have q366 : x8_3 < (x3_3.length : Int) := of_decide_eq_true (by first | (with_reducible assumption) | assumption)
                          obtain ⟨ad366, e366, hx366_0⟩ := Kd.at_int (Kd.R_reads' HO_3.out).2.2 x8_3 p366 q366
                          cases e366
                          replace p366 := eq_true p366
                          replace q366 := eq_true q366
                          have p17 : 0 ≤ (x8_3 : Int) := of_decide_eq_true (by first | (with_reducible assumption) | assumption)
                          have q17 : (x8_3 : Int) < ((x3_3.length : Int) : Int) := of_decide_eq_true (by first | (with_reducible assumption) | assumption)
                          obtain ⟨go17, co17, eo17, gb17, gl17, cl17, HG17⟩ := Kd.R_form HO_3.out (by omega)
                          (first | cases eo17 | (injection eo17 with ea_ en_ ec_; (first | subst ea_ | (injection ea_ with ea_; subst ea_)); subst ec_; clear en_))
                          have GB17 := Aside0.mk gb17
                          have GG17 := Aside0.mk HG17
                          clear gb17 gl17 HG17
                          (first | simp only [add_plain] at hx366_0 | skip)
                          obtain ⟨hx17_0, hf17_0⟩ := Kd.R_celln 0 HO_3.out (x8_3 : Int) p17 q17
                          replace p17 := eq_true p17
                          replace q17 := eq_true q17
                          have HP21 := Kd.R_putg HO_3.out (x8_3 : Int) (wrap64 (Int.tdiv (wrap64 ((wrap64 (x7_3 * 256)) + (rd x3_3 x8_3))) 10))
                          go_wp2_with (first | ((with_reducible refine gate_store (t := 3) (p := 36) rfl ?_); refine store_event (t := 3) (p := 36) (v := ?vo_w22) (w1 := (wr.setCell ⟨go17, (x8_3 : Int).toNat, none⟩ (.int .i64 (wrap64 (Int.tdiv (wrap64 ((wrap64 (x7_3 * 256)) + (rd x3_3 x8_3))) 10))))) ?hg ?ho ?hn ?hr ?_; (case ho => rfl); (case hg => rfl); (case hn => rfl); (case hr => first | (go_simp; done) | (go_simp; rfl)); intro w22 hw; have hg : wr.grownBy w22 (some go17) := (by rw [hw]; exact HP21.2); have hp_ : Kd.R (Kd.int .i64) 3 w22 w.heap.size (fun _ => True) (.slice (some ⟨go17, 0, none⟩) x3_3.length co13) y367 := (by rw [hw, Ny367.out]; exact HP21.1); clear HP21; have n0_ := Aside0.mk (hp_); have n1_ := Aside0.mk ((by rw [hw]; exact below_set (HB.out) GB17.out : Below w.heap.size w w22)); clear HO_3; clear HB; have HO_3 := n0_; have HB := n1_; clear n0_ n1_; clear hg hw hp_; have p368 : 0 ≤ (x8_3 : Int) := of_decide_eq_true (by first | (with_reducible assumption) | assumption); have q368 : x8_3 < (y367.length : Int) := (by have h_ : (x8_3 : Int) < ((x3_3.length : Int) : Int) := of_decide_eq_true (by first | (with_reducible assumption) | assumption); first | (have e_ := (Kd.R_reads' HO_3.out).1; omega) | simpa only [Ny367.out, List.length_set] using h_); have ql368 : ((x8_3 : Int) < ((x3_3.length : Int) : Int)) = True := eq_true (of_decide_eq_true (by first | (with_reducible assumption) | assumption)); obtain ⟨ad368, e368, hx368_0⟩ := Kd.at_int (Kd.R_reads' HO_3.out).2.2 x8_3 p368 q368; obtain rfl : (⟨go17, 0, none⟩ : Addr) = ad368 := (by injection e368); (first | simp only [add_plain] at hx368_0 | simp only [add_at] at hx368_0 | simp only [Addr.add, Nat.zero_add] at hx368_0 | skip); replace p368 := eq_true p368; replace q368 := eq_true q368))
                          (try simp only [← hl3_3])
                          go_roundg k3
                          case measure => have := HJ3.out; have := HK2.out; have := HK3.out; omega
                          case rel => exact ⟨(y367), (decide ((rd y367 x8_3) > 0)), (Int.tmod (wrap64 ((wrap64 (x7_3 * 256)) + (rd x3_3 x8_3))) 10), (wrap64 (x8_3 - 1)), (by first | rfl | (simp; done) | (simp [*]; done)), (by first | rfl | (simp; done) | (simp [*]; done)), (by first | rfl | (simp; done) | (simp [*]; done)), H', ⟨by have := HJ3.out; have := HK2.out; have := HK3.out; omega⟩, ⟨by (try simp only [hl3_3]); (with_reducible repeat (first | apply Kd.R_alloc | apply Kd.R_drewN | apply Kd.R_drew)); exact HO_3.out⟩, ⟨by repeat (first | (with_reducible first | exact HB.out | apply below_alloc | apply pw_below_drewN | apply below_drew1) | exact HB.out)⟩⟩
                      · rw [if_neg c16] at H
                        exact absurd H (by simp)
                    · rw [if_neg c15] at H
                      exact absurd H (by simp)
                  · rw [if_neg c14] at H
                    have c14b0 : decide (0 ≤ x8_3) = false := decide_eq_false c14
                    clear c14
                    by_cases c23 : 0 ≤ x7_3
                    · rw [if_pos c23] at H
                      have c23b0 := eq_true c23
                      have c23b1 : decide (0 ≤ x7_3) = true := decide_eq_true c23
                      clear c23
                      by_cases c24 : x7_3 ≤ (wrap64 (x7_3 + 1))
                      · rw [if_pos c24] at H
                        have c24b0 := eq_true c24
                        have c24b1 : decide (x7_3 ≤ (wrap64 (x7_3 + 1))) = true := decide_eq_true c24
                        by_cases c25 : (wrap64 (x7_3 + 1)) ≤ 10
                        · rw [if_pos c25] at H
                          have c25b0 := eq_true c25
                          have c25b1 : decide ((wrap64 (x7_3 + 1)) ≤ 10) = true := decide_eq_true c25
                          by_cases c26 : ((⟨#[48, 49, 50, 51, 52, 53, 54, 55, 56, 57]⟩ : ByteArray).extract (x7_3 : Int).toNat ((wrap64 (x7_3 + 1)) : Int).toNat).size + x4_2.size ≤ 9223372036854775807
                          · rw [if_pos c26] at H
                            have c26b0 := eq_true c26
                            have c26b1 : decide (((⟨#[48, 49, 50, 51, 52, 53, 54, 55, 56, 57]⟩ : ByteArray).extract (x7_3 : Int).toNat ((wrap64 (x7_3 + 1)) : Int).toNat).size + x4_2.size ≤ 9223372036854775807) = true := decide_eq_true c26
                            try have c26b2 : (9223372036854775807 < ((⟨#[48, 49, 50, 51, 52, 53, 54, 55, 56, 57]⟩ : ByteArray).extract (x7_3 : Int).toNat ((wrap64 (x7_3 + 1)) : Int).toNat).size + x4_2.size) = False := eq_false (Nat.not_lt.2 c26)
                            have H' := Aside0.mk H
                            clear H
                            go_wp2
                            (try simp only [← hl3_3])
                            go_roundg k3
                            case measure => have := HJ3.out; have := HK2.out; have := HK3.out; omega
                            case rel => exact ⟨(x3_3), (((⟨#[48, 49, 50, 51, 52, 53, 54, 55, 56, 57]⟩ : ByteArray).extract (x7_3 : Int).toNat ((wrap64 (x7_3 + 1)) : Int).toNat) ++ x4_2), (x6_3), (by first | rfl | (simp; done) | (simp [*]; done)), (by first | rfl | (simp; done) | (simp [*]; done)), H', ⟨by have := HJ3.out; have := HK2.out; have := HK3.out; omega⟩, ⟨by (try simp only [hl3_3]); (with_reducible repeat (first | apply Kd.R_alloc | apply Kd.R_drewN | apply Kd.R_drew)); exact HO_3.out⟩, ⟨by repeat (first | (with_reducible first | exact HB.out | apply below_alloc | apply pw_below_drewN | apply below_drew1) | exact HB.out)⟩⟩
                          · rw [if_neg c26] at H
                            exact absurd H (by simp)
                        · rw [if_neg c25] at H
                          exact absurd H (by simp)
                      · rw [if_neg c24] at H
                        exact absurd H (by simp)
                    · rw [if_neg c23] at H
                      exact absurd H (by simp)
            · replace c12 := Bool.eq_false_iff.mpr c12
              subst c12
              have H1 : (if t362 = true then (if 1 + x4_2.size ≤ 9223372036854775807 then (some ((⟨#[45]⟩ : ByteArray) ++ x4_2)) else (none)) else (some x4_2)) = some r := by rw [if_neg (show ¬ (false = true) by decide)] at H; exact H
              clear H
              have H := H1
              clear H1
              by_cases c27 : t362 = true
              · subst c27
                have H1 : (if 1 + x4_2.size ≤ 9223372036854775807 then (some ((⟨#[45]⟩ : ByteArray) ++ x4_2)) else (none)) = some r := by rw [if_pos rfl] at H; exact H
                clear H
                have H := H1
                clear H1
                by_cases c28 : 1 + x4_2.size ≤ 9223372036854775807
                · rw [if_pos c28] at H
                  have c28b0 := eq_true c28
                  have c28b1 : decide (1 + x4_2.size ≤ 9223372036854775807) = true := decide_eq_true c28
                  try have c28b2 : (9223372036854775807 < 1 + x4_2.size) = False := eq_false (Nat.not_lt.2 c28)
                  obtain rfl := Option.some.inj H
                  go_wp2
                  go_ret
                  exact ⟨by first | rfl | (simp [errW_none, errW_some] <;> rfl) | (simp [*, errW_none, errW_some] <;> rfl), by repeat (first | (with_reducible first | exact HB.out | apply below_alloc | apply pw_below_drewN | apply below_drew1) | exact HB.out)⟩
                · rw [if_neg c28] at H
                  exact absurd H (by simp)
              · replace c27 := Bool.eq_false_iff.mpr c27
                subst c27
                have H1 : (some x4_2) = some r := by rw [if_neg (show ¬ (false = true) by decide)] at H; exact H
                clear H
                have H := H1
                clear H1
                obtain rfl := Option.some.inj H
                go_wp2
                go_ret
                exact ⟨by first | rfl | (simp [errW_none, errW_some] <;> rfl) | (simp [*, errW_none, errW_some] <;> rfl), by repeat (first | (with_reducible first | exact HB.out | apply below_alloc | apply pw_below_drewN | apply below_drew1) | exact HB.out)⟩
  · rw [if_neg c2] at H
    exact absurd H (by simp)

end Go.Proofs.Ytbccokfdkieakaa.F
end

section
/- The reference's text of a number of digits to the base 256 (Show): its decimal digits. Plain lists and whole numbers. -/
namespace Go.Proofs.Ytbccokfdkieakaa.D8
open Go Go.RowKit Go.Proofs.YtbccokfdkieakaaW.PrintWords Go.Proofs.Ytbccokfdkieakaa.F
set_option linter.unusedVariables false
attribute [local irreducible] val P
theorem sns_app (xs ys : List Int) : strOfNums xs ++ strOfNums ys = strOfNums (xs ++ ys) := by
  apply ByteArray.ext
  simp [strOfNums]
theorem digit_str (r : Nat) (h : r < 10) : (⟨#[48, 49, 50, 51, 52, 53, 54, 55, 56, 57]⟩ : ByteArray).extract r (r + 1) = strOfNums [((48 + r : Nat) : Int)] := by
  rcases r with _ | _ | _ | _ | _ | _ | _ | _ | _ | _ | r
  iterate 10 decide +kernel
  omega
theorem set_take {l : List Int} {i : Nat} (x : Int) (j : Nat) (h : i ≤ j) : (l.set j x).take i = l.take i := by
  apply List.ext_getElem?
  intro m
  rw [List.getElem?_take, List.getElem?_take]
  by_cases h2 : m < i
  · rw [if_pos h2, if_pos h2, List.getElem?_set_ne (by omega)]
  · rw [if_neg h2, if_neg h2]
theorem set_drop {l : List Int} {i : Nat} (x : Int) : (l.set i x).drop (i + 1) = l.drop (i + 1) := by
  apply List.ext_getElem?
  intro m
  rw [List.getElem?_drop, List.getElem?_drop, List.getElem?_set_ne (by omega)]
/-- One division by ten. -/
theorem show_l1 (s : List Int) (neg : Bool) (V : Int) : ∀ (i k : Nat) (x : List Int) (r : Int), x.length ≤ 1000 → i ≤ x.length → Dg x → 0 ≤ r → r < 10 → s.length ≤ 1000000 → V = val (x.take i) + P i * (10 * val (x.drop i) + r) → i < k →
    ∃ y, zelligeref01_Show.l1 k x (strOfNums s) neg (decide (0 < val (x.drop i))) r ((i : Int) - 1) = zelligeref01_Show.l0 (k - i - 1) y (strOfNums ((48 + V % 10) :: s)) neg (decide (0 < val y)) ∧ y.length = x.length ∧ Dg y ∧ val y = V / 10 := by
  intro i
  induction i with
  | zero =>
    intro k x r hx hi hD r0 r1 hs hV hk
    obtain ⟨k, rfl⟩ : ∃ m, k = m + 1 := ⟨k - 1, by omega⟩
    rw [List.drop_zero, List.take_zero, show val [] = 0 by rw [val], show P 0 = 1 by rw [P]] at hV
    have e1 : V % 10 = r := by omega
    have e2 : V / 10 = val x := by omega
    refine ⟨x, ?_, rfl, hD, by rw [e2]⟩
    obtain ⟨n, rfl⟩ := Int.eq_ofNat_of_zero_le r0
    have e3 := Aside0.mk (show wrap64 ((n : Int) + 1) = ((n + 1 : Nat) : Int) by rw [w64 (by omega) (by omega)]; omega)
    have e4 := digit_str n (by omega)
    rw [zelligeref01_Show.l1, if_neg (by omega), e3.out, if_pos (by omega), if_pos (by omega), if_pos (by omega), Int.toNat_natCast, Int.toNat_natCast, e4, if_pos (by rw [strOfNums_size, strOfNums_size, List.length_singleton]; omega), sns_app, e1, List.drop_zero]
    rfl
  | succ i ih =>
    intro k x r hx hi hD r0 r1 hs hV hk
    obtain ⟨k, rfl⟩ : ∃ m, k = m + 1 := ⟨k - 1, by omega⟩
    have g := Dg_get hD i
    have z := val_nonneg (Dg_drop hD (i + 1))
    have e0 := Aside0.mk (show (((i + 1 : Nat) : Int) - 1) = (i : Int) by omega)
    have e1 := Aside0.mk (show wrap64 ((i : Int) - 1) = (i : Int) - 1 by rw [w64 (by omega) (by omega)])
    have s1 := Aside0.mk (show wrap64 (wrap64 (r * 256) + x.getD i 0) = r * 256 + x.getD i 0 by rw [w64 (x := r * 256) (by omega) (by omega), w64 (by omega) (by omega)])
    rw [e0.out, zelligeref01_Show.l1, if_pos (by omega), if_pos (by omega), if_pos (by omega), rd_nat, e1.out, s1.out, Option.bind_some, Int.toNat_natCast, Int.tdiv_eq_ediv_of_nonneg (by omega), Int.tmod_eq_emod_of_nonneg (by omega), w64 (x := (r * 256 + x.getD i 0) / 10) (by omega) (by omega)]
    have v1 : val ((x.set i ((r * 256 + x.getD i 0) / 10)).drop i) = (r * 256 + x.getD i 0) / 10 + 256 * val (x.drop (i + 1)) := by
      rw [val_drop (by rw [List.length_set]; omega), set_drop]
      congr 1
      rw [List.getD_eq_getElem?_getD, List.getElem?_set_self (by omega)]
      rfl
    have hV2 : V = val ((x.set i ((r * 256 + x.getD i 0) / 10)).take i) + P i * (10 * val ((x.set i ((r * 256 + x.getD i 0) / 10)).drop i) + (r * 256 + x.getD i 0) % 10) := by
      rw [set_take _ _ (Nat.le_refl _), v1, hV, take_succ' (by omega), val_snoc, List.length_take, Nat.min_eq_left (by omega), show P (i + 1) = 256 * P i by rw [P]]
      have hs := Int.emod_add_mul_ediv (r * 256 + x.getD i 0) 10
      generalize (r * 256 + x.getD i 0) % 10 = m at hs ⊢
      generalize (r * 256 + x.getD i 0) / 10 = q at hs ⊢
      generalize val (x.drop (i + 1)) = A
      generalize P i = p
      have : x.getD i 0 = m + 10 * q - r * 256 := by omega
      rw [this]
      grind
    have D2 : Dg (x.set i ((r * 256 + x.getD i 0) / 10)) := Dg_set hD (by omega) (by omega)
    obtain ⟨y, h1, h2, h3, h4⟩ := ih k (x.set i ((r * 256 + x.getD i 0) / 10)) ((r * 256 + x.getD i 0) % 10) (by rw [List.length_set]; exact hx) (by rw [List.length_set]; omega) D2 (by omega) (by omega) hs hV2 (by omega)
    refine ⟨y, ?_, by rw [h2, List.length_set], h3, h4⟩
    rw [show k + 1 - (i + 1) - 1 = k - i - 1 by omega, ← h1, v1]
    by_cases h : 0 < val (x.drop (i + 1))
    · rw [if_pos (decide_eq_true h), decide_eq_true (show 0 < (r * 256 + x.getD i 0) / 10 + 256 * val (x.drop (i + 1)) by omega)]
    · rw [if_neg (by rw [decide_eq_true_eq]; exact h)]
      congr 1
      rw [decide_eq_decide]
      have e5 : rd (x.set i ((r * 256 + x.getD i 0) / 10)) (i : Int) = (r * 256 + x.getD i 0) / 10 := by
        rw [rd_nat, List.getD_eq_getElem?_getD, List.getElem?_set_self (by omega)]; rfl
      rw [e5]
      omega
/-- All of them. -/
theorem show_l0 (neg : Bool) (N : Nat) : ∀ (d n k : Nat) (x : List Int), dlen N - n = d → n ≤ dlen N → x.length ≤ 1000 → Dg x → dlen N ≤ 10000 → val x = ((N / 10 ^ n : Nat) : Int) → 1002 * d + 3 ≤ k →
    zelligeref01_Show.l0 k x (strOfNums (chars N n)) neg (decide (n < dlen N)) = some (strOfNums (if neg = true then 45 :: chars N (dlen N) else chars N (dlen N))) := by
  intro d
  induction d with
  | zero =>
    intro n k x hd hn hx hD hl hv hk
    obtain ⟨k, rfl⟩ : ∃ m, k = m + 1 := ⟨k - 1, by omega⟩
    have hn2 : n = dlen N := by omega
    subst hn2
    rw [zelligeref01_Show.l0, decide_eq_false (by omega), if_neg (by decide)]
    cases neg
    · rw [if_neg (by decide), if_neg (by decide)]
    · rw [if_pos rfl, if_pos rfl, if_pos (by rw [strOfNums_size, chars_len]; omega), show (⟨#[45]⟩ : ByteArray) = strOfNums [45] from rfl, sns_app]
      rfl
  | succ d ih =>
    intro n k x hd hn hx hD hl hv hk
    obtain ⟨k, rfl⟩ : ∃ m, k = m + 1 := ⟨k - 1, by omega⟩
    have e := Aside0.mk (show wrap64 ((x.length : Int) - 1) = (x.length : Int) - 1 by rw [w64 (by omega) (by omega)])
    rw [zelligeref01_Show.l0, decide_eq_true (by omega), if_pos rfl, e.out]
    have nil0 : val (x.drop x.length) = 0 := val_drop_all (Nat.le_refl _)
    obtain ⟨y, h1, h2, h3, h4⟩ := show_l1 (chars N n) neg (val x) x.length k x 0 hx (Nat.le_refl _) hD (by omega) (by omega) (by rw [chars_len]; omega) (by rw [nil0, List.take_length]; omega) (by omega)
    rw [nil0, decide_eq_false (by omega)] at h1
    rw [h1]
    have e2 : (48 + val x % 10) = ((48 + N / 10 ^ n % 10 : Nat) : Int) := by rw [hv]; generalize N / 10 ^ n = M; omega
    have e3 : val y = ((N / 10 ^ (n + 1) : Nat) : Int) := by rw [h4, hv, ← div_pow_succ]; generalize N / 10 ^ n = M; omega
    have e4 : decide (0 < val y) = decide (n + 1 < dlen N) := by
      rw [decide_eq_decide, e3]
      obtain ⟨d1, d2, d3⟩ := dlen_ok N
      constructor
      · intro h
        rcases Nat.lt_or_ge (n + 1) (dlen N) with h5 | h5
        · exact h5
        · have : n + 1 = dlen N := by omega
          rw [this, d2] at h
          omega
      · intro h
        have := d3 (n + 1) h (by omega)
        generalize N / 10 ^ (n + 1) = M at this ⊢
        omega
    rw [e2, e4]
    exact ih (n + 1) _ y (by omega) (by omega) (by omega) h3 hl e3 (by omega)
theorem dlen_le {N : Nat} (h : N < 10 ^ 39) : dlen N ≤ 39 := by
  obtain ⟨d1, d2, d3⟩ := dlen_ok N
  rcases Nat.lt_or_ge 39 (dlen N) with h1 | h1
  · exact absurd (Nat.div_eq_of_lt h) (d3 39 h1 (by omega))
  · exact h1
/-- The text of a number. -/
def txt (n : Int) : ByteArray := strOfNums (if n < 0 then 45 :: chars n.natAbs (dlen n.natAbs) else chars n.natAbs (dlen n.natAbs))
theorem rshow_f {l : List Int} (hl : l.length = 16) (hD : Dg l) {k : Nat} (hk : 60000 ≤ k) : zelligeref01_Show.f k l = some (txt (sv l)) := by
  have z := val_nonneg hD
  have b := val_lt hD
  have hP : P l.length = 340282366920938463463374607431768211456 := by rw [hl, P16]
  have big : ∀ N : Nat, N ≤ 170141183460469231731687303715884105728 → dlen N ≤ 39 := fun N h => dlen_le (by have e : (10 : Nat) ^ 39 = 1000000000000000000000000000000000000000 := rfl; omega)
  obtain ⟨k, rfl⟩ : ∃ m, k = m + 1 := ⟨k - 1, by omega⟩
  unfold zelligeref01_Show.f txt sv
  rw [Option.bind_some, if_pos (by rw [List.length_nil]; omega), Option.bind_some, List.nil_append, rbelow_f hD (by omega) (by omega), Option.bind_some, hP]
  have fin : ∀ (neg : Bool) (x : List Int) (N : Nat), x.length = 16 → Dg x → val x = (N : Int) → N ≤ 170141183460469231731687303715884105728 → zelligeref01_Show.j0 (k + 1) x (⟨#[]⟩ : ByteArray) neg = some (strOfNums (if neg = true then 45 :: chars N (dlen N) else chars N (dlen N))) := by
    intro neg x N h1 h2 h3 h4
    have h5 := big N h4
    obtain ⟨d1, _, _⟩ := dlen_ok N
    have := show_l0 neg N (dlen N) 0 k x (by omega) (by omega) (by omega) h2 (by omega) (by rw [h3, Nat.pow_zero, Nat.div_one]) (by omega)
    rw [decide_eq_true (by omega)] at this
    rw [zelligeref01_Show.j0]
    exact this
  by_cases h : 340282366920938463463374607431768211456 ≤ 2 * val l
  · obtain ⟨r, r1, r2, r3, r4⟩ := neg_f hD (by omega) (by omega) (k := k + 1) (by omega)
    rw [decide_eq_true h, if_pos rfl, r1, Option.bind_some, if_neg (c := 2 * val l < _) (by omega), if_pos (by omega)]
    have := fin true r (val l - 340282366920938463463374607431768211456).natAbs (by omega) r3 (by rw [r4, hP]; omega) (by omega)
    rw [if_pos rfl] at this
    exact this
  · rw [decide_eq_false h, if_neg (by decide), if_pos (c := 2 * val l < _) (by omega), if_neg (by omega)]
    have := fin false l (val l).natAbs (by omega) hD (by omega) (by omega)
    rw [if_neg (by decide)] at this
    exact this
theorem wshow_f {h x : Int} (ok : WOk h x) : wide_show.f h x = some (txt (wv h x)) := by
  unfold wide_show.f txt
  rw [if_pos ok]
  obtain ⟨h1, h2⟩ := ok
  by_cases k : h < 0
  · rw [if_pos k, if_pos (by unfold wv; omega)]
  · rw [if_neg k, if_neg (by unfold wv; omega)]
end Go.Proofs.Ytbccokfdkieakaa.D8
end

section
namespace Go.Proofs.Ytbccokfdkieakaa.F
open Go.RowKit Go.Proofs.YtbccokfdkieakaaW.PrintWords Go.Proofs.YtbccokfdkieakaaW.PrintLast Go.Proofs.YtbccokfdkieakaaW.PrintMore
attribute [local go_sem] max2_int min2_int max_two min_two max_three min_three max_four min_four   -- for this text's walks alone
set_option linter.unusedVariables false
set_option linter.unusedSimpArgs false

/-! ### stringslite_HasPrefix: function 44 -/
def stringslite_HasPrefix.f (a0 : ByteArray) (a1 : ByteArray) : Option (Bool) := if (a0.size : Int) ≥ (a1.size : Int) then (if 0 ≤ (a1.size : Int) then (if (a1.size : Int) ≤ (a0.size : Int) then (some ((a0.extract 0 ((a1.size : Int) : Int).toNat).toList == a1.toList)) else (none)) else (none)) else (some false)
set_option maxHeartbeats 8000000 in
set_option maxRecDepth 100000 in
theorem stringslite_HasPrefix.calls (a0 : ByteArray) (a1 : ByteArray) (r : Bool) (w : World) (h : stringslite_HasPrefix.f a0 a1 = some r) :
    Calls Try.prog 44 #[.string a0, .string a1] w fun e w' => e = .returned (.bool r) ∧ Drawn0 w w' := by
  have H : (if (a0.size : Int) ≥ (a1.size : Int) then (if 0 ≤ (a1.size : Int) then (if (a1.size : Int) ≤ (a0.size : Int) then (some ((a0.extract 0 ((a1.size : Int) : Int).toNat).toList == a1.toList)) else (none)) else (none)) else (some false)) = some r := h
  clear h
  by_cases c3 : (a0.size : Int) ≥ (a1.size : Int)
  · rw [if_pos c3] at H
    have c3b0 : decide ((a1.size : Int) ≤ (a0.size : Int)) = true := decide_eq_true c3
    have c3b1 : decide (a1.size ≤ a0.size) = true := decide_eq_true (Int.ofNat_le.mp c3)
    clear c3
    by_cases c4 : 0 ≤ (a1.size : Int)
    · rw [if_pos c4] at H
      have c4b0 := eq_true c4
      have c4b1 : decide (0 ≤ (a1.size : Int)) = true := decide_eq_true c4
      clear c4
      by_cases c5 : (a1.size : Int) ≤ (a0.size : Int)
      · rw [if_pos c5] at H
        have c5b0 := eq_true c5
        have c5b1 : decide ((a1.size : Int) ≤ (a0.size : Int)) = true := decide_eq_true c5
        clear c5
        obtain rfl := Option.some.inj H
        go_enter Try.func44, Try.ntmps44
        go_wp2
        go_ret
        exact ⟨by first | rfl | (simp; done) | (simp [*]; done), by repeat (first | exact Drawn0.refl _ | apply Drawn0.step)⟩
      · rw [if_neg c5] at H
        exact absurd H (by simp)
    · rw [if_neg c4] at H
      exact absurd H (by simp)
  · rw [if_neg c3] at H
    have c3b0 : decide ((a1.size : Int) ≤ (a0.size : Int)) = false := decide_eq_false c3
    have c3b1 : decide (a1.size ≤ a0.size) = false := decide_eq_false (fun h => c3 (Int.ofNat_le.mpr h))
    clear c3
    obtain rfl := Option.some.inj H
    go_enter Try.func44, Try.ntmps44
    go_wp2
    go_ret
    exact ⟨by first | rfl | (simp; done) | (simp [*]; done), by repeat (first | exact Drawn0.refl _ | apply Drawn0.step)⟩

end Go.Proofs.Ytbccokfdkieakaa.F
end

section
namespace Go.Proofs.Ytbccokfdkieakaa.F
open Go.RowKit Go.Proofs.YtbccokfdkieakaaW.PrintWords Go.Proofs.YtbccokfdkieakaaW.PrintLast Go.Proofs.YtbccokfdkieakaaW.PrintMore
attribute [local go_sem] max2_int min2_int max_two min_two max_three min_three max_four min_four   -- for this text's walks alone
set_option linter.unusedVariables false
set_option linter.unusedSimpArgs false

/-! ### stringslite_TrimPrefix: function 42 -/
def stringslite_TrimPrefix.f (a0 : ByteArray) (a1 : ByteArray) : Option (ByteArray) := (stringslite_HasPrefix.f a0 a1).bind fun t329 => (if t329 = true then (if 0 ≤ (a1.size : Int) then (if (a1.size : Int) ≤ (a0.size : Int) then (some (a0.extract ((a1.size : Int) : Int).toNat a0.size)) else (none)) else (none)) else (some a0))
set_option maxHeartbeats 8000000 in
set_option maxRecDepth 100000 in
theorem stringslite_TrimPrefix.calls (a0 : ByteArray) (a1 : ByteArray) (r : ByteArray) (w : World) (h : stringslite_TrimPrefix.f a0 a1 = some r) :
    Calls Try.prog 42 #[.string a0, .string a1] w fun e w' => e = .returned (.string r) ∧ Drawn0 w w' := by
  have H : ((stringslite_HasPrefix.f a0 a1).bind fun t329 => (if t329 = true then (if 0 ≤ (a1.size : Int) then (if (a1.size : Int) ≤ (a0.size : Int) then (some (a0.extract ((a1.size : Int) : Int).toNat a0.size)) else (none)) else (none)) else (some a0))) = some r := h
  clear h
  replace H := Option.bind_eq_some_iff.mp H
  obtain ⟨t329, A30, H⟩ := H
  replace H : (if t329 = true then (if 0 ≤ (a1.size : Int) then (if (a1.size : Int) ≤ (a0.size : Int) then (some (a0.extract ((a1.size : Int) : Int).toNat a0.size)) else (none)) else (none)) else (some a0)) = some r := H
  have A3 := Aside0.mk A30
  clear A30
  by_cases c4 : t329 = true
  · subst c4
    have H1 : (if 0 ≤ (a1.size : Int) then (if (a1.size : Int) ≤ (a0.size : Int) then (some (a0.extract ((a1.size : Int) : Int).toNat a0.size)) else (none)) else (none)) = some r := by rw [if_pos rfl] at H; exact H
    clear H
    have H := H1
    clear H1
    by_cases c5 : 0 ≤ (a1.size : Int)
    · rw [if_pos c5] at H
      have c5b0 := eq_true c5
      have c5b1 : decide (0 ≤ (a1.size : Int)) = true := decide_eq_true c5
      clear c5
      by_cases c6 : (a1.size : Int) ≤ (a0.size : Int)
      · rw [if_pos c6] at H
        have c6b0 := eq_true c6
        have c6b1 : decide ((a1.size : Int) ≤ (a0.size : Int)) = true := decide_eq_true c6
        clear c6
        obtain rfl := Option.some.inj H
        go_enter Try.func42, Try.ntmps42
        go_wp2_with (first | ((with_reducible refine gate_callee (f := 44) rfl ?_); refine goesL_ (some 7) rfl rfl Try.func44 (by kernel_rfl) rfl #[.string a0, .string a1] rfl (by (try simp only [List.map_toArray, List.map_cons, List.map_nil]); first | done | rfl | (simp only [List.length_drop, List.length_take]; rfl)) ?_; (with_reducible refine (stringslite_HasPrefix.calls a0 a1 true _ A3.out).mono ?_); rintro e w' ⟨rfl, ⟨nd, rfl⟩⟩; refine ⟨_, rfl, ?_⟩))
        go_ret
        exact ⟨by first | rfl | (simp; done) | (simp [*]; done), by repeat (first | exact Drawn0.refl _ | apply Drawn0.step)⟩
      · rw [if_neg c6] at H
        exact absurd H (by simp)
    · rw [if_neg c5] at H
      exact absurd H (by simp)
  · replace c4 := Bool.eq_false_iff.mpr c4
    subst c4
    have H1 : (some a0) = some r := by rw [if_neg (show ¬ (false = true) by decide)] at H; exact H
    clear H
    have H := H1
    clear H1
    obtain rfl := Option.some.inj H
    go_enter Try.func42, Try.ntmps42
    go_wp2_with (first | ((with_reducible refine gate_callee (f := 44) rfl ?_); refine goesL_ (some 7) rfl rfl Try.func44 (by kernel_rfl) rfl #[.string a0, .string a1] rfl (by (try simp only [List.map_toArray, List.map_cons, List.map_nil]); first | done | rfl | (simp only [List.length_drop, List.length_take]; rfl)) ?_; (with_reducible refine (stringslite_HasPrefix.calls a0 a1 false _ A3.out).mono ?_); rintro e w' ⟨rfl, ⟨nd, rfl⟩⟩; refine ⟨_, rfl, ?_⟩))
    go_ret
    exact ⟨by first | rfl | (simp; done) | (simp [*]; done), by repeat (first | exact Drawn0.refl _ | apply Drawn0.step)⟩

end Go.Proofs.Ytbccokfdkieakaa.F
end

section
namespace Go.Proofs.Ytbccokfdkieakaa.F
open Go.RowKit Go.Proofs.YtbccokfdkieakaaW.PrintWords Go.Proofs.YtbccokfdkieakaaW.PrintLast Go.Proofs.YtbccokfdkieakaaW.PrintMore
attribute [local go_sem] max2_int min2_int max_two min_two max_three min_three max_four min_four   -- for this text's walks alone
set_option linter.unusedVariables false
set_option linter.unusedSimpArgs false

/-! ### strings_TrimPrefix: function 37 -/
def strings_TrimPrefix.f (a0 : ByteArray) (a1 : ByteArray) : Option (ByteArray) := (stringslite_TrimPrefix.f a0 a1).bind fun t330 => (some t330)
set_option maxHeartbeats 8000000 in
set_option maxRecDepth 100000 in
theorem strings_TrimPrefix.calls (a0 : ByteArray) (a1 : ByteArray) (r : ByteArray) (w : World) (h : strings_TrimPrefix.f a0 a1 = some r) :
    Calls Try.prog 37 #[.string a0, .string a1] w fun e w' => e = .returned (.string r) ∧ Drawn0 w w' := by
  have H : ((stringslite_TrimPrefix.f a0 a1).bind fun t330 => (some t330)) = some r := h
  clear h
  replace H := Option.bind_eq_some_iff.mp H
  obtain ⟨t330, A30, H⟩ := H
  replace H : (some t330) = some r := H
  have A3 := Aside0.mk A30
  clear A30
  obtain rfl := Option.some.inj H
  go_enter Try.func37, Try.ntmps37
  go_wp2_with (first | ((with_reducible refine gate_callee (f := 42) rfl ?_); refine goesL_ (some 7) rfl rfl Try.func42 (by kernel_rfl) rfl #[.string a0, .string a1] rfl (by (try simp only [List.map_toArray, List.map_cons, List.map_nil]); first | done | rfl | (simp only [List.length_drop, List.length_take]; rfl)) ?_; (with_reducible refine (stringslite_TrimPrefix.calls a0 a1 t330 _ A3.out).mono ?_); rintro e w' ⟨rfl, ⟨nd, rfl⟩⟩; refine ⟨_, rfl, ?_⟩))
  go_ret
  exact ⟨by first | rfl | (simp; done) | (simp [*]; done), by repeat (first | exact Drawn0.refl _ | apply Drawn0.step)⟩

end Go.Proofs.Ytbccokfdkieakaa.F
end

section
namespace Go.Proofs.Ytbccokfdkieakaa.F
open Go.RowKit Go.Proofs.YtbccokfdkieakaaW.PrintWords Go.Proofs.YtbccokfdkieakaaW.PrintLast Go.Proofs.YtbccokfdkieakaaW.PrintMore
attribute [local go_sem] max2_int min2_int max_two min_two max_three min_three max_four min_four   -- for this text's walks alone
set_option linter.unusedVariables false
set_option linter.unusedSimpArgs false

/-! ### wide_times10: function 38 -/
def wide_times10.f (a0_0 : Int) (a0_1 : Int) (a1 : Int) : Option (Int × Int) := (wide_add.f a0_0 a0_1 a0_0 a0_1).bind fun bt333 => ((wide_add.f bt333.1 bt333.2 bt333.1 bt333.2).bind fun bt336 => ((wide_add.f bt333.1 bt333.2 bt333.1 bt333.2).bind fun bt338 => ((wide_add.f bt336.1 bt336.2 bt338.1 bt338.2).bind fun bt340 => ((wide_add.f bt340.1 bt340.2 bt333.1 bt333.2).bind fun bt343 => ((wide_add.f bt343.1 bt343.2 0 (IntKind.u64.wrap (a1))).bind fun bt345 => (some (bt345.1, bt345.2)))))))
def wide_times10.T2 : Bool × List (List Nat × List Nat) := (true, [([], []), ([], []), ([0, 1], [0, 1]), ([], []), ([], []), ([3, 4, 2], [3, 4]), ([2, 5, 5], [2, 5]), ([], []), ([7, 6, 6, 0, 1, 2, 3, 4, 5, 6, 7], [6, 7])])
def wide_times10.B2 : List Nat := [0, 0, 3, 0, 0, 31, 63, 0, 255]
theorem wide_times10.tab2 : rtab .any (opsOf Try.f38 2) = wide_times10.T2 := by kernel_rfl
theorem wide_times10.bits2 : waitsOk wide_times10.T2.2 wide_times10.B2 = true := by kernel_rfl
set_option maxHeartbeats 8000000 in
set_option maxRecDepth 100000 in
theorem wide_times10.calls (a0_0 : Int) (a0_1 : Int) (a1 : Int) (r1 : Int) (r2 : Int) (w : World) (h : wide_times10.f a0_0 a0_1 a1 = some (r1, r2)) :
    Calls Try.prog 38 #[.agg #[.int .i64 a0_0, .int .u64 a0_1], .int .u8 a1] w fun e w' => e = .returned (.agg #[.int .i64 r1, .int .u64 r2]) ∧ Below w.heap.size w w' := by
  have hu24 := Try.underlying24
  have HB := Aside0.mk (Below.refl w.heap.size w)
  have H : ((wide_add.f a0_0 a0_1 a0_0 a0_1).bind fun bt333 => ((wide_add.f bt333.1 bt333.2 bt333.1 bt333.2).bind fun bt336 => ((wide_add.f bt333.1 bt333.2 bt333.1 bt333.2).bind fun bt338 => ((wide_add.f bt336.1 bt336.2 bt338.1 bt338.2).bind fun bt340 => ((wide_add.f bt340.1 bt340.2 bt333.1 bt333.2).bind fun bt343 => ((wide_add.f bt343.1 bt343.2 0 (IntKind.u64.wrap (a1))).bind fun bt345 => (some (bt345.1, bt345.2)))))))) = some (r1, r2) := h
  clear h
  replace H := Option.bind_eq_some_iff.mp H
  obtain ⟨⟨t333, t334⟩, A30, H⟩ := H
  replace H : ((wide_add.f t333 t334 t333 t334).bind fun bt336 => ((wide_add.f t333 t334 t333 t334).bind fun bt338 => ((wide_add.f bt336.1 bt336.2 bt338.1 bt338.2).bind fun bt340 => ((wide_add.f bt340.1 bt340.2 t333 t334).bind fun bt343 => ((wide_add.f bt343.1 bt343.2 0 (IntKind.u64.wrap (a1))).bind fun bt345 => (some (bt345.1, bt345.2))))))) = some (r1, r2) := H
  have A3 := Aside0.mk A30
  clear A30
  replace H := Option.bind_eq_some_iff.mp H
  obtain ⟨⟨t336, t337⟩, A40, H⟩ := H
  replace H : ((wide_add.f t333 t334 t333 t334).bind fun bt338 => ((wide_add.f t336 t337 bt338.1 bt338.2).bind fun bt340 => ((wide_add.f bt340.1 bt340.2 t333 t334).bind fun bt343 => ((wide_add.f bt343.1 bt343.2 0 (IntKind.u64.wrap (a1))).bind fun bt345 => (some (bt345.1, bt345.2)))))) = some (r1, r2) := H
  have A4 := Aside0.mk A40
  clear A40
  replace H := Option.bind_eq_some_iff.mp H
  obtain ⟨⟨t338, t339⟩, A50, H⟩ := H
  replace H : ((wide_add.f t336 t337 t338 t339).bind fun bt340 => ((wide_add.f bt340.1 bt340.2 t333 t334).bind fun bt343 => ((wide_add.f bt343.1 bt343.2 0 (IntKind.u64.wrap (a1))).bind fun bt345 => (some (bt345.1, bt345.2))))) = some (r1, r2) := H
  have A5 := Aside0.mk A50
  clear A50
  replace H := Option.bind_eq_some_iff.mp H
  obtain ⟨⟨t340, t341⟩, A60, H⟩ := H
  replace H : ((wide_add.f t340 t341 t333 t334).bind fun bt343 => ((wide_add.f bt343.1 bt343.2 0 (IntKind.u64.wrap (a1))).bind fun bt345 => (some (bt345.1, bt345.2)))) = some (r1, r2) := H
  have A6 := Aside0.mk A60
  clear A60
  replace H := Option.bind_eq_some_iff.mp H
  obtain ⟨⟨t343, t344⟩, A70, H⟩ := H
  replace H : ((wide_add.f t343 t344 0 (IntKind.u64.wrap (a1))).bind fun bt345 => (some (bt345.1, bt345.2))) = some (r1, r2) := H
  have A7 := Aside0.mk A70
  clear A70
  replace H := Option.bind_eq_some_iff.mp H
  obtain ⟨⟨t345, t346⟩, A80, H⟩ := H
  replace H : (some (t345, t346)) = some (r1, r2) := H
  have A8 := Aside0.mk A80
  clear A80
  simp only [Option.some.injEq, Prod.mk.injEq] at H
  obtain ⟨rfl, rfl⟩ := H
  go_enter Try.func38, Try.ntmps38
  try go_wp2_with (first | ((with_reducible refine gate_dst (N := 2) rfl ?_); refine box_event ?hg (N := 2) ?hd (cs := #[.int .i64 a0_0, .int .u64 a0_1]) (t := 24) ?hr ?_; (case hd => rfl); (case hg => rfl); (case hr => first | (go_simp; done) | (go_simp; rfl)); intro gb331 hg w9 hbox hb; have n0_ := Aside0.mk (below_step (by repeat (first | (with_reducible first | exact HB.out | apply below_alloc | apply pw_below_drewN | apply below_drew1) | exact HB.out)) hb); have n1_ := Aside0.mk (hbox); have n2_ := Aside0.mk ((by rw [hg]; exact (below_size (by repeat (first | (with_reducible first | exact HB.out | apply below_alloc | apply pw_below_drewN | apply below_drew1) | exact HB.out))) : w.heap.size ≤ gb331)); have n3_ := Aside0.mk ((by rw [hg]; exact (below_size (by repeat (first | (with_reducible first | exact HB.out | apply below_alloc | apply pw_below_drewN | apply below_drew1) | exact HB.out))) : w.heap.size ≤ gb331)); clear HB; have HB := n0_; have BK331 := n1_; have GW331 := n2_; have GE331 := n3_; clear n0_ n1_ n2_ n3_; clear hb hbox hg) | ((with_reducible refine gate_dst (N := 4) rfl ?_); refine box_event ?hg (N := 4) ?hd (cs := #[.int .i64 0, .int .u64 0]) (t := 24) ?hr ?_; (case hd => rfl); (case hg => rfl); (case hr => first | (go_simp; done) | (go_simp; rfl)); intro gb332 hg w10 hbox hb; have n0_ := Aside0.mk (blk_below (g := gb331) (o := .cells #[.int .i64 a0_0, .int .u64 a0_1] 24 (0, 0)) (by (with_reducible repeat (first | refine blk_drewN ?_ _ | refine blk_drew ?_ | refine blk_alloc ?_ _)); exact BK331.out) hb); have n1_ := Aside0.mk (below_step (by repeat (first | (with_reducible first | exact HB.out | apply below_alloc | apply pw_below_drewN | apply below_drew1 | refine below_set ?_ GE331.out) | exact HB.out)) hb); have n2_ := Aside0.mk (hbox); have n3_ := Aside0.mk ((by rw [hg]; exact (below_size (by repeat (first | (with_reducible first | exact HB.out | apply below_alloc | apply pw_below_drewN | apply below_drew1 | refine below_set ?_ GE331.out) | exact HB.out))) : w.heap.size ≤ gb332)); have n4_ := Aside0.mk ((by rw [hg]; exact (below_size (by repeat (first | (with_reducible first | exact HB.out | apply below_alloc | apply pw_below_drewN | apply below_drew1 | refine below_set ?_ GE331.out) | exact HB.out))) : w.heap.size ≤ gb332)); have n5_ := Aside0.mk ((by rw [hg]; exact Nat.ne_of_lt (blk_lt (g := gb331) (o := .cells #[.int .i64 a0_0, .int .u64 a0_1] 24 (0, 0)) (by (with_reducible repeat (first | refine blk_drewN ?_ _ | refine blk_drew ?_ | refine blk_alloc ?_ _)); exact BK331.out)) : gb331 ≠ gb332)); have n6_ := Aside0.mk ((by rw [hg]; exact Nat.ne_of_gt (blk_lt (g := gb331) (o := .cells #[.int .i64 a0_0, .int .u64 a0_1] 24 (0, 0)) (by (with_reducible repeat (first | refine blk_drewN ?_ _ | refine blk_drew ?_ | refine blk_alloc ?_ _)); exact BK331.out)) : gb332 ≠ gb331)); clear BK331; clear HB; have BK331 := n0_; have HB := n1_; have BK332 := n2_; have GW332 := n3_; have GE332 := n4_; have NB331_332 := n5_; have NB332_331 := n6_; clear n0_ n1_ n2_ n3_ n4_ n5_ n6_; clear hb hbox hg; have hnb11 := NB331_332.out; have hnc11 := NB332_331.out; have hcz12_0 : w10.cell? ⟨gb331, 0, none⟩ = some (.int .i64 a0_0) := (blk_cell BK331.out 0).trans rfl; have hcz12_1 : w10.cell? ⟨gb331, 1, none⟩ = some (.int .u64 a0_1) := (blk_cell BK331.out 1).trans rfl; have hfz12_0 := blk_frozen BK331.out 0; have hfz12_1 := blk_frozen BK331.out 1) | ((with_reducible refine gate_callee (f := 32) rfl ?_); refine goesL_ (some 9) rfl rfl Try.func32 (by kernel_rfl) rfl #[.agg #[.int .i64 a0_0, .int .u64 a0_1], .agg #[.int .i64 a0_0, .int .u64 a0_1]] rfl (by (try simp only [List.map_toArray, List.map_cons, List.map_nil]); first | done | rfl | (simp only [List.length_drop, List.length_take]; rfl)) ?_; (with_reducible refine (wide_add.calls a0_0 a0_1 a0_0 a0_1 t333 t334 _ A3.out).mono ?_); rintro e w13 ⟨rfl, hb⟩; refine ⟨_, rfl, ?_⟩; have n0_ := Aside0.mk (blk_below (g := gb331) (o := .cells #[.int .i64 a0_0, .int .u64 a0_1] 24 (0, 0)) (by (with_reducible repeat (first | refine blk_drewN ?_ _ | refine blk_drew ?_ | refine blk_alloc ?_ _)); exact BK331.out) hb); have n1_ := Aside0.mk (blk_below (g := gb332) (o := .cells #[.int .i64 0, .int .u64 0] 24 (0, 0)) (by (with_reducible repeat (first | refine blk_drewN ?_ _ | refine blk_drew ?_ | refine blk_alloc ?_ _)); exact BK332.out) hb); have n2_ := Aside0.mk (below_step (by repeat (first | (with_reducible first | exact HB.out | apply below_alloc | apply pw_below_drewN | apply below_drew1 | refine below_set ?_ GE331.out | refine below_set ?_ GE332.out) | exact HB.out)) hb); clear BK331; clear BK332; clear HB; have BK331 := n0_; have BK332 := n1_; have HB := n2_; clear n0_ n1_ n2_; (try clear hb); (try clear hb2); (try clear hk); (try clear hi)) | ((with_reducible refine gate_dst (N := 5) rfl ?_); refine box_event ?hg (N := 5) ?hd (cs := #[.int .i64 0, .int .u64 0]) (t := 24) ?hr ?_; (case hd => rfl); (case hg => rfl); (case hr => first | (go_simp; done) | (go_simp; rfl)); intro gb335 hg w14 hbox hb; have n0_ := Aside0.mk (blk_below (g := gb331) (o := .cells #[.int .i64 a0_0, .int .u64 a0_1] 24 (0, 0)) (by (with_reducible repeat (first | refine blk_drewN ?_ _ | refine blk_drew ?_ | refine blk_alloc ?_ _)); exact BK331.out) hb); have n1_ := Aside0.mk (blk_below (g := gb332) (o := .cells #[.int .i64 0, .int .u64 0] 24 (0, 0)) (by (with_reducible repeat (first | refine blk_drewN ?_ _ | refine blk_drew ?_ | refine blk_alloc ?_ _)); exact BK332.out) hb); have n2_ := Aside0.mk (below_step (by repeat (first | (with_reducible first | exact HB.out | apply below_alloc | apply pw_below_drewN | apply below_drew1 | refine below_set ?_ GE331.out | refine below_set ?_ GE332.out) | exact HB.out)) hb); have n3_ := Aside0.mk (hbox); have n4_ := Aside0.mk ((by rw [hg]; exact (below_size (by repeat (first | (with_reducible first | exact HB.out | apply below_alloc | apply pw_below_drewN | apply below_drew1 | refine below_set ?_ GE331.out | refine below_set ?_ GE332.out) | exact HB.out))) : w.heap.size ≤ gb335)); have n5_ := Aside0.mk ((by rw [hg]; exact (below_size (by repeat (first | (with_reducible first | exact HB.out | apply below_alloc | apply pw_below_drewN | apply below_drew1 | refine below_set ?_ GE331.out | refine below_set ?_ GE332.out) | exact HB.out))) : w.heap.size ≤ gb335)); have n6_ := Aside0.mk ((by rw [hg]; exact Nat.ne_of_lt (blk_lt (g := gb331) (o := .cells #[.int .i64 a0_0, .int .u64 a0_1] 24 (0, 0)) (by (with_reducible repeat (first | refine blk_drewN ?_ _ | refine blk_drew ?_ | refine blk_alloc ?_ _)); exact BK331.out)) : gb331 ≠ gb335)); have n7_ := Aside0.mk ((by rw [hg]; exact Nat.ne_of_gt (blk_lt (g := gb331) (o := .cells #[.int .i64 a0_0, .int .u64 a0_1] 24 (0, 0)) (by (with_reducible repeat (first | refine blk_drewN ?_ _ | refine blk_drew ?_ | refine blk_alloc ?_ _)); exact BK331.out)) : gb335 ≠ gb331)); have n8_ := Aside0.mk ((by rw [hg]; exact Nat.ne_of_lt (blk_lt (g := gb332) (o := .cells #[.int .i64 0, .int .u64 0] 24 (0, 0)) (by (with_reducible repeat (first | refine blk_drewN ?_ _ | refine blk_drew ?_ | refine blk_alloc ?_ _)); exact BK332.out)) : gb332 ≠ gb335)); have n9_ := Aside0.mk ((by rw [hg]; exact Nat.ne_of_gt (blk_lt (g := gb332) (o := .cells #[.int .i64 0, .int .u64 0] 24 (0, 0)) (by (with_reducible repeat (first | refine blk_drewN ?_ _ | refine blk_drew ?_ | refine blk_alloc ?_ _)); exact BK332.out)) : gb335 ≠ gb332)); clear BK331; clear BK332; clear HB; have BK331 := n0_; have BK332 := n1_; have HB := n2_; have BK335 := n3_; have GW335 := n4_; have GE335 := n5_; have NB331_335 := n6_; have NB335_331 := n7_; have NB332_335 := n8_; have NB335_332 := n9_; clear n0_ n1_ n2_ n3_ n4_ n5_ n6_ n7_ n8_ n9_; clear hb hbox hg; have hnb15 := NB335_331.out; have hnc15 := NB331_335.out; have hnb16 := NB335_332.out; have hnc16 := NB332_335.out; have hcz17_0 : w14.cell? ⟨gb335, 0, none⟩ = some (.int .i64 0) := (blk_cell BK335.out 0).trans rfl; have hcz17_1 : w14.cell? ⟨gb335, 1, none⟩ = some (.int .u64 0) := (blk_cell BK335.out 1).trans rfl; have hfz17_0 := blk_frozen BK335.out 0; have hfz17_1 := blk_frozen BK335.out 1))
  have n0_ : Aside0 (((w14.setCell ⟨gb335, 0, none⟩ (.int .i64 t333)).setCell ⟨gb335, 1, none⟩ (.int .u64 t334)).heap[gb331]? = some (.cells #[.int .i64 a0_0, .int .u64 a0_1] 24 (0, 0))) := ⟨by (with_reducible repeat (first | refine blk_drewN ?_ _ | refine blk_drew ?_ | refine blk_alloc ?_ _)); refine blk_far ?_ NB331_335.out _; (with_reducible repeat (first | refine blk_drewN ?_ _ | refine blk_drew ?_ | refine blk_alloc ?_ _)); refine blk_far ?_ NB331_335.out _; (with_reducible repeat (first | refine blk_drewN ?_ _ | refine blk_drew ?_ | refine blk_alloc ?_ _)); exact BK331.out⟩
  have n1_ : Aside0 (((w14.setCell ⟨gb335, 0, none⟩ (.int .i64 t333)).setCell ⟨gb335, 1, none⟩ (.int .u64 t334)).heap[gb332]? = some (.cells #[.int .i64 0, .int .u64 0] 24 (0, 0))) := ⟨by (with_reducible repeat (first | refine blk_drewN ?_ _ | refine blk_drew ?_ | refine blk_alloc ?_ _)); refine blk_far ?_ NB332_335.out _; (with_reducible repeat (first | refine blk_drewN ?_ _ | refine blk_drew ?_ | refine blk_alloc ?_ _)); refine blk_far ?_ NB332_335.out _; (with_reducible repeat (first | refine blk_drewN ?_ _ | refine blk_drew ?_ | refine blk_alloc ?_ _)); exact BK332.out⟩
  have n2_ : Aside0 (((w14.setCell ⟨gb335, 0, none⟩ (.int .i64 t333)).setCell ⟨gb335, 1, none⟩ (.int .u64 t334)).heap[gb335]? = some (.cells #[.int .i64 t333, .int .u64 t334] 24 (0, 0))) := ⟨by (with_reducible repeat (first | refine blk_drewN ?_ _ | refine blk_drew ?_ | refine blk_alloc ?_ _)); refine blk_put (cs := #[.int .i64 t333, .int .u64 0]) ?_ 1 _ rfl; (with_reducible repeat (first | refine blk_drewN ?_ _ | refine blk_drew ?_ | refine blk_alloc ?_ _)); refine blk_put (cs := #[.int .i64 0, .int .u64 0]) ?_ 0 _ rfl; (with_reducible repeat (first | refine blk_drewN ?_ _ | refine blk_drew ?_ | refine blk_alloc ?_ _)); exact BK335.out⟩
  have n3_ : Aside0 (Below w.heap.size w ((w14.setCell ⟨gb335, 0, none⟩ (.int .i64 t333)).setCell ⟨gb335, 1, none⟩ (.int .u64 t334))) := ⟨by repeat (first | (with_reducible first | exact HB.out | apply below_alloc | apply pw_below_drewN | apply below_drew1 | refine below_set ?_ GE331.out | refine below_set ?_ GE332.out | refine below_set ?_ GE335.out) | exact HB.out)⟩
  (try clear BK331)
  (try clear BK332)
  (try clear BK335)
  (try clear HB)
  generalize ((w14.setCell ⟨gb335, 0, none⟩ (.int .i64 t333)).setCell ⟨gb335, 1, none⟩ (.int .u64 t334)) = w18 at n0_ n1_ n2_ n3_ ⊢
  have BK331 := n0_
  have BK332 := n1_
  have BK335 := n2_
  have HB := n3_
  clear n0_ n1_ n2_ n3_
  have n0_ := Aside0.mk (blk_drew BK331.out)
  have n1_ := Aside0.mk (blk_drew BK332.out)
  have n2_ := Aside0.mk (blk_drew BK335.out)
  have n3_ := Aside0.mk (below_drew1 HB.out)
  clear BK331
  clear BK332
  clear BK335
  clear HB
  have BK331 := n0_
  have BK332 := n1_
  have BK335 := n2_
  have HB := n3_
  clear n0_ n1_ n2_ n3_
  refine start_ (n := 9) (S := fun w' => w'.cell? ⟨gb335, 0, none⟩ = some (.int .i64 t333) ∧ w'.cell? ⟨gb335, 1, none⟩ = some (.int .u64 t334)) (ds := []) #[false, false, false, false, false, false, false, false, false] (by kernel_rfl) rfl rfl ⟨(blk_cell BK335.out 0).trans rfl, (blk_cell BK335.out 1).trans rfl⟩ (fun hHeld => ?_); refine with_tabW wide_times10.tab2 wide_times10.bits2 (fun HT_ HW_ => ?_)
  generalize w18.drew = w19 at BK331 BK332 BK335 HB hHeld ⊢
  refine take_ (i := 0) (N := some 10) (v := ?_) (a' := ?_) #[true, false, false, false, false, false, false, false, false] rfl rfl (take_ofW HT_.out HW_.out (by kernel_rfl)) (fun _ _ _ h => h) (Or.inl ⟨by rfl, ?_⟩) hHeld ?_ ?_
  rotate_left
  · rintro w' ⟨s0, s1⟩
    go_simp
    with_reducible rfl
  rotate_left
  · simp only [Act.put, List.setIfInBounds_toArray, List.set_cons_zero, List.set_cons_succ, i64_w, i32_w]
    rfl
  refine take_ (i := 1) (N := some 11) (v := ?_) (a' := ?_) #[true, true, false, false, false, false, false, false, false] rfl rfl (take_ofW HT_.out HW_.out (by kernel_rfl)) (fun _ _ _ h => h) (Or.inl ⟨by rfl, ?_⟩) hHeld ?_ ?_
  rotate_left
  · rintro w' ⟨s0, s1⟩
    go_simp
    with_reducible rfl
  rotate_left
  · simp only [Act.put, List.setIfInBounds_toArray, List.set_cons_zero, List.set_cons_succ, i64_w, i32_w]
    rfl
  refine take_ (i := 3) (N := some 13) (v := ?_) (a' := ?_) #[true, true, false, true, false, false, false, false, false] rfl rfl (take_ofW HT_.out HW_.out (by kernel_rfl)) (fun _ _ _ h => h) (Or.inl ⟨by rfl, ?_⟩) hHeld ?_ ?_
  rotate_left
  · rintro w' ⟨s0, s1⟩
    go_simp
    with_reducible rfl
  rotate_left
  · simp only [Act.put, List.setIfInBounds_toArray, List.set_cons_zero, List.set_cons_succ, i64_w, i32_w]
    rfl
  refine take_ (i := 4) (N := some 14) (v := ?_) (a' := ?_) #[true, true, false, true, true, false, false, false, false] rfl rfl (take_ofW HT_.out HW_.out (by kernel_rfl)) (fun _ _ _ h => h) (Or.inl ⟨by rfl, ?_⟩) hHeld ?_ ?_
  rotate_left
  · rintro w' ⟨s0, s1⟩
    go_simp
    with_reducible rfl
  rotate_left
  · simp only [Act.put, List.setIfInBounds_toArray, List.set_cons_zero, List.set_cons_succ, i64_w, i32_w]
    rfl
  refine join_ (σ := Nat) 1 #[true, true, true, true, true, true, true, true, false] (fun s_ => [(12, .agg #[.int .i64 t336, .int .u64 t337]), (15, .agg #[.int .i64 t338, .int .u64 t339]), (16, .agg #[.int .i64 t340, .int .u64 t341]), (6, .pointer (some ⟨s_, 0, none⟩))]) (fun s_ w' => (w'.cell? ⟨gb335, 0, none⟩ = some (.int .i64 t333) ∧ w'.cell? ⟨gb335, 1, none⟩ = some (.int .u64 t334)) ∧ (w'.heap[gb331]? = some (.cells #[.int .i64 a0_0, .int .u64 a0_1] 24 (0, 0))) ∧ (w'.heap[gb332]? = some (.cells #[.int .i64 0, .int .u64 0] 24 (0, 0))) ∧ (w'.heap[gb335]? = some (.cells #[.int .i64 t333, .int .u64 t334] 24 (0, 0))) ∧ (w'.heap[s_]? = some (.cells #[.int .i64 0, .int .u64 0] 24 (0, 0))) ∧ (w.heap.size ≤ s_) ∧ (w.heap.size ≤ s_) ∧ (gb331 ≠ s_) ∧ (s_ ≠ gb331) ∧ (gb332 ≠ s_) ∧ (s_ ≠ gb332) ∧ (gb335 ≠ s_) ∧ (s_ ≠ gb335) ∧ (Below w.heap.size w w')) ?_ ?_
  rotate_left
  · intro hCont
    refine two_ (i := 2) (j := 7) (Ni := some 12) (Nj := some 6) #[true, true, true, true, true, false, false, false, false] #[true, true, false, true, true, false, false, true, false] rfl rfl rfl rfl (two_of HT_.out (by kernel_rfl)) (by decide) (by decide) (fun K hK => ?_) (fun K hK => ?_)
    · skip
      refine goes_ Try.func32 (by kernel_rfl) rfl #[.agg #[.int .i64 t333, .int .u64 t334], .agg #[.int .i64 t333, .int .u64 t334]] (by rfl) rfl rfl (by (try simp only [List.map_toArray, List.map_cons, List.map_nil]); first | done | rfl | (simp only [List.length_drop, List.length_take]; rfl)) ?_
      with_reducible refine (wide_add.calls t333 t334 t333 t334 t336 t337 _ A4.out).mono ?_
      rintro e w20 ⟨rfl, hb⟩
      refine ⟨_, rfl, ?_⟩
      have n0_ := Aside0.mk (blk_below (g := gb331) (o := .cells #[.int .i64 a0_0, .int .u64 a0_1] 24 (0, 0)) (by (with_reducible repeat (first | refine blk_drewN ?_ _ | refine blk_drew ?_ | refine blk_alloc ?_ _)); exact BK331.out) hb)
      have n1_ := Aside0.mk (blk_below (g := gb332) (o := .cells #[.int .i64 0, .int .u64 0] 24 (0, 0)) (by (with_reducible repeat (first | refine blk_drewN ?_ _ | refine blk_drew ?_ | refine blk_alloc ?_ _)); exact BK332.out) hb)
      have n2_ := Aside0.mk (blk_below (g := gb335) (o := .cells #[.int .i64 t333, .int .u64 t334] 24 (0, 0)) (by (with_reducible repeat (first | refine blk_drewN ?_ _ | refine blk_drew ?_ | refine blk_alloc ?_ _)); exact BK335.out) hb)
      have n3_ := Aside0.mk (below_step (by repeat (first | (with_reducible first | exact HB.out | apply below_alloc | apply pw_below_drewN | apply below_drew1 | refine below_set ?_ GE331.out | refine below_set ?_ GE332.out | refine below_set ?_ GE335.out) | exact HB.out)) hb)
      clear BK331
      clear BK332
      clear BK335
      clear HB
      have BK331 := n0_
      have BK332 := n1_
      have BK335 := n2_
      have HB := n3_
      clear n0_ n1_ n2_ n3_
      (try clear hb)
      (try clear hb2)
      (try clear hk)
      (try clear hi)
      refine hK.out _ _ ⟨(blk_cell BK335.out 0).trans rfl, (blk_cell BK335.out 1).trans rfl⟩ (fun hHeld => ?_)
      clear hK K
      refine norm_ (a' := ?_) ?_ ?_
      rotate_left
      · show Act.put _ (some 12) _ = _
        simp only [Act.put, List.setIfInBounds_toArray, List.set_cons_zero, List.set_cons_succ, i64_w, i32_w]
        rfl
      refine two_ (i := 5) (j := 7) (Ni := some 15) (Nj := some 6) #[true, true, true, true, true, true, false, false, false] #[true, true, true, true, true, false, false, true, false] rfl rfl rfl rfl (two_of HT_.out (by kernel_rfl)) (by decide) (by decide) (fun K hK => ?_) (fun K hK => ?_)
      · skip
        refine goes_ Try.func32 (by kernel_rfl) rfl #[.agg #[.int .i64 t333, .int .u64 t334], .agg #[.int .i64 t333, .int .u64 t334]] (by rfl) rfl rfl (by (try simp only [List.map_toArray, List.map_cons, List.map_nil]); first | done | rfl | (simp only [List.length_drop, List.length_take]; rfl)) ?_
        with_reducible refine (wide_add.calls t333 t334 t333 t334 t338 t339 _ A5.out).mono ?_
        rintro e w21 ⟨rfl, hb⟩
        refine ⟨_, rfl, ?_⟩
        have n0_ := Aside0.mk (blk_below (g := gb331) (o := .cells #[.int .i64 a0_0, .int .u64 a0_1] 24 (0, 0)) (by (with_reducible repeat (first | refine blk_drewN ?_ _ | refine blk_drew ?_ | refine blk_alloc ?_ _)); exact BK331.out) hb)
        have n1_ := Aside0.mk (blk_below (g := gb332) (o := .cells #[.int .i64 0, .int .u64 0] 24 (0, 0)) (by (with_reducible repeat (first | refine blk_drewN ?_ _ | refine blk_drew ?_ | refine blk_alloc ?_ _)); exact BK332.out) hb)
        have n2_ := Aside0.mk (blk_below (g := gb335) (o := .cells #[.int .i64 t333, .int .u64 t334] 24 (0, 0)) (by (with_reducible repeat (first | refine blk_drewN ?_ _ | refine blk_drew ?_ | refine blk_alloc ?_ _)); exact BK335.out) hb)
        have n3_ := Aside0.mk (below_step (by repeat (first | (with_reducible first | exact HB.out | apply below_alloc | apply pw_below_drewN | apply below_drew1 | refine below_set ?_ GE331.out | refine below_set ?_ GE332.out | refine below_set ?_ GE335.out) | exact HB.out)) hb)
        clear BK331
        clear BK332
        clear BK335
        clear HB
        have BK331 := n0_
        have BK332 := n1_
        have BK335 := n2_
        have HB := n3_
        clear n0_ n1_ n2_ n3_
        (try clear hb)
        (try clear hb2)
        (try clear hk)
        (try clear hi)
        refine hK.out _ _ ⟨(blk_cell BK335.out 0).trans rfl, (blk_cell BK335.out 1).trans rfl⟩ (fun hHeld => ?_)
        clear hK K
        refine norm_ (a' := ?_) ?_ ?_
        rotate_left
        · show Act.put _ (some 15) _ = _
          simp only [Act.put, List.setIfInBounds_toArray, List.set_cons_zero, List.set_cons_succ, i64_w, i32_w]
          rfl
        refine two_ (i := 6) (j := 7) (Ni := some 16) (Nj := some 6) #[true, true, true, true, true, true, true, false, false] #[true, true, true, true, true, true, false, true, false] rfl rfl rfl rfl (two_of HT_.out (by kernel_rfl)) (by decide) (by decide) (fun K hK => ?_) (fun K hK => ?_)
        · skip
          refine goes_ Try.func32 (by kernel_rfl) rfl #[.agg #[.int .i64 t336, .int .u64 t337], .agg #[.int .i64 t338, .int .u64 t339]] (by rfl) rfl rfl (by (try simp only [List.map_toArray, List.map_cons, List.map_nil]); first | done | rfl | (simp only [List.length_drop, List.length_take]; rfl)) ?_
          with_reducible refine (wide_add.calls t336 t337 t338 t339 t340 t341 _ A6.out).mono ?_
          rintro e w22 ⟨rfl, hb⟩
          refine ⟨_, rfl, ?_⟩
          have n0_ := Aside0.mk (blk_below (g := gb331) (o := .cells #[.int .i64 a0_0, .int .u64 a0_1] 24 (0, 0)) (by (with_reducible repeat (first | refine blk_drewN ?_ _ | refine blk_drew ?_ | refine blk_alloc ?_ _)); exact BK331.out) hb)
          have n1_ := Aside0.mk (blk_below (g := gb332) (o := .cells #[.int .i64 0, .int .u64 0] 24 (0, 0)) (by (with_reducible repeat (first | refine blk_drewN ?_ _ | refine blk_drew ?_ | refine blk_alloc ?_ _)); exact BK332.out) hb)
          have n2_ := Aside0.mk (blk_below (g := gb335) (o := .cells #[.int .i64 t333, .int .u64 t334] 24 (0, 0)) (by (with_reducible repeat (first | refine blk_drewN ?_ _ | refine blk_drew ?_ | refine blk_alloc ?_ _)); exact BK335.out) hb)
          have n3_ := Aside0.mk (below_step (by repeat (first | (with_reducible first | exact HB.out | apply below_alloc | apply pw_below_drewN | apply below_drew1 | refine below_set ?_ GE331.out | refine below_set ?_ GE332.out | refine below_set ?_ GE335.out) | exact HB.out)) hb)
          clear BK331
          clear BK332
          clear BK335
          clear HB
          have BK331 := n0_
          have BK332 := n1_
          have BK335 := n2_
          have HB := n3_
          clear n0_ n1_ n2_ n3_
          (try clear hb)
          (try clear hb2)
          (try clear hk)
          (try clear hi)
          refine hK.out _ _ ⟨(blk_cell BK335.out 0).trans rfl, (blk_cell BK335.out 1).trans rfl⟩ (fun hHeld => ?_)
          clear hK K
          refine norm_ (a' := ?_) ?_ ?_
          rotate_left
          · show Act.put _ (some 16) _ = _
            simp only [Act.put, List.setIfInBounds_toArray, List.set_cons_zero, List.set_cons_succ, i64_w, i32_w]
            rfl
          refine one_ (i := 7) (N := some 6) #[true, true, true, true, true, true, true, true, false] rfl rfl (one_of HT_.out (by kernel_rfl)) (by decide) (fun K hK => ?_)
          refine box_step ?hg (N := 6) ?hd (cs := #[.int .i64 0, .int .u64 0]) (t := 24) ?hr ?_; (case hd => rfl); (case hg => rfl); (case hr => first | (go_simp; done) | (go_simp; rfl))
          intro gb342 hg w23 hbox hb
          have n0_ := Aside0.mk (blk_below (g := gb331) (o := .cells #[.int .i64 a0_0, .int .u64 a0_1] 24 (0, 0)) (by (with_reducible repeat (first | refine blk_drewN ?_ _ | refine blk_drew ?_ | refine blk_alloc ?_ _)); exact BK331.out) hb)
          have n1_ := Aside0.mk (blk_below (g := gb332) (o := .cells #[.int .i64 0, .int .u64 0] 24 (0, 0)) (by (with_reducible repeat (first | refine blk_drewN ?_ _ | refine blk_drew ?_ | refine blk_alloc ?_ _)); exact BK332.out) hb)
          have n2_ := Aside0.mk (blk_below (g := gb335) (o := .cells #[.int .i64 t333, .int .u64 t334] 24 (0, 0)) (by (with_reducible repeat (first | refine blk_drewN ?_ _ | refine blk_drew ?_ | refine blk_alloc ?_ _)); exact BK335.out) hb)
          have n3_ := Aside0.mk (below_step (by repeat (first | (with_reducible first | exact HB.out | apply below_alloc | apply pw_below_drewN | apply below_drew1 | refine below_set ?_ GE331.out | refine below_set ?_ GE332.out | refine below_set ?_ GE335.out) | exact HB.out)) hb)
          have n4_ := Aside0.mk (hbox)
          have n5_ := Aside0.mk ((by rw [hg]; exact (below_size (by repeat (first | (with_reducible first | exact HB.out | apply below_alloc | apply pw_below_drewN | apply below_drew1 | refine below_set ?_ GE331.out | refine below_set ?_ GE332.out | refine below_set ?_ GE335.out) | exact HB.out))) : w.heap.size ≤ gb342))
          have n6_ := Aside0.mk ((by rw [hg]; exact (below_size (by repeat (first | (with_reducible first | exact HB.out | apply below_alloc | apply pw_below_drewN | apply below_drew1 | refine below_set ?_ GE331.out | refine below_set ?_ GE332.out | refine below_set ?_ GE335.out) | exact HB.out))) : w.heap.size ≤ gb342))
          have n7_ := Aside0.mk ((by rw [hg]; exact Nat.ne_of_lt (blk_lt (g := gb331) (o := .cells #[.int .i64 a0_0, .int .u64 a0_1] 24 (0, 0)) (by (with_reducible repeat (first | refine blk_drewN ?_ _ | refine blk_drew ?_ | refine blk_alloc ?_ _)); exact BK331.out)) : gb331 ≠ gb342))
          have n8_ := Aside0.mk ((by rw [hg]; exact Nat.ne_of_gt (blk_lt (g := gb331) (o := .cells #[.int .i64 a0_0, .int .u64 a0_1] 24 (0, 0)) (by (with_reducible repeat (first | refine blk_drewN ?_ _ | refine blk_drew ?_ | refine blk_alloc ?_ _)); exact BK331.out)) : gb342 ≠ gb331))
          have n9_ := Aside0.mk ((by rw [hg]; exact Nat.ne_of_lt (blk_lt (g := gb332) (o := .cells #[.int .i64 0, .int .u64 0] 24 (0, 0)) (by (with_reducible repeat (first | refine blk_drewN ?_ _ | refine blk_drew ?_ | refine blk_alloc ?_ _)); exact BK332.out)) : gb332 ≠ gb342))
          have n10_ := Aside0.mk ((by rw [hg]; exact Nat.ne_of_gt (blk_lt (g := gb332) (o := .cells #[.int .i64 0, .int .u64 0] 24 (0, 0)) (by (with_reducible repeat (first | refine blk_drewN ?_ _ | refine blk_drew ?_ | refine blk_alloc ?_ _)); exact BK332.out)) : gb342 ≠ gb332))
          have n11_ := Aside0.mk ((by rw [hg]; exact Nat.ne_of_lt (blk_lt (g := gb335) (o := .cells #[.int .i64 t333, .int .u64 t334] 24 (0, 0)) (by (with_reducible repeat (first | refine blk_drewN ?_ _ | refine blk_drew ?_ | refine blk_alloc ?_ _)); exact BK335.out)) : gb335 ≠ gb342))
          have n12_ := Aside0.mk ((by rw [hg]; exact Nat.ne_of_gt (blk_lt (g := gb335) (o := .cells #[.int .i64 t333, .int .u64 t334] 24 (0, 0)) (by (with_reducible repeat (first | refine blk_drewN ?_ _ | refine blk_drew ?_ | refine blk_alloc ?_ _)); exact BK335.out)) : gb342 ≠ gb335))
          clear BK331
          clear BK332
          clear BK335
          clear HB
          have BK331 := n0_
          have BK332 := n1_
          have BK335 := n2_
          have HB := n3_
          have BK342 := n4_
          have GW342 := n5_
          have GE342 := n6_
          have NB331_342 := n7_
          have NB342_331 := n8_
          have NB332_342 := n9_
          have NB342_332 := n10_
          have NB335_342 := n11_
          have NB342_335 := n12_
          clear n0_ n1_ n2_ n3_ n4_ n5_ n6_ n7_ n8_ n9_ n10_ n11_ n12_
          clear hb hbox hg
          refine hK.out _ _ ⟨(blk_cell BK335.out 0).trans rfl, (blk_cell BK335.out 1).trans rfl⟩ (fun hHeld => ?_)
          clear hK K
          refine norm_ (a' := ?_) ?_ ?_
          rotate_left
          · show Act.put _ (some 6) _ = _
            simp only [Act.put, List.setIfInBounds_toArray, List.set_cons_zero, List.set_cons_succ, i64_w, i32_w]
            rfl
          exact norm_ (by simp only [putAll, Act.put, List.setIfInBounds_toArray, List.set_cons_zero, List.set_cons_succ]) (hCont (gb342) _ ⟨hHeld, (by (with_reducible repeat (first | refine blk_drewN ?_ _ | refine blk_drew ?_ | refine blk_alloc ?_ _)); exact BK331.out), (by (with_reducible repeat (first | refine blk_drewN ?_ _ | refine blk_drew ?_ | refine blk_alloc ?_ _)); exact BK332.out), (by (with_reducible repeat (first | refine blk_drewN ?_ _ | refine blk_drew ?_ | refine blk_alloc ?_ _)); exact BK335.out), (by (with_reducible repeat (first | refine blk_drewN ?_ _ | refine blk_drew ?_ | refine blk_alloc ?_ _)); exact BK342.out), GW342.out, GE342.out, NB331_342.out, NB342_331.out, NB332_342.out, NB342_332.out, NB335_342.out, NB342_335.out, (by repeat (first | (with_reducible first | exact HB.out | apply below_alloc | apply pw_below_drewN | apply below_drew1 | refine below_set ?_ GE331.out | refine below_set ?_ GE332.out | refine below_set ?_ GE335.out | refine below_set ?_ GE342.out) | exact HB.out))⟩)
        · skip
          refine box_step ?hg (N := 6) ?hd (cs := #[.int .i64 0, .int .u64 0]) (t := 24) ?hr ?_; (case hd => rfl); (case hg => rfl); (case hr => first | (go_simp; done) | (go_simp; rfl))
          intro gb342 hg w22 hbox hb
          have n0_ := Aside0.mk (blk_below (g := gb331) (o := .cells #[.int .i64 a0_0, .int .u64 a0_1] 24 (0, 0)) (by (with_reducible repeat (first | refine blk_drewN ?_ _ | refine blk_drew ?_ | refine blk_alloc ?_ _)); exact BK331.out) hb)
          have n1_ := Aside0.mk (blk_below (g := gb332) (o := .cells #[.int .i64 0, .int .u64 0] 24 (0, 0)) (by (with_reducible repeat (first | refine blk_drewN ?_ _ | refine blk_drew ?_ | refine blk_alloc ?_ _)); exact BK332.out) hb)
          have n2_ := Aside0.mk (blk_below (g := gb335) (o := .cells #[.int .i64 t333, .int .u64 t334] 24 (0, 0)) (by (with_reducible repeat (first | refine blk_drewN ?_ _ | refine blk_drew ?_ | refine blk_alloc ?_ _)); exact BK335.out) hb)
          have n3_ := Aside0.mk (below_step (by repeat (first | (with_reducible first | exact HB.out | apply below_alloc | apply pw_below_drewN | apply below_drew1 | refine below_set ?_ GE331.out | refine below_set ?_ GE332.out | refine below_set ?_ GE335.out) | exact HB.out)) hb)
          have n4_ := Aside0.mk (hbox)
          have n5_ := Aside0.mk ((by rw [hg]; exact (below_size (by repeat (first | (with_reducible first | exact HB.out | apply below_alloc | apply pw_below_drewN | apply below_drew1 | refine below_set ?_ GE331.out | refine below_set ?_ GE332.out | refine below_set ?_ GE335.out) | exact HB.out))) : w.heap.size ≤ gb342))
          have n6_ := Aside0.mk ((by rw [hg]; exact (below_size (by repeat (first | (with_reducible first | exact HB.out | apply below_alloc | apply pw_below_drewN | apply below_drew1 | refine below_set ?_ GE331.out | refine below_set ?_ GE332.out | refine below_set ?_ GE335.out) | exact HB.out))) : w.heap.size ≤ gb342))
          have n7_ := Aside0.mk ((by rw [hg]; exact Nat.ne_of_lt (blk_lt (g := gb331) (o := .cells #[.int .i64 a0_0, .int .u64 a0_1] 24 (0, 0)) (by (with_reducible repeat (first | refine blk_drewN ?_ _ | refine blk_drew ?_ | refine blk_alloc ?_ _)); exact BK331.out)) : gb331 ≠ gb342))
          have n8_ := Aside0.mk ((by rw [hg]; exact Nat.ne_of_gt (blk_lt (g := gb331) (o := .cells #[.int .i64 a0_0, .int .u64 a0_1] 24 (0, 0)) (by (with_reducible repeat (first | refine blk_drewN ?_ _ | refine blk_drew ?_ | refine blk_alloc ?_ _)); exact BK331.out)) : gb342 ≠ gb331))
          have n9_ := Aside0.mk ((by rw [hg]; exact Nat.ne_of_lt (blk_lt (g := gb332) (o := .cells #[.int .i64 0, .int .u64 0] 24 (0, 0)) (by (with_reducible repeat (first | refine blk_drewN ?_ _ | refine blk_drew ?_ | refine blk_alloc ?_ _)); exact BK332.out)) : gb332 ≠ gb342))
          have n10_ := Aside0.mk ((by rw [hg]; exact Nat.ne_of_gt (blk_lt (g := gb332) (o := .cells #[.int .i64 0, .int .u64 0] 24 (0, 0)) (by (with_reducible repeat (first | refine blk_drewN ?_ _ | refine blk_drew ?_ | refine blk_alloc ?_ _)); exact BK332.out)) : gb342 ≠ gb332))
          have n11_ := Aside0.mk ((by rw [hg]; exact Nat.ne_of_lt (blk_lt (g := gb335) (o := .cells #[.int .i64 t333, .int .u64 t334] 24 (0, 0)) (by (with_reducible repeat (first | refine blk_drewN ?_ _ | refine blk_drew ?_ | refine blk_alloc ?_ _)); exact BK335.out)) : gb335 ≠ gb342))
          have n12_ := Aside0.mk ((by rw [hg]; exact Nat.ne_of_gt (blk_lt (g := gb335) (o := .cells #[.int .i64 t333, .int .u64 t334] 24 (0, 0)) (by (with_reducible repeat (first | refine blk_drewN ?_ _ | refine blk_drew ?_ | refine blk_alloc ?_ _)); exact BK335.out)) : gb342 ≠ gb335))
          clear BK331
          clear BK332
          clear BK335
          clear HB
          have BK331 := n0_
          have BK332 := n1_
          have BK335 := n2_
          have HB := n3_
          have BK342 := n4_
          have GW342 := n5_
          have GE342 := n6_
          have NB331_342 := n7_
          have NB342_331 := n8_
          have NB332_342 := n9_
          have NB342_332 := n10_
          have NB335_342 := n11_
          have NB342_335 := n12_
          clear n0_ n1_ n2_ n3_ n4_ n5_ n6_ n7_ n8_ n9_ n10_ n11_ n12_
          clear hb hbox hg
          refine hK.out _ _ ⟨(blk_cell BK335.out 0).trans rfl, (blk_cell BK335.out 1).trans rfl⟩ (fun hHeld => ?_)
          clear hK K
          refine norm_ (a' := ?_) ?_ ?_
          rotate_left
          · show Act.put _ (some 6) _ = _
            simp only [Act.put, List.setIfInBounds_toArray, List.set_cons_zero, List.set_cons_succ, i64_w, i32_w]
            rfl
          refine one_ (i := 6) (N := some 16) #[true, true, true, true, true, true, true, true, false] rfl rfl (one_of HT_.out (by kernel_rfl)) (by decide) (fun K hK => ?_)
          refine goes_ Try.func32 (by kernel_rfl) rfl #[.agg #[.int .i64 t336, .int .u64 t337], .agg #[.int .i64 t338, .int .u64 t339]] (by rfl) rfl rfl (by (try simp only [List.map_toArray, List.map_cons, List.map_nil]); first | done | rfl | (simp only [List.length_drop, List.length_take]; rfl)) ?_
          with_reducible refine (wide_add.calls t336 t337 t338 t339 t340 t341 _ A6.out).mono ?_
          rintro e w23 ⟨rfl, hb⟩
          refine ⟨_, rfl, ?_⟩
          have n0_ := Aside0.mk (blk_below (g := gb331) (o := .cells #[.int .i64 a0_0, .int .u64 a0_1] 24 (0, 0)) (by (with_reducible repeat (first | refine blk_drewN ?_ _ | refine blk_drew ?_ | refine blk_alloc ?_ _)); exact BK331.out) hb)
          have n1_ := Aside0.mk (blk_below (g := gb332) (o := .cells #[.int .i64 0, .int .u64 0] 24 (0, 0)) (by (with_reducible repeat (first | refine blk_drewN ?_ _ | refine blk_drew ?_ | refine blk_alloc ?_ _)); exact BK332.out) hb)
          have n2_ := Aside0.mk (blk_below (g := gb335) (o := .cells #[.int .i64 t333, .int .u64 t334] 24 (0, 0)) (by (with_reducible repeat (first | refine blk_drewN ?_ _ | refine blk_drew ?_ | refine blk_alloc ?_ _)); exact BK335.out) hb)
          have n3_ := Aside0.mk (blk_below (g := gb342) (o := .cells #[.int .i64 0, .int .u64 0] 24 (0, 0)) (by (with_reducible repeat (first | refine blk_drewN ?_ _ | refine blk_drew ?_ | refine blk_alloc ?_ _)); exact BK342.out) hb)
          have n4_ := Aside0.mk (below_step (by repeat (first | (with_reducible first | exact HB.out | apply below_alloc | apply pw_below_drewN | apply below_drew1 | refine below_set ?_ GE331.out | refine below_set ?_ GE332.out | refine below_set ?_ GE335.out | refine below_set ?_ GE342.out) | exact HB.out)) hb)
          clear BK331
          clear BK332
          clear BK335
          clear BK342
          clear HB
          have BK331 := n0_
          have BK332 := n1_
          have BK335 := n2_
          have BK342 := n3_
          have HB := n4_
          clear n0_ n1_ n2_ n3_ n4_
          (try clear hb)
          (try clear hb2)
          (try clear hk)
          (try clear hi)
          refine hK.out _ _ ⟨(blk_cell BK335.out 0).trans rfl, (blk_cell BK335.out 1).trans rfl⟩ (fun hHeld => ?_)
          clear hK K
          refine norm_ (a' := ?_) ?_ ?_
          rotate_left
          · show Act.put _ (some 16) _ = _
            simp only [Act.put, List.setIfInBounds_toArray, List.set_cons_zero, List.set_cons_succ, i64_w, i32_w]
            rfl
          exact norm_ (by simp only [putAll, Act.put, List.setIfInBounds_toArray, List.set_cons_zero, List.set_cons_succ]) (hCont (gb342) _ ⟨hHeld, (by (with_reducible repeat (first | refine blk_drewN ?_ _ | refine blk_drew ?_ | refine blk_alloc ?_ _)); exact BK331.out), (by (with_reducible repeat (first | refine blk_drewN ?_ _ | refine blk_drew ?_ | refine blk_alloc ?_ _)); exact BK332.out), (by (with_reducible repeat (first | refine blk_drewN ?_ _ | refine blk_drew ?_ | refine blk_alloc ?_ _)); exact BK335.out), (by (with_reducible repeat (first | refine blk_drewN ?_ _ | refine blk_drew ?_ | refine blk_alloc ?_ _)); exact BK342.out), GW342.out, GE342.out, NB331_342.out, NB342_331.out, NB332_342.out, NB342_332.out, NB335_342.out, NB342_335.out, (by repeat (first | (with_reducible first | exact HB.out | apply below_alloc | apply pw_below_drewN | apply below_drew1 | refine below_set ?_ GE331.out | refine below_set ?_ GE332.out | refine below_set ?_ GE335.out | refine below_set ?_ GE342.out) | exact HB.out))⟩)
      · skip
        refine box_step ?hg (N := 6) ?hd (cs := #[.int .i64 0, .int .u64 0]) (t := 24) ?hr ?_; (case hd => rfl); (case hg => rfl); (case hr => first | (go_simp; done) | (go_simp; rfl))
        intro gb342 hg w21 hbox hb
        have n0_ := Aside0.mk (blk_below (g := gb331) (o := .cells #[.int .i64 a0_0, .int .u64 a0_1] 24 (0, 0)) (by (with_reducible repeat (first | refine blk_drewN ?_ _ | refine blk_drew ?_ | refine blk_alloc ?_ _)); exact BK331.out) hb)
        have n1_ := Aside0.mk (blk_below (g := gb332) (o := .cells #[.int .i64 0, .int .u64 0] 24 (0, 0)) (by (with_reducible repeat (first | refine blk_drewN ?_ _ | refine blk_drew ?_ | refine blk_alloc ?_ _)); exact BK332.out) hb)
        have n2_ := Aside0.mk (blk_below (g := gb335) (o := .cells #[.int .i64 t333, .int .u64 t334] 24 (0, 0)) (by (with_reducible repeat (first | refine blk_drewN ?_ _ | refine blk_drew ?_ | refine blk_alloc ?_ _)); exact BK335.out) hb)
        have n3_ := Aside0.mk (below_step (by repeat (first | (with_reducible first | exact HB.out | apply below_alloc | apply pw_below_drewN | apply below_drew1 | refine below_set ?_ GE331.out | refine below_set ?_ GE332.out | refine below_set ?_ GE335.out) | exact HB.out)) hb)
        have n4_ := Aside0.mk (hbox)
        have n5_ := Aside0.mk ((by rw [hg]; exact (below_size (by repeat (first | (with_reducible first | exact HB.out | apply below_alloc | apply pw_below_drewN | apply below_drew1 | refine below_set ?_ GE331.out | refine below_set ?_ GE332.out | refine below_set ?_ GE335.out) | exact HB.out))) : w.heap.size ≤ gb342))
        have n6_ := Aside0.mk ((by rw [hg]; exact (below_size (by repeat (first | (with_reducible first | exact HB.out | apply below_alloc | apply pw_below_drewN | apply below_drew1 | refine below_set ?_ GE331.out | refine below_set ?_ GE332.out | refine below_set ?_ GE335.out) | exact HB.out))) : w.heap.size ≤ gb342))
        have n7_ := Aside0.mk ((by rw [hg]; exact Nat.ne_of_lt (blk_lt (g := gb331) (o := .cells #[.int .i64 a0_0, .int .u64 a0_1] 24 (0, 0)) (by (with_reducible repeat (first | refine blk_drewN ?_ _ | refine blk_drew ?_ | refine blk_alloc ?_ _)); exact BK331.out)) : gb331 ≠ gb342))
        have n8_ := Aside0.mk ((by rw [hg]; exact Nat.ne_of_gt (blk_lt (g := gb331) (o := .cells #[.int .i64 a0_0, .int .u64 a0_1] 24 (0, 0)) (by (with_reducible repeat (first | refine blk_drewN ?_ _ | refine blk_drew ?_ | refine blk_alloc ?_ _)); exact BK331.out)) : gb342 ≠ gb331))
        have n9_ := Aside0.mk ((by rw [hg]; exact Nat.ne_of_lt (blk_lt (g := gb332) (o := .cells #[.int .i64 0, .int .u64 0] 24 (0, 0)) (by (with_reducible repeat (first | refine blk_drewN ?_ _ | refine blk_drew ?_ | refine blk_alloc ?_ _)); exact BK332.out)) : gb332 ≠ gb342))
        have n10_ := Aside0.mk ((by rw [hg]; exact Nat.ne_of_gt (blk_lt (g := gb332) (o := .cells #[.int .i64 0, .int .u64 0] 24 (0, 0)) (by (with_reducible repeat (first | refine blk_drewN ?_ _ | refine blk_drew ?_ | refine blk_alloc ?_ _)); exact BK332.out)) : gb342 ≠ gb332))
        have n11_ := Aside0.mk ((by rw [hg]; exact Nat.ne_of_lt (blk_lt (g := gb335) (o := .cells #[.int .i64 t333, .int .u64 t334] 24 (0, 0)) (by (with_reducible repeat (first | refine blk_drewN ?_ _ | refine blk_drew ?_ | refine blk_alloc ?_ _)); exact BK335.out)) : gb335 ≠ gb342))
        have n12_ := Aside0.mk ((by rw [hg]; exact Nat.ne_of_gt (blk_lt (g := gb335) (o := .cells #[.int .i64 t333, .int .u64 t334] 24 (0, 0)) (by (with_reducible repeat (first | refine blk_drewN ?_ _ | refine blk_drew ?_ | refine blk_alloc ?_ _)); exact BK335.out)) : gb342 ≠ gb335))
        clear BK331
        clear BK332
        clear BK335
        clear HB
        have BK331 := n0_
        have BK332 := n1_
        have BK335 := n2_
        have HB := n3_
        have BK342 := n4_
        have GW342 := n5_
        have GE342 := n6_
        have NB331_342 := n7_
        have NB342_331 := n8_
        have NB332_342 := n9_
        have NB342_332 := n10_
        have NB335_342 := n11_
        have NB342_335 := n12_
        clear n0_ n1_ n2_ n3_ n4_ n5_ n6_ n7_ n8_ n9_ n10_ n11_ n12_
        clear hb hbox hg
        refine hK.out _ _ ⟨(blk_cell BK335.out 0).trans rfl, (blk_cell BK335.out 1).trans rfl⟩ (fun hHeld => ?_)
        clear hK K
        refine norm_ (a' := ?_) ?_ ?_
        rotate_left
        · show Act.put _ (some 6) _ = _
          simp only [Act.put, List.setIfInBounds_toArray, List.set_cons_zero, List.set_cons_succ, i64_w, i32_w]
          rfl
        refine one_ (i := 5) (N := some 15) #[true, true, true, true, true, true, false, true, false] rfl rfl (one_of HT_.out (by kernel_rfl)) (by decide) (fun K hK => ?_)
        refine goes_ Try.func32 (by kernel_rfl) rfl #[.agg #[.int .i64 t333, .int .u64 t334], .agg #[.int .i64 t333, .int .u64 t334]] (by rfl) rfl rfl (by (try simp only [List.map_toArray, List.map_cons, List.map_nil]); first | done | rfl | (simp only [List.length_drop, List.length_take]; rfl)) ?_
        with_reducible refine (wide_add.calls t333 t334 t333 t334 t338 t339 _ A5.out).mono ?_
        rintro e w22 ⟨rfl, hb⟩
        refine ⟨_, rfl, ?_⟩
        have n0_ := Aside0.mk (blk_below (g := gb331) (o := .cells #[.int .i64 a0_0, .int .u64 a0_1] 24 (0, 0)) (by (with_reducible repeat (first | refine blk_drewN ?_ _ | refine blk_drew ?_ | refine blk_alloc ?_ _)); exact BK331.out) hb)
        have n1_ := Aside0.mk (blk_below (g := gb332) (o := .cells #[.int .i64 0, .int .u64 0] 24 (0, 0)) (by (with_reducible repeat (first | refine blk_drewN ?_ _ | refine blk_drew ?_ | refine blk_alloc ?_ _)); exact BK332.out) hb)
        have n2_ := Aside0.mk (blk_below (g := gb335) (o := .cells #[.int .i64 t333, .int .u64 t334] 24 (0, 0)) (by (with_reducible repeat (first | refine blk_drewN ?_ _ | refine blk_drew ?_ | refine blk_alloc ?_ _)); exact BK335.out) hb)
        have n3_ := Aside0.mk (blk_below (g := gb342) (o := .cells #[.int .i64 0, .int .u64 0] 24 (0, 0)) (by (with_reducible repeat (first | refine blk_drewN ?_ _ | refine blk_drew ?_ | refine blk_alloc ?_ _)); exact BK342.out) hb)
        have n4_ := Aside0.mk (below_step (by repeat (first | (with_reducible first | exact HB.out | apply below_alloc | apply pw_below_drewN | apply below_drew1 | refine below_set ?_ GE331.out | refine below_set ?_ GE332.out | refine below_set ?_ GE335.out | refine below_set ?_ GE342.out) | exact HB.out)) hb)
        clear BK331
        clear BK332
        clear BK335
        clear BK342
        clear HB
        have BK331 := n0_
        have BK332 := n1_
        have BK335 := n2_
        have BK342 := n3_
        have HB := n4_
        clear n0_ n1_ n2_ n3_ n4_
        (try clear hb)
        (try clear hb2)
        (try clear hk)
        (try clear hi)
        refine hK.out _ _ ⟨(blk_cell BK335.out 0).trans rfl, (blk_cell BK335.out 1).trans rfl⟩ (fun hHeld => ?_)
        clear hK K
        refine norm_ (a' := ?_) ?_ ?_
        rotate_left
        · show Act.put _ (some 15) _ = _
          simp only [Act.put, List.setIfInBounds_toArray, List.set_cons_zero, List.set_cons_succ, i64_w, i32_w]
          rfl
        refine one_ (i := 6) (N := some 16) #[true, true, true, true, true, true, true, true, false] rfl rfl (one_of HT_.out (by kernel_rfl)) (by decide) (fun K hK => ?_)
        refine goes_ Try.func32 (by kernel_rfl) rfl #[.agg #[.int .i64 t336, .int .u64 t337], .agg #[.int .i64 t338, .int .u64 t339]] (by rfl) rfl rfl (by (try simp only [List.map_toArray, List.map_cons, List.map_nil]); first | done | rfl | (simp only [List.length_drop, List.length_take]; rfl)) ?_
        with_reducible refine (wide_add.calls t336 t337 t338 t339 t340 t341 _ A6.out).mono ?_
        rintro e w23 ⟨rfl, hb⟩
        refine ⟨_, rfl, ?_⟩
        have n0_ := Aside0.mk (blk_below (g := gb331) (o := .cells #[.int .i64 a0_0, .int .u64 a0_1] 24 (0, 0)) (by (with_reducible repeat (first | refine blk_drewN ?_ _ | refine blk_drew ?_ | refine blk_alloc ?_ _)); exact BK331.out) hb)
        have n1_ := Aside0.mk (blk_below (g := gb332) (o := .cells #[.int .i64 0, .int .u64 0] 24 (0, 0)) (by (with_reducible repeat (first | refine blk_drewN ?_ _ | refine blk_drew ?_ | refine blk_alloc ?_ _)); exact BK332.out) hb)
        have n2_ := Aside0.mk (blk_below (g := gb335) (o := .cells #[.int .i64 t333, .int .u64 t334] 24 (0, 0)) (by (with_reducible repeat (first | refine blk_drewN ?_ _ | refine blk_drew ?_ | refine blk_alloc ?_ _)); exact BK335.out) hb)
        have n3_ := Aside0.mk (blk_below (g := gb342) (o := .cells #[.int .i64 0, .int .u64 0] 24 (0, 0)) (by (with_reducible repeat (first | refine blk_drewN ?_ _ | refine blk_drew ?_ | refine blk_alloc ?_ _)); exact BK342.out) hb)
        have n4_ := Aside0.mk (below_step (by repeat (first | (with_reducible first | exact HB.out | apply below_alloc | apply pw_below_drewN | apply below_drew1 | refine below_set ?_ GE331.out | refine below_set ?_ GE332.out | refine below_set ?_ GE335.out | refine below_set ?_ GE342.out) | exact HB.out)) hb)
        clear BK331
        clear BK332
        clear BK335
        clear BK342
        clear HB
        have BK331 := n0_
        have BK332 := n1_
        have BK335 := n2_
        have BK342 := n3_
        have HB := n4_
        clear n0_ n1_ n2_ n3_ n4_
        (try clear hb)
        (try clear hb2)
        (try clear hk)
        (try clear hi)
        refine hK.out _ _ ⟨(blk_cell BK335.out 0).trans rfl, (blk_cell BK335.out 1).trans rfl⟩ (fun hHeld => ?_)
        clear hK K
        refine norm_ (a' := ?_) ?_ ?_
        rotate_left
        · show Act.put _ (some 16) _ = _
          simp only [Act.put, List.setIfInBounds_toArray, List.set_cons_zero, List.set_cons_succ, i64_w, i32_w]
          rfl
        exact norm_ (by simp only [putAll, Act.put, List.setIfInBounds_toArray, List.set_cons_zero, List.set_cons_succ]) (hCont (gb342) _ ⟨hHeld, (by (with_reducible repeat (first | refine blk_drewN ?_ _ | refine blk_drew ?_ | refine blk_alloc ?_ _)); exact BK331.out), (by (with_reducible repeat (first | refine blk_drewN ?_ _ | refine blk_drew ?_ | refine blk_alloc ?_ _)); exact BK332.out), (by (with_reducible repeat (first | refine blk_drewN ?_ _ | refine blk_drew ?_ | refine blk_alloc ?_ _)); exact BK335.out), (by (with_reducible repeat (first | refine blk_drewN ?_ _ | refine blk_drew ?_ | refine blk_alloc ?_ _)); exact BK342.out), GW342.out, GE342.out, NB331_342.out, NB342_331.out, NB332_342.out, NB342_332.out, NB335_342.out, NB342_335.out, (by repeat (first | (with_reducible first | exact HB.out | apply below_alloc | apply pw_below_drewN | apply below_drew1 | refine below_set ?_ GE331.out | refine below_set ?_ GE332.out | refine below_set ?_ GE335.out | refine below_set ?_ GE342.out) | exact HB.out))⟩)
    · skip
      refine box_step ?hg (N := 6) ?hd (cs := #[.int .i64 0, .int .u64 0]) (t := 24) ?hr ?_; (case hd => rfl); (case hg => rfl); (case hr => first | (go_simp; done) | (go_simp; rfl))
      intro gb342 hg w20 hbox hb
      have n0_ := Aside0.mk (blk_below (g := gb331) (o := .cells #[.int .i64 a0_0, .int .u64 a0_1] 24 (0, 0)) (by (with_reducible repeat (first | refine blk_drewN ?_ _ | refine blk_drew ?_ | refine blk_alloc ?_ _)); exact BK331.out) hb)
      have n1_ := Aside0.mk (blk_below (g := gb332) (o := .cells #[.int .i64 0, .int .u64 0] 24 (0, 0)) (by (with_reducible repeat (first | refine blk_drewN ?_ _ | refine blk_drew ?_ | refine blk_alloc ?_ _)); exact BK332.out) hb)
      have n2_ := Aside0.mk (blk_below (g := gb335) (o := .cells #[.int .i64 t333, .int .u64 t334] 24 (0, 0)) (by (with_reducible repeat (first | refine blk_drewN ?_ _ | refine blk_drew ?_ | refine blk_alloc ?_ _)); exact BK335.out) hb)
      have n3_ := Aside0.mk (below_step (by repeat (first | (with_reducible first | exact HB.out | apply below_alloc | apply pw_below_drewN | apply below_drew1 | refine below_set ?_ GE331.out | refine below_set ?_ GE332.out | refine below_set ?_ GE335.out) | exact HB.out)) hb)
      have n4_ := Aside0.mk (hbox)
      have n5_ := Aside0.mk ((by rw [hg]; exact (below_size (by repeat (first | (with_reducible first | exact HB.out | apply below_alloc | apply pw_below_drewN | apply below_drew1 | refine below_set ?_ GE331.out | refine below_set ?_ GE332.out | refine below_set ?_ GE335.out) | exact HB.out))) : w.heap.size ≤ gb342))
      have n6_ := Aside0.mk ((by rw [hg]; exact (below_size (by repeat (first | (with_reducible first | exact HB.out | apply below_alloc | apply pw_below_drewN | apply below_drew1 | refine below_set ?_ GE331.out | refine below_set ?_ GE332.out | refine below_set ?_ GE335.out) | exact HB.out))) : w.heap.size ≤ gb342))
      have n7_ := Aside0.mk ((by rw [hg]; exact Nat.ne_of_lt (blk_lt (g := gb331) (o := .cells #[.int .i64 a0_0, .int .u64 a0_1] 24 (0, 0)) (by (with_reducible repeat (first | refine blk_drewN ?_ _ | refine blk_drew ?_ | refine blk_alloc ?_ _)); exact BK331.out)) : gb331 ≠ gb342))
      have n8_ := Aside0.mk ((by rw [hg]; exact Nat.ne_of_gt (blk_lt (g := gb331) (o := .cells #[.int .i64 a0_0, .int .u64 a0_1] 24 (0, 0)) (by (with_reducible repeat (first | refine blk_drewN ?_ _ | refine blk_drew ?_ | refine blk_alloc ?_ _)); exact BK331.out)) : gb342 ≠ gb331))
      have n9_ := Aside0.mk ((by rw [hg]; exact Nat.ne_of_lt (blk_lt (g := gb332) (o := .cells #[.int .i64 0, .int .u64 0] 24 (0, 0)) (by (with_reducible repeat (first | refine blk_drewN ?_ _ | refine blk_drew ?_ | refine blk_alloc ?_ _)); exact BK332.out)) : gb332 ≠ gb342))
      have n10_ := Aside0.mk ((by rw [hg]; exact Nat.ne_of_gt (blk_lt (g := gb332) (o := .cells #[.int .i64 0, .int .u64 0] 24 (0, 0)) (by (with_reducible repeat (first | refine blk_drewN ?_ _ | refine blk_drew ?_ | refine blk_alloc ?_ _)); exact BK332.out)) : gb342 ≠ gb332))
      have n11_ := Aside0.mk ((by rw [hg]; exact Nat.ne_of_lt (blk_lt (g := gb335) (o := .cells #[.int .i64 t333, .int .u64 t334] 24 (0, 0)) (by (with_reducible repeat (first | refine blk_drewN ?_ _ | refine blk_drew ?_ | refine blk_alloc ?_ _)); exact BK335.out)) : gb335 ≠ gb342))
      have n12_ := Aside0.mk ((by rw [hg]; exact Nat.ne_of_gt (blk_lt (g := gb335) (o := .cells #[.int .i64 t333, .int .u64 t334] 24 (0, 0)) (by (with_reducible repeat (first | refine blk_drewN ?_ _ | refine blk_drew ?_ | refine blk_alloc ?_ _)); exact BK335.out)) : gb342 ≠ gb335))
      clear BK331
      clear BK332
      clear BK335
      clear HB
      have BK331 := n0_
      have BK332 := n1_
      have BK335 := n2_
      have HB := n3_
      have BK342 := n4_
      have GW342 := n5_
      have GE342 := n6_
      have NB331_342 := n7_
      have NB342_331 := n8_
      have NB332_342 := n9_
      have NB342_332 := n10_
      have NB335_342 := n11_
      have NB342_335 := n12_
      clear n0_ n1_ n2_ n3_ n4_ n5_ n6_ n7_ n8_ n9_ n10_ n11_ n12_
      clear hb hbox hg
      refine hK.out _ _ ⟨(blk_cell BK335.out 0).trans rfl, (blk_cell BK335.out 1).trans rfl⟩ (fun hHeld => ?_)
      clear hK K
      refine norm_ (a' := ?_) ?_ ?_
      rotate_left
      · show Act.put _ (some 6) _ = _
        simp only [Act.put, List.setIfInBounds_toArray, List.set_cons_zero, List.set_cons_succ, i64_w, i32_w]
        rfl
      refine one_ (i := 2) (N := some 12) #[true, true, true, true, true, false, false, true, false] rfl rfl (one_of HT_.out (by kernel_rfl)) (by decide) (fun K hK => ?_)
      refine goes_ Try.func32 (by kernel_rfl) rfl #[.agg #[.int .i64 t333, .int .u64 t334], .agg #[.int .i64 t333, .int .u64 t334]] (by rfl) rfl rfl (by (try simp only [List.map_toArray, List.map_cons, List.map_nil]); first | done | rfl | (simp only [List.length_drop, List.length_take]; rfl)) ?_
      with_reducible refine (wide_add.calls t333 t334 t333 t334 t336 t337 _ A4.out).mono ?_
      rintro e w21 ⟨rfl, hb⟩
      refine ⟨_, rfl, ?_⟩
      have n0_ := Aside0.mk (blk_below (g := gb331) (o := .cells #[.int .i64 a0_0, .int .u64 a0_1] 24 (0, 0)) (by (with_reducible repeat (first | refine blk_drewN ?_ _ | refine blk_drew ?_ | refine blk_alloc ?_ _)); exact BK331.out) hb)
      have n1_ := Aside0.mk (blk_below (g := gb332) (o := .cells #[.int .i64 0, .int .u64 0] 24 (0, 0)) (by (with_reducible repeat (first | refine blk_drewN ?_ _ | refine blk_drew ?_ | refine blk_alloc ?_ _)); exact BK332.out) hb)
      have n2_ := Aside0.mk (blk_below (g := gb335) (o := .cells #[.int .i64 t333, .int .u64 t334] 24 (0, 0)) (by (with_reducible repeat (first | refine blk_drewN ?_ _ | refine blk_drew ?_ | refine blk_alloc ?_ _)); exact BK335.out) hb)
      have n3_ := Aside0.mk (blk_below (g := gb342) (o := .cells #[.int .i64 0, .int .u64 0] 24 (0, 0)) (by (with_reducible repeat (first | refine blk_drewN ?_ _ | refine blk_drew ?_ | refine blk_alloc ?_ _)); exact BK342.out) hb)
      have n4_ := Aside0.mk (below_step (by repeat (first | (with_reducible first | exact HB.out | apply below_alloc | apply pw_below_drewN | apply below_drew1 | refine below_set ?_ GE331.out | refine below_set ?_ GE332.out | refine below_set ?_ GE335.out | refine below_set ?_ GE342.out) | exact HB.out)) hb)
      clear BK331
      clear BK332
      clear BK335
      clear BK342
      clear HB
      have BK331 := n0_
      have BK332 := n1_
      have BK335 := n2_
      have BK342 := n3_
      have HB := n4_
      clear n0_ n1_ n2_ n3_ n4_
      (try clear hb)
      (try clear hb2)
      (try clear hk)
      (try clear hi)
      refine hK.out _ _ ⟨(blk_cell BK335.out 0).trans rfl, (blk_cell BK335.out 1).trans rfl⟩ (fun hHeld => ?_)
      clear hK K
      refine norm_ (a' := ?_) ?_ ?_
      rotate_left
      · show Act.put _ (some 12) _ = _
        simp only [Act.put, List.setIfInBounds_toArray, List.set_cons_zero, List.set_cons_succ, i64_w, i32_w]
        rfl
      refine one_ (i := 5) (N := some 15) #[true, true, true, true, true, true, false, true, false] rfl rfl (one_of HT_.out (by kernel_rfl)) (by decide) (fun K hK => ?_)
      refine goes_ Try.func32 (by kernel_rfl) rfl #[.agg #[.int .i64 t333, .int .u64 t334], .agg #[.int .i64 t333, .int .u64 t334]] (by rfl) rfl rfl (by (try simp only [List.map_toArray, List.map_cons, List.map_nil]); first | done | rfl | (simp only [List.length_drop, List.length_take]; rfl)) ?_
      with_reducible refine (wide_add.calls t333 t334 t333 t334 t338 t339 _ A5.out).mono ?_
      rintro e w22 ⟨rfl, hb⟩
      refine ⟨_, rfl, ?_⟩
      have n0_ := Aside0.mk (blk_below (g := gb331) (o := .cells #[.int .i64 a0_0, .int .u64 a0_1] 24 (0, 0)) (by (with_reducible repeat (first | refine blk_drewN ?_ _ | refine blk_drew ?_ | refine blk_alloc ?_ _)); exact BK331.out) hb)
      have n1_ := Aside0.mk (blk_below (g := gb332) (o := .cells #[.int .i64 0, .int .u64 0] 24 (0, 0)) (by (with_reducible repeat (first | refine blk_drewN ?_ _ | refine blk_drew ?_ | refine blk_alloc ?_ _)); exact BK332.out) hb)
      have n2_ := Aside0.mk (blk_below (g := gb335) (o := .cells #[.int .i64 t333, .int .u64 t334] 24 (0, 0)) (by (with_reducible repeat (first | refine blk_drewN ?_ _ | refine blk_drew ?_ | refine blk_alloc ?_ _)); exact BK335.out) hb)
      have n3_ := Aside0.mk (blk_below (g := gb342) (o := .cells #[.int .i64 0, .int .u64 0] 24 (0, 0)) (by (with_reducible repeat (first | refine blk_drewN ?_ _ | refine blk_drew ?_ | refine blk_alloc ?_ _)); exact BK342.out) hb)
      have n4_ := Aside0.mk (below_step (by repeat (first | (with_reducible first | exact HB.out | apply below_alloc | apply pw_below_drewN | apply below_drew1 | refine below_set ?_ GE331.out | refine below_set ?_ GE332.out | refine below_set ?_ GE335.out | refine below_set ?_ GE342.out) | exact HB.out)) hb)
      clear BK331
      clear BK332
      clear BK335
      clear BK342
      clear HB
      have BK331 := n0_
      have BK332 := n1_
      have BK335 := n2_
      have BK342 := n3_
      have HB := n4_
      clear n0_ n1_ n2_ n3_ n4_
      (try clear hb)
      (try clear hb2)
      (try clear hk)
      (try clear hi)
      refine hK.out _ _ ⟨(blk_cell BK335.out 0).trans rfl, (blk_cell BK335.out 1).trans rfl⟩ (fun hHeld => ?_)
      clear hK K
      refine norm_ (a' := ?_) ?_ ?_
      rotate_left
      · show Act.put _ (some 15) _ = _
        simp only [Act.put, List.setIfInBounds_toArray, List.set_cons_zero, List.set_cons_succ, i64_w, i32_w]
        rfl
      refine one_ (i := 6) (N := some 16) #[true, true, true, true, true, true, true, true, false] rfl rfl (one_of HT_.out (by kernel_rfl)) (by decide) (fun K hK => ?_)
      refine goes_ Try.func32 (by kernel_rfl) rfl #[.agg #[.int .i64 t336, .int .u64 t337], .agg #[.int .i64 t338, .int .u64 t339]] (by rfl) rfl rfl (by (try simp only [List.map_toArray, List.map_cons, List.map_nil]); first | done | rfl | (simp only [List.length_drop, List.length_take]; rfl)) ?_
      with_reducible refine (wide_add.calls t336 t337 t338 t339 t340 t341 _ A6.out).mono ?_
      rintro e w23 ⟨rfl, hb⟩
      refine ⟨_, rfl, ?_⟩
      have n0_ := Aside0.mk (blk_below (g := gb331) (o := .cells #[.int .i64 a0_0, .int .u64 a0_1] 24 (0, 0)) (by (with_reducible repeat (first | refine blk_drewN ?_ _ | refine blk_drew ?_ | refine blk_alloc ?_ _)); exact BK331.out) hb)
      have n1_ := Aside0.mk (blk_below (g := gb332) (o := .cells #[.int .i64 0, .int .u64 0] 24 (0, 0)) (by (with_reducible repeat (first | refine blk_drewN ?_ _ | refine blk_drew ?_ | refine blk_alloc ?_ _)); exact BK332.out) hb)
      have n2_ := Aside0.mk (blk_below (g := gb335) (o := .cells #[.int .i64 t333, .int .u64 t334] 24 (0, 0)) (by (with_reducible repeat (first | refine blk_drewN ?_ _ | refine blk_drew ?_ | refine blk_alloc ?_ _)); exact BK335.out) hb)
      have n3_ := Aside0.mk (blk_below (g := gb342) (o := .cells #[.int .i64 0, .int .u64 0] 24 (0, 0)) (by (with_reducible repeat (first | refine blk_drewN ?_ _ | refine blk_drew ?_ | refine blk_alloc ?_ _)); exact BK342.out) hb)
      have n4_ := Aside0.mk (below_step (by repeat (first | (with_reducible first | exact HB.out | apply below_alloc | apply pw_below_drewN | apply below_drew1 | refine below_set ?_ GE331.out | refine below_set ?_ GE332.out | refine below_set ?_ GE335.out | refine below_set ?_ GE342.out) | exact HB.out)) hb)
      clear BK331
      clear BK332
      clear BK335
      clear BK342
      clear HB
      have BK331 := n0_
      have BK332 := n1_
      have BK335 := n2_
      have BK342 := n3_
      have HB := n4_
      clear n0_ n1_ n2_ n3_ n4_
      (try clear hb)
      (try clear hb2)
      (try clear hk)
      (try clear hi)
      refine hK.out _ _ ⟨(blk_cell BK335.out 0).trans rfl, (blk_cell BK335.out 1).trans rfl⟩ (fun hHeld => ?_)
      clear hK K
      refine norm_ (a' := ?_) ?_ ?_
      rotate_left
      · show Act.put _ (some 16) _ = _
        simp only [Act.put, List.setIfInBounds_toArray, List.set_cons_zero, List.set_cons_succ, i64_w, i32_w]
        rfl
      exact norm_ (by simp only [putAll, Act.put, List.setIfInBounds_toArray, List.set_cons_zero, List.set_cons_succ]) (hCont (gb342) _ ⟨hHeld, (by (with_reducible repeat (first | refine blk_drewN ?_ _ | refine blk_drew ?_ | refine blk_alloc ?_ _)); exact BK331.out), (by (with_reducible repeat (first | refine blk_drewN ?_ _ | refine blk_drew ?_ | refine blk_alloc ?_ _)); exact BK332.out), (by (with_reducible repeat (first | refine blk_drewN ?_ _ | refine blk_drew ?_ | refine blk_alloc ?_ _)); exact BK335.out), (by (with_reducible repeat (first | refine blk_drewN ?_ _ | refine blk_drew ?_ | refine blk_alloc ?_ _)); exact BK342.out), GW342.out, GE342.out, NB331_342.out, NB342_331.out, NB332_342.out, NB342_332.out, NB335_342.out, NB342_335.out, (by repeat (first | (with_reducible first | exact HB.out | apply below_alloc | apply pw_below_drewN | apply below_drew1 | refine below_set ?_ GE331.out | refine below_set ?_ GE332.out | refine below_set ?_ GE335.out | refine below_set ?_ GE342.out) | exact HB.out))⟩)
  rintro gb342 w24 ⟨hS_, h0_, h1_, h2_, h3_, h4_, h5_, h6_, h7_, h8_, h9_, h10_, h11_, h12_⟩
  have n0_ : Aside0 (w24.heap[gb331]? = some (.cells #[.int .i64 a0_0, .int .u64 a0_1] 24 (0, 0))) := ⟨h0_⟩
  have n1_ : Aside0 (w24.heap[gb332]? = some (.cells #[.int .i64 0, .int .u64 0] 24 (0, 0))) := ⟨h1_⟩
  have n2_ : Aside0 (w24.heap[gb335]? = some (.cells #[.int .i64 t333, .int .u64 t334] 24 (0, 0))) := ⟨h2_⟩
  have n3_ : Aside0 (w24.heap[gb342]? = some (.cells #[.int .i64 0, .int .u64 0] 24 (0, 0))) := ⟨h3_⟩
  have n4_ : Aside0 (w.heap.size ≤ gb342) := ⟨h4_⟩
  have n5_ : Aside0 (w.heap.size ≤ gb342) := ⟨h5_⟩
  have n6_ : Aside0 (gb331 ≠ gb342) := ⟨h6_⟩
  have n7_ : Aside0 (gb342 ≠ gb331) := ⟨h7_⟩
  have n8_ : Aside0 (gb332 ≠ gb342) := ⟨h8_⟩
  have n9_ : Aside0 (gb342 ≠ gb332) := ⟨h9_⟩
  have n10_ : Aside0 (gb335 ≠ gb342) := ⟨h10_⟩
  have n11_ : Aside0 (gb342 ≠ gb335) := ⟨h11_⟩
  have n12_ : Aside0 (Below w.heap.size w w24) := ⟨h12_⟩
  clear BK331
  clear BK332
  clear BK335
  clear HB
  clear h0_ h1_ h2_ h3_ h4_ h5_ h6_ h7_ h8_ h9_ h10_ h11_ h12_
  have BK331 := n0_
  have BK332 := n1_
  have BK335 := n2_
  have BK342 := n3_
  have GW342 := n4_
  have GE342 := n5_
  have NB331_342 := n6_
  have NB342_331 := n7_
  have NB332_342 := n8_
  have NB342_332 := n9_
  have NB335_342 := n10_
  have NB342_335 := n11_
  have HB := n12_
  clear n0_ n1_ n2_ n3_ n4_ n5_ n6_ n7_ n8_ n9_ n10_ n11_ n12_
  have hHeld : w24.cell? ⟨gb335, 0, none⟩ = some (.int .i64 t333) ∧ w24.cell? ⟨gb335, 1, none⟩ = some (.int .u64 t334) := hS_
  refine norm_ (a' := ?_) ?_ ?_
  rotate_left
  · simp only [putAll, Act.put, List.setIfInBounds_toArray, List.set_cons_zero, List.set_cons_succ]
    rfl
  refine one_ (i := 8) (N := none) #[true, true, true, true, true, true, true, true, true] rfl rfl (one_of HT_.out (by kernel_rfl)) (by decide) (fun K hK => ?_)
  have hs25 : w24.cell? ⟨gb342, 0, none⟩ = some (.int .i64 0) := (blk_cell BK342.out 0).trans rfl
  have hfs25 := blk_frozen BK342.out 0
  have hns25_0 := NB331_342.out
  have hns25_1 := NB332_342.out
  have hns25_2 := NB335_342.out
  have hms25_0 := NB342_331.out
  have hms25_1 := NB342_332.out
  have hms25_2 := NB342_335.out
  have hs26 : w24.cell? ⟨gb342, 1, none⟩ = some (.int .u64 0) := (blk_cell BK342.out 1).trans rfl
  have hfs26 := blk_frozen BK342.out 1
  have hns26_0 := NB331_342.out
  have hns26_1 := NB332_342.out
  have hns26_2 := NB335_342.out
  have hms26_0 := NB342_331.out
  have hms26_1 := NB342_332.out
  have hms26_2 := NB342_335.out
  refine skip_ (w1 := ?_) (by rfl) rfl ?_ ?_
  rotate_left
  · go_simp
    rfl
  refine hK.out _ _ ⟨((cell_far (p := ⟨gb342, _, none⟩) NB335_342.out _).trans (((cell_far (p := ⟨gb342, _, none⟩) NB335_342.out _).trans (hHeld.1)))), ((cell_far (p := ⟨gb342, _, none⟩) NB335_342.out _).trans (((cell_far (p := ⟨gb342, _, none⟩) NB335_342.out _).trans (hHeld.2))))⟩ (fun hHeld => ?_)
  clear hK K
  refine done_ (done_of HT_.out (by kernel_rfl)) ?_
  have hnb27 := NB342_331.out
  have hnc27 := NB331_342.out
  have hnb28 := NB342_332.out
  have hnc28 := NB332_342.out
  have hnb29 := NB342_335.out
  have hnc29 := NB335_342.out
  have hcz30_0 : w24.cell? ⟨gb342, 0, none⟩ = some (.int .i64 0) := (blk_cell BK342.out 0).trans rfl
  have hcz30_1 : w24.cell? ⟨gb342, 1, none⟩ = some (.int .u64 0) := (blk_cell BK342.out 1).trans rfl
  have hfz30_0 := blk_frozen BK342.out 0
  have hfz30_1 := blk_frozen BK342.out 1
  have hcz31_0 : w24.cell? ⟨gb335, 0, none⟩ = some (.int .i64 t333) := (blk_cell BK335.out 0).trans rfl
  have hcz31_1 : w24.cell? ⟨gb335, 1, none⟩ = some (.int .u64 t334) := (blk_cell BK335.out 1).trans rfl
  have hfz31_0 := blk_frozen BK335.out 0
  have hfz31_1 := blk_frozen BK335.out 1
  try go_wp2_with (first | ((with_reducible refine gate_callee (f := 32) rfl ?_); refine goesL_ (some 19) rfl rfl Try.func32 (by kernel_rfl) rfl #[.agg #[.int .i64 t340, .int .u64 t341], .agg #[.int .i64 t333, .int .u64 t334]] rfl (by (try simp only [List.map_toArray, List.map_cons, List.map_nil]); first | done | rfl | (simp only [List.length_drop, List.length_take]; rfl)) ?_; (with_reducible refine (wide_add.calls t340 t341 t333 t334 t343 t344 _ A7.out).mono ?_); rintro e w32 ⟨rfl, hb⟩; refine ⟨_, rfl, ?_⟩; have n0_ := Aside0.mk (blk_below (g := gb331) (o := .cells #[.int .i64 a0_0, .int .u64 a0_1] 24 (0, 0)) (by (with_reducible repeat (first | refine blk_drewN ?_ _ | refine blk_drew ?_ | refine blk_alloc ?_ _)); refine blk_far ?_ NB331_342.out _; (with_reducible repeat (first | refine blk_drewN ?_ _ | refine blk_drew ?_ | refine blk_alloc ?_ _)); refine blk_far ?_ NB331_342.out _; (with_reducible repeat (first | refine blk_drewN ?_ _ | refine blk_drew ?_ | refine blk_alloc ?_ _)); exact BK331.out) hb); have n1_ := Aside0.mk (blk_below (g := gb332) (o := .cells #[.int .i64 0, .int .u64 0] 24 (0, 0)) (by (with_reducible repeat (first | refine blk_drewN ?_ _ | refine blk_drew ?_ | refine blk_alloc ?_ _)); refine blk_far ?_ NB332_342.out _; (with_reducible repeat (first | refine blk_drewN ?_ _ | refine blk_drew ?_ | refine blk_alloc ?_ _)); refine blk_far ?_ NB332_342.out _; (with_reducible repeat (first | refine blk_drewN ?_ _ | refine blk_drew ?_ | refine blk_alloc ?_ _)); exact BK332.out) hb); have n2_ := Aside0.mk (blk_below (g := gb335) (o := .cells #[.int .i64 t333, .int .u64 t334] 24 (0, 0)) (by (with_reducible repeat (first | refine blk_drewN ?_ _ | refine blk_drew ?_ | refine blk_alloc ?_ _)); refine blk_far ?_ NB335_342.out _; (with_reducible repeat (first | refine blk_drewN ?_ _ | refine blk_drew ?_ | refine blk_alloc ?_ _)); refine blk_far ?_ NB335_342.out _; (with_reducible repeat (first | refine blk_drewN ?_ _ | refine blk_drew ?_ | refine blk_alloc ?_ _)); exact BK335.out) hb); have n3_ := Aside0.mk (blk_below (g := gb342) (o := .cells #[.int .i64 t340, .int .u64 t341] 24 (0, 0)) (by (with_reducible repeat (first | refine blk_drewN ?_ _ | refine blk_drew ?_ | refine blk_alloc ?_ _)); refine blk_put (cs := #[.int .i64 t340, .int .u64 0]) ?_ 1 _ rfl; (with_reducible repeat (first | refine blk_drewN ?_ _ | refine blk_drew ?_ | refine blk_alloc ?_ _)); refine blk_put (cs := #[.int .i64 0, .int .u64 0]) ?_ 0 _ rfl; (with_reducible repeat (first | refine blk_drewN ?_ _ | refine blk_drew ?_ | refine blk_alloc ?_ _)); exact BK342.out) hb); have n4_ := Aside0.mk (below_step (by repeat (first | (with_reducible first | exact HB.out | apply below_alloc | apply pw_below_drewN | apply below_drew1 | refine below_set ?_ GE331.out | refine below_set ?_ GE332.out | refine below_set ?_ GE335.out | refine below_set ?_ GE342.out) | exact HB.out)) hb); clear BK331; clear BK332; clear BK335; clear BK342; clear HB; have BK331 := n0_; have BK332 := n1_; have BK335 := n2_; have BK342 := n3_; have HB := n4_; clear n0_ n1_ n2_ n3_ n4_; (try clear hb); (try clear hb2); (try clear hk); (try clear hi)) | ((with_reducible refine gate_callee (f := 32) rfl ?_); refine goesL_ (some 23) rfl rfl Try.func32 (by kernel_rfl) rfl #[.agg #[.int .i64 t343, .int .u64 t344], .agg #[.int .i64 0, .int .u64 (IntKind.u64.wrap (a1))]] rfl (by (try simp only [List.map_toArray, List.map_cons, List.map_nil]); first | done | rfl | (simp only [List.length_drop, List.length_take]; rfl)) ?_; (with_reducible refine (wide_add.calls t343 t344 0 (IntKind.u64.wrap (a1)) t345 t346 _ A8.out).mono ?_); rintro e w33 ⟨rfl, hb⟩; refine ⟨_, rfl, ?_⟩; have n0_ := Aside0.mk (blk_below (g := gb331) (o := .cells #[.int .i64 a0_0, .int .u64 a0_1] 24 (0, 0)) (by (with_reducible repeat (first | refine blk_drewN ?_ _ | refine blk_drew ?_ | refine blk_alloc ?_ _)); exact BK331.out) hb); have n1_ := Aside0.mk (blk_below (g := gb332) (o := .cells #[.int .i64 0, .int .u64 0] 24 (0, 0)) (by (with_reducible repeat (first | refine blk_drewN ?_ _ | refine blk_drew ?_ | refine blk_alloc ?_ _)); exact BK332.out) hb); have n2_ := Aside0.mk (blk_below (g := gb335) (o := .cells #[.int .i64 t333, .int .u64 t334] 24 (0, 0)) (by (with_reducible repeat (first | refine blk_drewN ?_ _ | refine blk_drew ?_ | refine blk_alloc ?_ _)); exact BK335.out) hb); have n3_ := Aside0.mk (blk_below (g := gb342) (o := .cells #[.int .i64 t340, .int .u64 t341] 24 (0, 0)) (by (with_reducible repeat (first | refine blk_drewN ?_ _ | refine blk_drew ?_ | refine blk_alloc ?_ _)); exact BK342.out) hb); have n4_ := Aside0.mk (below_step (by repeat (first | (with_reducible first | exact HB.out | apply below_alloc | apply pw_below_drewN | apply below_drew1 | refine below_set ?_ GE331.out | refine below_set ?_ GE332.out | refine below_set ?_ GE335.out | refine below_set ?_ GE342.out) | exact HB.out)) hb); clear BK331; clear BK332; clear BK335; clear BK342; clear HB; have BK331 := n0_; have BK332 := n1_; have BK335 := n2_; have BK342 := n3_; have HB := n4_; clear n0_ n1_ n2_ n3_ n4_; (try clear hb); (try clear hb2); (try clear hk); (try clear hi); have hcz34_0 : w33.cell? ⟨gb332, 0, none⟩ = some (.int .i64 0) := (blk_cell BK332.out 0).trans rfl; have hcz34_1 : w33.cell? ⟨gb332, 1, none⟩ = some (.int .u64 0) := (blk_cell BK332.out 1).trans rfl; have hfz34_0 := blk_frozen BK332.out 0; have hfz34_1 := blk_frozen BK332.out 1))
  refine bodyPost_ret (results_cell_row rfl _ _ gb332 24 #[.int .i64 t345, .int .u64 t346] (0, 0) _ rfl (by (with_reducible repeat (first | refine blk_drewN ?_ _ | refine blk_drew ?_ | refine blk_alloc ?_ _)); refine blk_put (cs := #[.int .i64 t345, .int .u64 0]) ?_ 1 _ rfl; (with_reducible repeat (first | refine blk_drewN ?_ _ | refine blk_drew ?_ | refine blk_alloc ?_ _)); refine blk_put (cs := #[.int .i64 0, .int .u64 0]) ?_ 0 _ rfl; (with_reducible repeat (first | refine blk_drewN ?_ _ | refine blk_drew ?_ | refine blk_alloc ?_ _)); exact BK332.out) Try.underlying24 rfl (by kernel_rfl)) rfl ?_
  exact ⟨by first | rfl | (simp [errW_none, errW_some] <;> rfl) | (simp [*, errW_none, errW_some] <;> rfl), by repeat (first | (with_reducible first | exact HB.out | apply below_alloc | apply pw_below_drewN | apply below_drew1 | refine below_set ?_ GE331.out | refine below_set ?_ GE332.out | refine below_set ?_ GE335.out | refine below_set ?_ GE342.out) | exact HB.out)⟩

end Go.Proofs.Ytbccokfdkieakaa.F
end
