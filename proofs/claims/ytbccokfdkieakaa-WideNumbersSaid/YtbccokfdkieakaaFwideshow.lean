/- wide.show (a number's decimal digits), in the print's form. -/
import Derived.Test.YtbccokfdkieakaaDecs
namespace Go.Proofs.Ytbccokfdkieakaa.F
open Go Go.RowKit Go.Proofs.YtbccokfdkieakaaW.PrintWords Go.Proofs.YtbccokfdkieakaaW.PrintLast Go.Proofs.YtbccokfdkieakaaW.PrintMore
set_option linter.unusedVariables false
/-- At the head of a round: n letters are written. -/
structure ShowRel (w : World) (g N : Nat) (t4 t5 t6 t8 t9 : Value) (wr : World) : Prop where
  out : ∃ (n : Nat) (i X Y R : Int), n ≤ 39 ∧ i = 40 - n ∧ X = ((qq N n / 18446744073709551616 : Nat) : Int) ∧ Y = ((qq N n % 18446744073709551616 : Nat) : Int) ∧ R = ((rr N n : Nat) : Int) ∧ t4 = .int .u64 X ∧ t5 = .int .u64 Y ∧ t6 = .int .u64 R ∧ t8 = .int .i64 i ∧ t9 = .int .i64 n ∧
    wr.heap[g]? = some (.cells (bcells (List.replicate (40 - n) 0 ++ chars N n)) 61 (0, 0)) ∧ (∀ m', m' < n → 1 ≤ m' → ¬ N / 10 ^ m' = 0) ∧ Below w.heap.size w wr
theorem or_zero {x y : Int} (x0 : 0 ≤ x) (x1 : x < 18446744073709551616) (y0 : 0 ≤ y) (y1 : y < 18446744073709551616) (h : bits .or .u64 x y = 0) : x = 0 ∧ y = 0 := by
  obtain ⟨X, rfl⟩ := Int.eq_ofNat_of_zero_le x0
  obtain ⟨Y, rfl⟩ := Int.eq_ofNat_of_zero_le y0
  rw [bits_or_u64_nat X Y (by omega) (by omega)] at h
  have h0 : X ||| Y = 0 := by omega
  have h1 : X ≤ X ||| Y := Nat.left_le_or
  have h2 : Y ≤ X ||| Y := Nat.right_le_or
  omega
theorem u8_int {a b : Int} (h : a = b) : Value.int .u8 a = .int .u8 b := by rw [h]
theorem ShowRel.step {w wr : World} {g N n : Nat} {i X R Y : Int} (hn : n ≤ 38) (Hg : Aside0 (w.heap.size ≤ g)) (HI : Aside0 (i = 40 - n)) (HG : Aside0 (wr.heap[g]? = some (.cells (bcells (List.replicate (40 - n) 0 ++ chars N n)) 61 (0, 0)))) (HB : Aside0 (Below w.heap.size w wr))
    (HS : Aside0 (∀ m', m' < n + 1 → 1 ≤ m' → ¬ N / 10 ^ m' = 0)) (hX : X = ((qq N (n + 1) / 18446744073709551616 : Nat) : Int)) (hY : Y = ((qq N (n + 1) % 18446744073709551616 : Nat) : Int)) (hR : R = ((rr N (n + 1) : Nat) : Int)) (v : Value) (hv : v = .int .u8 ((48 + N / 10 ^ n % 10 : Nat) : Int)) :
    ShowRel w g N (.int .u64 X) (.int .u64 Y) (.int .u64 R) (.int .i64 (i - 1)) (.int .i64 ((n : Int) + 1)) (wr.setCell ⟨g, i.toNat - 1, none⟩ v) := by
  have hi := HI.out
  have e : i.toNat - 1 = 39 - n := by omega
  subst hv
  refine ⟨n + 1, i - 1, X, Y, R, by omega, by omega, hX, hY, hR, rfl, rfl, rfl, rfl, rfl, ?_, HS.out, HB.out.setCell Hg.out _⟩
  rw [e]
  exact blk_put HG.out _ _ (bcells_put (by omega) _ _)
/-- How many digits a number has. -/
def dlen (N : Nat) : Nat := if N < 10 then 1 else dlen (N / 10) + 1
  termination_by N
  decreasing_by omega
theorem dlen_ok (N : Nat) : 1 ≤ dlen N ∧ N / 10 ^ dlen N = 0 ∧ ∀ n, n < dlen N → 1 ≤ n → ¬ N / 10 ^ n = 0 := by
  induction N using Nat.strongRecOn with
  | ind N ih =>
    rw [dlen]
    by_cases h : N < 10
    · rw [if_pos h]
      exact ⟨by omega, by omega, fun n h1 h2 => by omega⟩
    · rw [if_neg h]
      obtain ⟨h1, h2, h3⟩ := ih (N / 10) (by omega)
      refine ⟨by omega, ?_, fun n hn h4 => ?_⟩
      · rw [Nat.pow_succ, Nat.mul_comm, ← Nat.div_div_eq_div_mul]; exact h2
      · obtain ⟨n, rfl⟩ : ∃ m, n = m + 1 := ⟨n - 1, by omega⟩
        rw [Nat.pow_succ, Nat.mul_comm, ← Nat.div_div_eq_div_mul]
        rcases Nat.eq_zero_or_pos n with h5 | h5
        · subst h5; rw [Nat.pow_zero, Nat.div_one]; omega
        · exact h3 n (by omega) h5
theorem addr_add (g o j : Nat) : (⟨g, o, none⟩ : Addr).add j = ⟨g, o + j, none⟩ := by
  simp only [Addr.add]
  try (split <;> simp_all)
theorem arr_len : Try.prog.arrayLen 61 = 40 := by kernel_rfl
theorem arr_und : Try.prog.underlying 61 = some (.array (Try.prog.arrayLen 61) (Try.prog.elem 61)) := by kernel_rfl
theorem arr_one (W : World) : (sizeOf (Try.prog.elem 61)).run Try.prog W = .ok 1 W := by kernel_rfl
/-- The last letters of the array. -/
theorem slice40 (g n : Nat) (h0 : 1 ≤ n) (h1 : n ≤ 40) (i : Int) (hi : i = 40 - n) (W : World) :
    (Instr.sliceAt 61 (.pointer (some ⟨g, 0, none⟩)) (some (.int .i64 i)) none none).run Try.prog W = .ok (.slice (some ⟨g, 40 - n, none⟩) n n) W := by
  rw [run_sliceAt_array_l (P := Try.prog) W 61 ⟨g, 0, none⟩ arr_und .i64 i (by omega) (by rw [arr_len]; omega), arr_one, arr_len]
  have e : i.toNat = 40 - n := by omega
  simp only [Result.andThen, slicedAt, e]
  rw [if_neg (by omega), show 40 - (40 - n) = n by omega, addr_add]
  simp
theorem reads40 {wr : World} {g n : Nat} (hn : n ≤ 40) {l : List Int} (hl : l.length = n) (h : wr.heap[g]? = some (.cells (bcells (List.replicate (40 - n) 0 ++ l)) 61 (0, 0))) : ReadsOf (Value.int .u8) 0 wr (some ⟨g, 40 - n, none⟩) n l := by
  refine ⟨hl, by omega, fun _ => ⟨_, rfl, fun j hj => ?_⟩⟩
  have := (blk_cell h (40 - n + j)).trans (bcells_at hn l hl hj)
  rw [addr_add]
  exact this
theorem conv40 {wr : World} {g n : Nat} (hn : n ≤ 40) {l : List Int} (hl : l.length = n) (h : wr.heap[g]? = some (.cells (bcells (List.replicate (40 - n) 0 ++ l)) 61 (0, 0))) :
    (convert 64 9 (.slice (some ⟨g, 40 - n, none⟩) n n)).run Try.prog wr = .ok (.string (strOfNums l)) wr :=
  string_of_reads Try.underlying64 Try.underlying5 Try.underlying9 (reads40 hn hl h)
set_option maxHeartbeats 4000000 in
theorem show_pos (h l : Int) (N : Nat) (HN : Aside0 (N < 170141183460469231731687303715884105729)) (HV : Aside0 (wv h l = N)) (Hh : Aside0 (0 ≤ h ∧ h ≤ 9223372036854775807)) (Hl : Aside0 (0 ≤ l ∧ l < 18446744073709551616)) (hd : decide (h < 0) = false) (m : Nat) (hm : Aside0 (1 ≤ m ∧ N / 10 ^ m = 0 ∧ ∀ n, n < m → 1 ≤ n → ¬ N / 10 ^ n = 0)) (w : World) :
    Calls Try.prog 36 #[.agg #[.int .i64 h, .int .u64 l]] w fun e w' => e = .returned (.string (strOfNums (chars N m))) ∧ Below w.heap.size w w' := by
  go_enter Try.func36, Try.ntmps36
  go_wp2_with fail
  go_quiet (fail)
  go_wp2_with fail
  have hgg : w.heap.size ≤ w.heap.size + 1 := Nat.le_succ _
  have hg0 : (((w.alloc (Obj.cells #[Value.int IntKind.i64 h, Value.int IntKind.u64 l] 24)).drewN nq).alloc (.cells #[Value.int IntKind.u8 0, Value.int IntKind.u8 0, Value.int IntKind.u8 0, Value.int IntKind.u8 0, Value.int IntKind.u8 0, Value.int IntKind.u8 0, Value.int IntKind.u8 0, Value.int IntKind.u8 0, Value.int IntKind.u8 0, Value.int IntKind.u8 0, Value.int IntKind.u8 0, Value.int IntKind.u8 0, Value.int IntKind.u8 0, Value.int IntKind.u8 0, Value.int IntKind.u8 0, Value.int IntKind.u8 0, Value.int IntKind.u8 0, Value.int IntKind.u8 0, Value.int IntKind.u8 0, Value.int IntKind.u8 0, Value.int IntKind.u8 0, Value.int IntKind.u8 0, Value.int IntKind.u8 0, Value.int IntKind.u8 0, Value.int IntKind.u8 0, Value.int IntKind.u8 0, Value.int IntKind.u8 0, Value.int IntKind.u8 0, Value.int IntKind.u8 0, Value.int IntKind.u8 0, Value.int IntKind.u8 0, Value.int IntKind.u8 0, Value.int IntKind.u8 0, Value.int IntKind.u8 0, Value.int IntKind.u8 0, Value.int IntKind.u8 0, Value.int IntKind.u8 0, Value.int IntKind.u8 0, Value.int IntKind.u8 0, Value.int IntKind.u8 0] 61)).heap[w.heap.size + 1]? = some (.cells (bcells (List.replicate (40 - 0) 0 ++ chars N 0)) 61 (0, 0)) := by
    have e1 : ((w.alloc (Obj.cells #[Value.int IntKind.i64 h, Value.int IntKind.u64 l] 24)).drewN nq).heap.size = w.heap.size + 1 := by simp
    have e2 : bcells (List.replicate (40 - 0) 0 ++ chars N 0) = #[Value.int IntKind.u8 0, Value.int IntKind.u8 0, Value.int IntKind.u8 0, Value.int IntKind.u8 0, Value.int IntKind.u8 0, Value.int IntKind.u8 0, Value.int IntKind.u8 0, Value.int IntKind.u8 0, Value.int IntKind.u8 0, Value.int IntKind.u8 0, Value.int IntKind.u8 0, Value.int IntKind.u8 0, Value.int IntKind.u8 0, Value.int IntKind.u8 0, Value.int IntKind.u8 0, Value.int IntKind.u8 0, Value.int IntKind.u8 0, Value.int IntKind.u8 0, Value.int IntKind.u8 0, Value.int IntKind.u8 0, Value.int IntKind.u8 0, Value.int IntKind.u8 0, Value.int IntKind.u8 0, Value.int IntKind.u8 0, Value.int IntKind.u8 0, Value.int IntKind.u8 0, Value.int IntKind.u8 0, Value.int IntKind.u8 0, Value.int IntKind.u8 0, Value.int IntKind.u8 0, Value.int IntKind.u8 0, Value.int IntKind.u8 0, Value.int IntKind.u8 0, Value.int IntKind.u8 0, Value.int IntKind.u8 0, Value.int IntKind.u8 0, Value.int IntKind.u8 0, Value.int IntKind.u8 0, Value.int IntKind.u8 0, Value.int IntKind.u8 0] := rfl
    rw [← e1, e2]; exact blk_new _ _
  have hb0 : Below w.heap.size w (((w.alloc (Obj.cells #[Value.int IntKind.i64 h, Value.int IntKind.u64 l] 24)).drewN nq).alloc (.cells #[Value.int IntKind.u8 0, Value.int IntKind.u8 0, Value.int IntKind.u8 0, Value.int IntKind.u8 0, Value.int IntKind.u8 0, Value.int IntKind.u8 0, Value.int IntKind.u8 0, Value.int IntKind.u8 0, Value.int IntKind.u8 0, Value.int IntKind.u8 0, Value.int IntKind.u8 0, Value.int IntKind.u8 0, Value.int IntKind.u8 0, Value.int IntKind.u8 0, Value.int IntKind.u8 0, Value.int IntKind.u8 0, Value.int IntKind.u8 0, Value.int IntKind.u8 0, Value.int IntKind.u8 0, Value.int IntKind.u8 0, Value.int IntKind.u8 0, Value.int IntKind.u8 0, Value.int IntKind.u8 0, Value.int IntKind.u8 0, Value.int IntKind.u8 0, Value.int IntKind.u8 0, Value.int IntKind.u8 0, Value.int IntKind.u8 0, Value.int IntKind.u8 0, Value.int IntKind.u8 0, Value.int IntKind.u8 0, Value.int IntKind.u8 0, Value.int IntKind.u8 0, Value.int IntKind.u8 0, Value.int IntKind.u8 0, Value.int IntKind.u8 0, Value.int IntKind.u8 0, Value.int IntKind.u8 0, Value.int IntKind.u8 0, Value.int IntKind.u8 0] 61)) := (pw_below_drewN ((Below.refl _ _).alloc (Nat.le_refl _) _) _).alloc (by simp) _
  generalize (((w.alloc (Obj.cells #[Value.int IntKind.i64 h, Value.int IntKind.u64 l] 24)).drewN nq).alloc (.cells #[Value.int IntKind.u8 0, Value.int IntKind.u8 0, Value.int IntKind.u8 0, Value.int IntKind.u8 0, Value.int IntKind.u8 0, Value.int IntKind.u8 0, Value.int IntKind.u8 0, Value.int IntKind.u8 0, Value.int IntKind.u8 0, Value.int IntKind.u8 0, Value.int IntKind.u8 0, Value.int IntKind.u8 0, Value.int IntKind.u8 0, Value.int IntKind.u8 0, Value.int IntKind.u8 0, Value.int IntKind.u8 0, Value.int IntKind.u8 0, Value.int IntKind.u8 0, Value.int IntKind.u8 0, Value.int IntKind.u8 0, Value.int IntKind.u8 0, Value.int IntKind.u8 0, Value.int IntKind.u8 0, Value.int IntKind.u8 0, Value.int IntKind.u8 0, Value.int IntKind.u8 0, Value.int IntKind.u8 0, Value.int IntKind.u8 0, Value.int IntKind.u8 0, Value.int IntKind.u8 0, Value.int IntKind.u8 0, Value.int IntKind.u8 0, Value.int IntKind.u8 0, Value.int IntKind.u8 0, Value.int IntKind.u8 0, Value.int IntKind.u8 0, Value.int IntKind.u8 0, Value.int IntKind.u8 0, Value.int IntKind.u8 0, Value.int IntKind.u8 0] 61)) = W at hg0 hb0 ⊢
  have HG := Aside0.mk hg0
  have Hgg := Aside0.mk hgg
  clear hgg
  have HB := Aside0.mk hb0
  clear hg0 hb0
  go_loopw [4, 5, 6, 8, 9] (fun t4 t5 t6 t8 t9 wr => ShowRel w (w.heap.size + 1) N t4 t5 t6 t8 t9 wr) (fun _ _ _ t8 _ _ => (intOf t8).toNat)
  case atStart =>
    have hv := HV.out
    have h0 := Hh.out
    have l0 := Hl.out
    unfold wv at hv
    refine ⟨0, 40, _, _, _, by omega, by omega, ?_, ?_, ?_, rfl, rfl, rfl, rfl, rfl, HG.out, fun m' h1 => absurd h1 (Nat.not_lt_zero _), HB.out⟩
    · rw [qq_zero]; first | omega | (rw [IntKind.wrap_u64]; omega)
    · rw [qq_zero]; omega
    · rw [rr_zero]; rfl
  case round =>
    obtain ⟨n, i, X, Y, R, hn, hi0, hX0, hY0, hR0, rfl, rfl, rfl, rfl, rfl, hg0, hs0, hb0⟩ := hrel
    have HX := Aside0.mk hX0
    have HY := Aside0.mk hY0
    have HR := Aside0.mk hR0
    have HI := Aside0.mk hi0
    have HG := Aside0.mk hg0
    have HB := Aside0.mk hb0
    have HS := Aside0.mk hs0
    have X0 : 0 ≤ X := by omega
    have Y0 : 0 ≤ Y := by omega
    have R0 : 0 ≤ R := by omega
    have R1 : R < 1000000000000000000 := by have := rr_lt N n; omega
    have qN := qq_le N n
    have hNN := HN.out
    have X1 : X < 18446744073709551616 := by omega
    have Y1 : Y < 18446744073709551616 := by omega
    have i1 : 1 ≤ i := by omega
    have i2 : i ≤ 40 := by omega
    clear qN hNN hX0 hY0 hR0 hi0 hg0 hb0 hs0
    by_cases hc : N / 10 ^ n = 0 ∧ 1 ≤ n
    · obtain ⟨hq, hr⟩ := left_zero.1 hc.1
      have hmn : n = m := by
        obtain ⟨m1, m2, m3⟩ := hm.out
        rcases Nat.lt_trichotomy n m with h1 | h1 | h1
        · exact absurd hc.1 (m3 n h1 hc.2)
        · exact h1
        · exact absurd m2 (HS.out m h1 m1)
      obtain rfl : X = 0 := by rw [HX.out, hq]; rfl
      obtain rfl : Y = 0 := by rw [HY.out, hq]; rfl
      obtain rfl : R = 0 := by rw [HR.out, hr]; rfl
      subst hmn
      have k0 : bits .or .u64 0 0 = 0 := by decide
      have k1 : (i == 40) = false := beq_eq_false_iff_ne.2 (by have := HI.out; omega)
      clear hq hr HX HY HR
      obtain ⟨hc0, hc1⟩ := hc
      clear hc0
      have hsl := slice40 (w.heap.size + 1) n hc1 (by omega) i HI.out
      have kc := conv40 (by omega) (chars_len N n) HG.out
      go_wp2_with fail
      go_ret
      exact ⟨rfl, HB.out⟩
    · have hn38 : n ≤ 38 := by
        by_cases h0 : N / 10 ^ n = 0
        · have : n = 0 := by
            rcases Nat.eq_zero_or_pos n with h1 | h1
            · exact h1
            · exact absurd ⟨h0, h1⟩ hc
          omega
        · have := left_of (N := N) (by have := HN.out; have e : (10 : Nat) ^ 39 = 1000000000000000000000000000000000000000 := rfl; omega) h0
          omega
      have HC := Aside0.mk hc
      have HS' : Aside0 (∀ m', m' < n + 1 → 1 ≤ m' → ¬ N / 10 ^ m' = 0) := ⟨fun m' h1 h2 h3 => by
        rcases Nat.lt_or_ge m' n with h4 | h4
        · exact HS.out m' h4 h2 h3
        · have : m' = n := by omega
          subst this
          exact hc ⟨h3, h2⟩⟩
      clear hc
      have q1 : 0 ≤ i - 1 := by omega
      have hx0 : wr.cell? ⟨w.heap.size + 1, i.toNat - 1, none⟩ = some (.int .u8 0) := by
        rw [blk_cell HG.out, bcells_get _ (by have := HI.out; omega)]
      have hf0 : wr.frozen? ⟨w.heap.size + 1, i.toNat - 1, none⟩ = false := blk_frozen HG.out _
      obtain ⟨Zo, hZ⟩ : ∃ z, bits .or .u64 X Y = z := ⟨_, rfl⟩
      have hZ0 : Zo = 0 → X = 0 ∧ Y = 0 := fun h => or_zero X0 X1 Y0 Y1 (hZ.trans h)
      by_cases z : Zo = 0
      · obtain ⟨x0, y0⟩ := hZ0 z
        have z1 : (Zo == 0) = true := beq_iff_eq.2 z
        have z2 : (Zo != 0) = false := by rw [bne, z1]; rfl
        by_cases r : R = 0
        · have z3 : (R == 0) = true := beq_iff_eq.2 r
          have z4 : (R != 0) = false := by rw [bne, z3]; rfl
          have hn0 : n = 0 := by
            have hq : qq N n = 0 := by have e1 := HX.out; have e2 := HY.out; omega
            have hr : rr N n = 0 := by have e1 := HR.out; omega
            rcases Nat.eq_zero_or_pos n with h1 | h1
            · exact h1
            · exact absurd ⟨left_zero.2 ⟨hq, hr⟩, h1⟩ HC.out
          subst hn0 r x0 y0
          obtain rfl : i = 40 := by have := HI.out; omega
          have k0 : bits .or .u64 0 0 = 0 := by decide
          clear hZ0 hZ z z1 z2 z3 z4 hx0 hf0
          have hcut := cut_f (qq N 0) (by have := qq_le N 0; have := HN.out; omega)
          obtain ⟨X', hX'⟩ : ∃ z, ((qq N 0 / 1000000000000000000 / 18446744073709551616 : Nat) : Int) = z := ⟨_, rfl⟩
          obtain ⟨Y', hY'⟩ : ∃ z, ((qq N 0 / 1000000000000000000 % 18446744073709551616 : Nat) : Int) = z := ⟨_, rfl⟩
          obtain ⟨R', hR'⟩ : ∃ z, ((qq N 0 % 1000000000000000000 : Nat) : Int) = z := ⟨_, rfl⟩
          rw [← HX.out, ← HY.out, hX', hY', hR'] at hcut
          have r0 : 0 ≤ R' := by omega
          have r1 : R' < 1000000000000000000 := by omega
          have HC18 := Aside0.mk hcut
          have E18 := Aside0.mk (show 0 % 18 = 0 from rfl)
          have HX' := Aside0.mk hX'
          have HY' := Aside0.mk hY'
          have HR' := Aside0.mk hR'
          clear hcut hX' hY' hR'
          go_wp2_with fail
          refine (wide_cut.calls 0 0 1000000000000000000 _ _ _ _ HC18.out).mono ?_
          rintro e wq ⟨rfl, hb⟩
          have HG1 := Aside0.mk (blk_below HG.out hb)
          have HB1 := Aside0.mk (below_then HB.out HB.out.size hb)
          clear hb
          have hx0 : wq.cell? ⟨w.heap.size + 1, 39, none⟩ = some (.int .u8 0) := by
            rw [blk_cell HG1.out, bcells_get _ (by omega)]
          have hf0 : wq.frozen? ⟨w.heap.size + 1, 39, none⟩ = false := blk_frozen HG1.out _
          go_wp2_with fail
          go_roundw
          case rel =>
            have e3 := HR'.out
            have e4 := dig_new (N := N) (show 0 % 18 = 0 from rfl)
            have e5 := rr_new (N := N) (show 0 % 18 = 0 from rfl)
            have e6 := qq_new (N := N) (show 0 % 18 = 0 from rfl)
            refine ShowRel.step hn38 Hgg HI HG1 HB1 HS' (by rw [e6, ← HX'.out]) (by rw [e6, ← HY'.out]) (by rw [e5]; omega) _ (u8_int ?_)
            first | omega | (simp only [IntKind.wrap_u8', IntKind.wrap_u64]; omega)
          case measure => simp [intOf]
        · have z3 : (R == 0) = false := beq_eq_false_iff_ne.2 r
          have z4 : (R != 0) = true := by rw [bne, z3]; rfl
          clear hZ0 z r x0 y0
          by_cases hm18 : n % 18 = 0
          · skip
            have e1 : ((n : Int) % 18 == 0) = true := beq_iff_eq.2 (by omega)
            have hcut := cut_f (qq N n) (by have := qq_le N n; have := HN.out; omega)
            obtain ⟨X', hX'⟩ : ∃ z, ((qq N n / 1000000000000000000 / 18446744073709551616 : Nat) : Int) = z := ⟨_, rfl⟩
            obtain ⟨Y', hY'⟩ : ∃ z, ((qq N n / 1000000000000000000 % 18446744073709551616 : Nat) : Int) = z := ⟨_, rfl⟩
            obtain ⟨R', hR'⟩ : ∃ z, ((qq N n % 1000000000000000000 : Nat) : Int) = z := ⟨_, rfl⟩
            rw [← HX.out, ← HY.out, hX', hY', hR'] at hcut
            have r0 : 0 ≤ R' := by omega
            have r1 : R' < 1000000000000000000 := by omega
            have HC18 := Aside0.mk hcut
            have E18 := Aside0.mk hm18
            have HX' := Aside0.mk hX'
            have HY' := Aside0.mk hY'
            have HR' := Aside0.mk hR'
            clear hcut hm18 hx0 hf0 hX' hY' hR'
            go_wp2_with fail
            refine (wide_cut.calls X Y 1000000000000000000 _ _ _ _ HC18.out).mono ?_
            rintro e wq ⟨rfl, hb⟩
            have HG1 := Aside0.mk (blk_below HG.out hb)
            have HB1 := Aside0.mk (below_then HB.out HB.out.size hb)
            clear hb
            have hx0 : wq.cell? ⟨w.heap.size + 1, i.toNat - 1, none⟩ = some (.int .u8 0) := by
              rw [blk_cell HG1.out, bcells_get _ (by have := HI.out; omega)]
            have hf0 : wq.frozen? ⟨w.heap.size + 1, i.toNat - 1, none⟩ = false := blk_frozen HG1.out _
            go_wp2_with fail
            go_roundw
            case rel =>
              have e3 := HR'.out
              have e4 := dig_new (N := N) E18.out
              have e5 := rr_new (N := N) E18.out
              have e6 := qq_new (N := N) E18.out
              refine ShowRel.step hn38 Hgg HI HG1 HB1 HS' (by rw [e6, ← HX'.out]) (by rw [e6, ← HY'.out]) (by rw [e5]; omega) _ (u8_int ?_)
              first | omega | (simp only [IntKind.wrap_u8', IntKind.wrap_u64]; omega)
            case measure => simp [intOf]; omega
          · skip
            have e1 : ((n : Int) % 18 == 0) = false := beq_eq_false_iff_ne.2 (by omega)
            have E18 := Aside0.mk hm18
            clear hm18
            go_wp2_with fail
            go_roundw
            case rel =>
              have e3 := HR.out
              have e4 := dig_old (N := N) E18.out
              have e5 := rr_old (N := N) E18.out
              have e6 := qq_old (N := N) E18.out
              refine ShowRel.step hn38 Hgg HI HG HB HS' (by rw [e6, ← HX.out]) (by rw [e6, ← HY.out]) (by rw [e5]; omega) _ (u8_int ?_)
              first | omega | (simp only [IntKind.wrap_u8', IntKind.wrap_u64]; omega)
            case measure => simp [intOf]; omega
      · have z1 : (Zo == 0) = false := beq_eq_false_iff_ne.2 z
        have z2 : (Zo != 0) = true := by rw [bne, z1]; rfl
        clear hZ0 z
        by_cases hm18 : n % 18 = 0
        · skip
          have e1 : ((n : Int) % 18 == 0) = true := beq_iff_eq.2 (by omega)
          have hcut := cut_f (qq N n) (by have := qq_le N n; have := HN.out; omega)
          obtain ⟨X', hX'⟩ : ∃ z, ((qq N n / 1000000000000000000 / 18446744073709551616 : Nat) : Int) = z := ⟨_, rfl⟩
          obtain ⟨Y', hY'⟩ : ∃ z, ((qq N n / 1000000000000000000 % 18446744073709551616 : Nat) : Int) = z := ⟨_, rfl⟩
          obtain ⟨R', hR'⟩ : ∃ z, ((qq N n % 1000000000000000000 : Nat) : Int) = z := ⟨_, rfl⟩
          rw [← HX.out, ← HY.out, hX', hY', hR'] at hcut
          have r0 : 0 ≤ R' := by omega
          have r1 : R' < 1000000000000000000 := by omega
          have HC18 := Aside0.mk hcut
          have E18 := Aside0.mk hm18
          have HX' := Aside0.mk hX'
          have HY' := Aside0.mk hY'
          have HR' := Aside0.mk hR'
          clear hcut hm18 hx0 hf0 hX' hY' hR'
          go_wp2_with fail
          refine (wide_cut.calls X Y 1000000000000000000 _ _ _ _ HC18.out).mono ?_
          rintro e wq ⟨rfl, hb⟩
          have HG1 := Aside0.mk (blk_below HG.out hb)
          have HB1 := Aside0.mk (below_then HB.out HB.out.size hb)
          clear hb
          have hx0 : wq.cell? ⟨w.heap.size + 1, i.toNat - 1, none⟩ = some (.int .u8 0) := by
            rw [blk_cell HG1.out, bcells_get _ (by have := HI.out; omega)]
          have hf0 : wq.frozen? ⟨w.heap.size + 1, i.toNat - 1, none⟩ = false := blk_frozen HG1.out _
          go_wp2_with fail
          go_roundw
          case rel =>
            have e3 := HR'.out
            have e4 := dig_new (N := N) E18.out
            have e5 := rr_new (N := N) E18.out
            have e6 := qq_new (N := N) E18.out
            refine ShowRel.step hn38 Hgg HI HG1 HB1 HS' (by rw [e6, ← HX'.out]) (by rw [e6, ← HY'.out]) (by rw [e5]; omega) _ (u8_int ?_)
            first | omega | (simp only [IntKind.wrap_u8', IntKind.wrap_u64]; omega)
          case measure => simp [intOf]; omega
        · skip
          have e1 : ((n : Int) % 18 == 0) = false := beq_eq_false_iff_ne.2 (by omega)
          have E18 := Aside0.mk hm18
          clear hm18
          go_wp2_with fail
          go_roundw
          case rel =>
            have e3 := HR.out
            have e4 := dig_old (N := N) E18.out
            have e5 := rr_old (N := N) E18.out
            have e6 := qq_old (N := N) E18.out
            refine ShowRel.step hn38 Hgg HI HG HB HS' (by rw [e6, ← HX.out]) (by rw [e6, ← HY.out]) (by rw [e5]; omega) _ (u8_int ?_)
            first | omega | (simp only [IntKind.wrap_u8', IntKind.wrap_u64]; omega)
          case measure => simp [intOf]; omega
set_option maxHeartbeats 4000000 in
theorem show_neg (h l p q : Int) (N : Nat) (HN : Aside0 (N < 170141183460469231731687303715884105729)) (Hs : Aside0 (wide_sub.f 0 0 h l = some (p, q))) (HV : Aside0 (IntKind.u64.wrap p * 18446744073709551616 + q = N)) (Hl : Aside0 (0 ≤ q ∧ q < 18446744073709551616)) (hd : decide (h < 0) = true) (m : Nat) (hm : Aside0 (1 ≤ m ∧ N / 10 ^ m = 0 ∧ ∀ n, n < m → 1 ≤ n → ¬ N / 10 ^ n = 0)) (w : World) :
    Calls Try.prog 36 #[.agg #[.int .i64 h, .int .u64 l]] w fun e w' => e = .returned (.string (strOfNums (45 :: chars N m))) ∧ Below w.heap.size w w' := by
  go_enter Try.func36, Try.ntmps36
  go_wp2_with fail
  have n0 : (w.alloc (Obj.cells #[Value.int IntKind.i64 h, Value.int IntKind.u64 l] 24)).heap[w.heap.size]? = some (.cells #[Value.int IntKind.i64 h, Value.int IntKind.u64 l] 24 (0, 0)) := blk_new _ _
  have bw : Below w.heap.size w (w.alloc (Obj.cells #[Value.int IntKind.i64 h, Value.int IntKind.u64 l] 24)) := (Below.refl _ _).alloc (Nat.le_refl _) _
  generalize (w.alloc (Obj.cells #[Value.int IntKind.i64 h, Value.int IntKind.u64 l] 24)) = W0 at n0 bw ⊢
  refine (wide_sub.calls 0 0 h l p q _ Hs.out).mono ?_
  rintro e w1 ⟨rfl, hb⟩
  have N1 := Aside0.mk (blk_below n0 hb)
  have B1 := Aside0.mk (below_then bw bw.size hb)
  clear n0 bw hb
  have c0 : w1.cell? ⟨w.heap.size, 0, none⟩ = some (.int .i64 h) := (blk_cell N1.out 0).trans rfl
  have c1 : w1.cell? ⟨w.heap.size, 1, none⟩ = some (.int .u64 l) := (blk_cell N1.out 1).trans rfl
  have f0 := blk_frozen N1.out 0
  have f1 := blk_frozen N1.out 1
  go_wp2_with fail
  have N2 := Aside0.mk (blk_put (cs := #[.int .i64 p, .int .u64 l]) (blk_put (cs := #[.int .i64 h, .int .u64 l]) N1.out 0 (.int .i64 p) rfl) 1 (.int .u64 q) rfl)
  have B2 := Aside0.mk ((B1.out.setCell (p := ⟨w.heap.size, 0, none⟩) (Nat.le_refl _) (.int .i64 p)).setCell (p := ⟨w.heap.size, 1, none⟩) (Nat.le_refl _) (.int .u64 q))
  generalize ((w1.setCell ⟨w.heap.size, 0, none⟩ (.int .i64 p)).setCell ⟨w.heap.size, 1, none⟩ (.int .u64 q)) = W1 at N2 B2 ⊢
  clear c0 c1 f0 f1
  have c0 : W1.cell? ⟨w.heap.size, 0, none⟩ = some (.int .i64 p) := (blk_cell N2.out 0).trans rfl
  have c1 : W1.cell? ⟨w.heap.size, 1, none⟩ = some (.int .u64 q) := (blk_cell N2.out 1).trans rfl
  go_quiet (fail)
  go_wp2_with fail
  have hgg : w.heap.size ≤ W1.heap.size := B2.out.size
  have hg0 : ((W1.drewN nq).alloc (.cells #[Value.int IntKind.u8 0, Value.int IntKind.u8 0, Value.int IntKind.u8 0, Value.int IntKind.u8 0, Value.int IntKind.u8 0, Value.int IntKind.u8 0, Value.int IntKind.u8 0, Value.int IntKind.u8 0, Value.int IntKind.u8 0, Value.int IntKind.u8 0, Value.int IntKind.u8 0, Value.int IntKind.u8 0, Value.int IntKind.u8 0, Value.int IntKind.u8 0, Value.int IntKind.u8 0, Value.int IntKind.u8 0, Value.int IntKind.u8 0, Value.int IntKind.u8 0, Value.int IntKind.u8 0, Value.int IntKind.u8 0, Value.int IntKind.u8 0, Value.int IntKind.u8 0, Value.int IntKind.u8 0, Value.int IntKind.u8 0, Value.int IntKind.u8 0, Value.int IntKind.u8 0, Value.int IntKind.u8 0, Value.int IntKind.u8 0, Value.int IntKind.u8 0, Value.int IntKind.u8 0, Value.int IntKind.u8 0, Value.int IntKind.u8 0, Value.int IntKind.u8 0, Value.int IntKind.u8 0, Value.int IntKind.u8 0, Value.int IntKind.u8 0, Value.int IntKind.u8 0, Value.int IntKind.u8 0, Value.int IntKind.u8 0, Value.int IntKind.u8 0] 61)).heap[W1.heap.size]? = some (.cells (bcells (List.replicate (40 - 0) 0 ++ chars N 0)) 61 (0, 0)) := by
    have e1 : (W1.drewN nq).heap.size = W1.heap.size := by simp
    have e2 : bcells (List.replicate (40 - 0) 0 ++ chars N 0) = #[Value.int IntKind.u8 0, Value.int IntKind.u8 0, Value.int IntKind.u8 0, Value.int IntKind.u8 0, Value.int IntKind.u8 0, Value.int IntKind.u8 0, Value.int IntKind.u8 0, Value.int IntKind.u8 0, Value.int IntKind.u8 0, Value.int IntKind.u8 0, Value.int IntKind.u8 0, Value.int IntKind.u8 0, Value.int IntKind.u8 0, Value.int IntKind.u8 0, Value.int IntKind.u8 0, Value.int IntKind.u8 0, Value.int IntKind.u8 0, Value.int IntKind.u8 0, Value.int IntKind.u8 0, Value.int IntKind.u8 0, Value.int IntKind.u8 0, Value.int IntKind.u8 0, Value.int IntKind.u8 0, Value.int IntKind.u8 0, Value.int IntKind.u8 0, Value.int IntKind.u8 0, Value.int IntKind.u8 0, Value.int IntKind.u8 0, Value.int IntKind.u8 0, Value.int IntKind.u8 0, Value.int IntKind.u8 0, Value.int IntKind.u8 0, Value.int IntKind.u8 0, Value.int IntKind.u8 0, Value.int IntKind.u8 0, Value.int IntKind.u8 0, Value.int IntKind.u8 0, Value.int IntKind.u8 0, Value.int IntKind.u8 0, Value.int IntKind.u8 0] := rfl
    rw [← e1, e2]; exact blk_new _ _
  have hb0 : Below w.heap.size w ((W1.drewN nq).alloc (.cells #[Value.int IntKind.u8 0, Value.int IntKind.u8 0, Value.int IntKind.u8 0, Value.int IntKind.u8 0, Value.int IntKind.u8 0, Value.int IntKind.u8 0, Value.int IntKind.u8 0, Value.int IntKind.u8 0, Value.int IntKind.u8 0, Value.int IntKind.u8 0, Value.int IntKind.u8 0, Value.int IntKind.u8 0, Value.int IntKind.u8 0, Value.int IntKind.u8 0, Value.int IntKind.u8 0, Value.int IntKind.u8 0, Value.int IntKind.u8 0, Value.int IntKind.u8 0, Value.int IntKind.u8 0, Value.int IntKind.u8 0, Value.int IntKind.u8 0, Value.int IntKind.u8 0, Value.int IntKind.u8 0, Value.int IntKind.u8 0, Value.int IntKind.u8 0, Value.int IntKind.u8 0, Value.int IntKind.u8 0, Value.int IntKind.u8 0, Value.int IntKind.u8 0, Value.int IntKind.u8 0, Value.int IntKind.u8 0, Value.int IntKind.u8 0, Value.int IntKind.u8 0, Value.int IntKind.u8 0, Value.int IntKind.u8 0, Value.int IntKind.u8 0, Value.int IntKind.u8 0, Value.int IntKind.u8 0, Value.int IntKind.u8 0, Value.int IntKind.u8 0] 61)) := (pw_below_drewN B2.out _).alloc (B2.out.size) _
  generalize ((W1.drewN nq).alloc (.cells #[Value.int IntKind.u8 0, Value.int IntKind.u8 0, Value.int IntKind.u8 0, Value.int IntKind.u8 0, Value.int IntKind.u8 0, Value.int IntKind.u8 0, Value.int IntKind.u8 0, Value.int IntKind.u8 0, Value.int IntKind.u8 0, Value.int IntKind.u8 0, Value.int IntKind.u8 0, Value.int IntKind.u8 0, Value.int IntKind.u8 0, Value.int IntKind.u8 0, Value.int IntKind.u8 0, Value.int IntKind.u8 0, Value.int IntKind.u8 0, Value.int IntKind.u8 0, Value.int IntKind.u8 0, Value.int IntKind.u8 0, Value.int IntKind.u8 0, Value.int IntKind.u8 0, Value.int IntKind.u8 0, Value.int IntKind.u8 0, Value.int IntKind.u8 0, Value.int IntKind.u8 0, Value.int IntKind.u8 0, Value.int IntKind.u8 0, Value.int IntKind.u8 0, Value.int IntKind.u8 0, Value.int IntKind.u8 0, Value.int IntKind.u8 0, Value.int IntKind.u8 0, Value.int IntKind.u8 0, Value.int IntKind.u8 0, Value.int IntKind.u8 0, Value.int IntKind.u8 0, Value.int IntKind.u8 0, Value.int IntKind.u8 0, Value.int IntKind.u8 0] 61)) = W at hg0 hb0 ⊢
  have HG := Aside0.mk hg0
  have Hgg := Aside0.mk hgg
  clear hgg
  have HB := Aside0.mk hb0
  clear hg0 hb0
  go_loopw [4, 5, 6, 8, 9] (fun t4 t5 t6 t8 t9 wr => ShowRel w (W1.heap.size) N t4 t5 t6 t8 t9 wr) (fun _ _ _ t8 _ _ => (intOf t8).toNat)
  case atStart =>
    have hv := HV.out
    have l0 := Hl.out
    have h0 := IntKind.wrap_u64 p
    refine ⟨0, 40, _, _, _, by omega, by omega, ?_, ?_, ?_, rfl, rfl, rfl, rfl, rfl, HG.out, fun m' h1 => absurd h1 (Nat.not_lt_zero _), HB.out⟩
    · rw [qq_zero]; omega
    · rw [qq_zero]; omega
    · rw [rr_zero]; rfl
  case round =>
    obtain ⟨n, i, X, Y, R, hn, hi0, hX0, hY0, hR0, rfl, rfl, rfl, rfl, rfl, hg0, hs0, hb0⟩ := hrel
    have HX := Aside0.mk hX0
    have HY := Aside0.mk hY0
    have HR := Aside0.mk hR0
    have HI := Aside0.mk hi0
    have HG := Aside0.mk hg0
    have HB := Aside0.mk hb0
    have HS := Aside0.mk hs0
    have X0 : 0 ≤ X := by omega
    have Y0 : 0 ≤ Y := by omega
    have R0 : 0 ≤ R := by omega
    have R1 : R < 1000000000000000000 := by have := rr_lt N n; omega
    have qN := qq_le N n
    have hNN := HN.out
    have X1 : X < 18446744073709551616 := by omega
    have Y1 : Y < 18446744073709551616 := by omega
    have i1 : 1 ≤ i := by omega
    have i2 : i ≤ 40 := by omega
    clear qN hNN hX0 hY0 hR0 hi0 hg0 hb0 hs0
    by_cases hc : N / 10 ^ n = 0 ∧ 1 ≤ n
    · obtain ⟨hq, hr⟩ := left_zero.1 hc.1
      have hmn : n = m := by
        obtain ⟨m1, m2, m3⟩ := hm.out
        rcases Nat.lt_trichotomy n m with h1 | h1 | h1
        · exact absurd hc.1 (m3 n h1 hc.2)
        · exact h1
        · exact absurd m2 (HS.out m h1 m1)
      obtain rfl : X = 0 := by rw [HX.out, hq]; rfl
      obtain rfl : Y = 0 := by rw [HY.out, hq]; rfl
      obtain rfl : R = 0 := by rw [HR.out, hr]; rfl
      subst hmn
      have k0 : bits .or .u64 0 0 = 0 := by decide
      have k1 : (i == 40) = false := beq_eq_false_iff_ne.2 (by have := HI.out; omega)
      clear hq hr HX HY HR
      obtain ⟨hc0, hc1⟩ := hc
      clear hc0
      have hx0 : wr.cell? ⟨W1.heap.size, i.toNat - 1, none⟩ = some (.int .u8 0) := by
        rw [blk_cell HG.out, bcells_get _ (by have := HI.out; omega)]
      have hf0 : wr.frozen? ⟨W1.heap.size, i.toNat - 1, none⟩ = false := blk_frozen HG.out _
      have q1 : 0 ≤ i - 1 := by omega
      have hn40 : n + 1 ≤ 40 := by omega
      have hsl := slice40 (W1.heap.size) (n + 1) (by omega) hn40 (i - 1) (by have := HI.out; omega)
      have e39 : i.toNat - 1 = 39 - n := by have := HI.out; omega
      have HG2 : (wr.setCell ⟨W1.heap.size, i.toNat - 1, none⟩ (.int .u8 45)).heap[W1.heap.size]? = some (.cells (bcells (List.replicate (40 - (n + 1)) 0 ++ (45 :: chars N n))) 61 (0, 0)) := by
        rw [e39]
        exact blk_put HG.out _ _ (bcells_put (by omega) _ _)
      have kc := conv40 hn40 (by rw [List.length_cons, chars_len]) HG2
      rw [show 40 - (n + 1) = 39 - n by omega] at kc
      have HB2 := Aside0.mk (HB.out.setCell (p := ⟨W1.heap.size, i.toNat - 1, none⟩) Hgg.out (.int .u8 45))
      clear HG2 e39
      go_wp2_with fail
      go_ret
      exact ⟨rfl, HB2.out⟩
    · have hn38 : n ≤ 38 := by
        by_cases h0 : N / 10 ^ n = 0
        · have : n = 0 := by
            rcases Nat.eq_zero_or_pos n with h1 | h1
            · exact h1
            · exact absurd ⟨h0, h1⟩ hc
          omega
        · have := left_of (N := N) (by have := HN.out; have e : (10 : Nat) ^ 39 = 1000000000000000000000000000000000000000 := rfl; omega) h0
          omega
      have HC := Aside0.mk hc
      have HS' : Aside0 (∀ m', m' < n + 1 → 1 ≤ m' → ¬ N / 10 ^ m' = 0) := ⟨fun m' h1 h2 h3 => by
        rcases Nat.lt_or_ge m' n with h4 | h4
        · exact HS.out m' h4 h2 h3
        · have : m' = n := by omega
          subst this
          exact hc ⟨h3, h2⟩⟩
      clear hc
      have q1 : 0 ≤ i - 1 := by omega
      have hx0 : wr.cell? ⟨W1.heap.size, i.toNat - 1, none⟩ = some (.int .u8 0) := by
        rw [blk_cell HG.out, bcells_get _ (by have := HI.out; omega)]
      have hf0 : wr.frozen? ⟨W1.heap.size, i.toNat - 1, none⟩ = false := blk_frozen HG.out _
      obtain ⟨Zo, hZ⟩ : ∃ z, bits .or .u64 X Y = z := ⟨_, rfl⟩
      have hZ0 : Zo = 0 → X = 0 ∧ Y = 0 := fun h => or_zero X0 X1 Y0 Y1 (hZ.trans h)
      by_cases z : Zo = 0
      · obtain ⟨x0, y0⟩ := hZ0 z
        have z1 : (Zo == 0) = true := beq_iff_eq.2 z
        have z2 : (Zo != 0) = false := by rw [bne, z1]; rfl
        by_cases r : R = 0
        · have z3 : (R == 0) = true := beq_iff_eq.2 r
          have z4 : (R != 0) = false := by rw [bne, z3]; rfl
          have hn0 : n = 0 := by
            have hq : qq N n = 0 := by have e1 := HX.out; have e2 := HY.out; omega
            have hr : rr N n = 0 := by have e1 := HR.out; omega
            rcases Nat.eq_zero_or_pos n with h1 | h1
            · exact h1
            · exact absurd ⟨left_zero.2 ⟨hq, hr⟩, h1⟩ HC.out
          subst hn0 r x0 y0
          obtain rfl : i = 40 := by have := HI.out; omega
          have k0 : bits .or .u64 0 0 = 0 := by decide
          clear hZ0 hZ z z1 z2 z3 z4 hx0 hf0
          have hcut := cut_f (qq N 0) (by have := qq_le N 0; have := HN.out; omega)
          obtain ⟨X', hX'⟩ : ∃ z, ((qq N 0 / 1000000000000000000 / 18446744073709551616 : Nat) : Int) = z := ⟨_, rfl⟩
          obtain ⟨Y', hY'⟩ : ∃ z, ((qq N 0 / 1000000000000000000 % 18446744073709551616 : Nat) : Int) = z := ⟨_, rfl⟩
          obtain ⟨R', hR'⟩ : ∃ z, ((qq N 0 % 1000000000000000000 : Nat) : Int) = z := ⟨_, rfl⟩
          rw [← HX.out, ← HY.out, hX', hY', hR'] at hcut
          have r0 : 0 ≤ R' := by omega
          have r1 : R' < 1000000000000000000 := by omega
          have HC18 := Aside0.mk hcut
          have E18 := Aside0.mk (show 0 % 18 = 0 from rfl)
          have HX' := Aside0.mk hX'
          have HY' := Aside0.mk hY'
          have HR' := Aside0.mk hR'
          clear hcut hX' hY' hR'
          go_wp2_with fail
          refine (wide_cut.calls 0 0 1000000000000000000 _ _ _ _ HC18.out).mono ?_
          rintro e wq ⟨rfl, hb⟩
          have HG1 := Aside0.mk (blk_below HG.out hb)
          have HB1 := Aside0.mk (below_then HB.out HB.out.size hb)
          clear hb
          have hx0 : wq.cell? ⟨W1.heap.size, 39, none⟩ = some (.int .u8 0) := by
            rw [blk_cell HG1.out, bcells_get _ (by omega)]
          have hf0 : wq.frozen? ⟨W1.heap.size, 39, none⟩ = false := blk_frozen HG1.out _
          go_wp2_with fail
          go_roundw
          case rel =>
            have e3 := HR'.out
            have e4 := dig_new (N := N) (show 0 % 18 = 0 from rfl)
            have e5 := rr_new (N := N) (show 0 % 18 = 0 from rfl)
            have e6 := qq_new (N := N) (show 0 % 18 = 0 from rfl)
            refine ShowRel.step hn38 Hgg HI HG1 HB1 HS' (by rw [e6, ← HX'.out]) (by rw [e6, ← HY'.out]) (by rw [e5]; omega) _ (u8_int ?_)
            first | omega | (simp only [IntKind.wrap_u8', IntKind.wrap_u64]; omega)
          case measure => simp [intOf]
        · have z3 : (R == 0) = false := beq_eq_false_iff_ne.2 r
          have z4 : (R != 0) = true := by rw [bne, z3]; rfl
          clear hZ0 z r x0 y0
          by_cases hm18 : n % 18 = 0
          · skip
            have e1 : ((n : Int) % 18 == 0) = true := beq_iff_eq.2 (by omega)
            have hcut := cut_f (qq N n) (by have := qq_le N n; have := HN.out; omega)
            obtain ⟨X', hX'⟩ : ∃ z, ((qq N n / 1000000000000000000 / 18446744073709551616 : Nat) : Int) = z := ⟨_, rfl⟩
            obtain ⟨Y', hY'⟩ : ∃ z, ((qq N n / 1000000000000000000 % 18446744073709551616 : Nat) : Int) = z := ⟨_, rfl⟩
            obtain ⟨R', hR'⟩ : ∃ z, ((qq N n % 1000000000000000000 : Nat) : Int) = z := ⟨_, rfl⟩
            rw [← HX.out, ← HY.out, hX', hY', hR'] at hcut
            have r0 : 0 ≤ R' := by omega
            have r1 : R' < 1000000000000000000 := by omega
            have HC18 := Aside0.mk hcut
            have E18 := Aside0.mk hm18
            have HX' := Aside0.mk hX'
            have HY' := Aside0.mk hY'
            have HR' := Aside0.mk hR'
            clear hcut hm18 hx0 hf0 hX' hY' hR'
            go_wp2_with fail
            refine (wide_cut.calls X Y 1000000000000000000 _ _ _ _ HC18.out).mono ?_
            rintro e wq ⟨rfl, hb⟩
            have HG1 := Aside0.mk (blk_below HG.out hb)
            have HB1 := Aside0.mk (below_then HB.out HB.out.size hb)
            clear hb
            have hx0 : wq.cell? ⟨W1.heap.size, i.toNat - 1, none⟩ = some (.int .u8 0) := by
              rw [blk_cell HG1.out, bcells_get _ (by have := HI.out; omega)]
            have hf0 : wq.frozen? ⟨W1.heap.size, i.toNat - 1, none⟩ = false := blk_frozen HG1.out _
            go_wp2_with fail
            go_roundw
            case rel =>
              have e3 := HR'.out
              have e4 := dig_new (N := N) E18.out
              have e5 := rr_new (N := N) E18.out
              have e6 := qq_new (N := N) E18.out
              refine ShowRel.step hn38 Hgg HI HG1 HB1 HS' (by rw [e6, ← HX'.out]) (by rw [e6, ← HY'.out]) (by rw [e5]; omega) _ (u8_int ?_)
              first | omega | (simp only [IntKind.wrap_u8', IntKind.wrap_u64]; omega)
            case measure => simp [intOf]; omega
          · skip
            have e1 : ((n : Int) % 18 == 0) = false := beq_eq_false_iff_ne.2 (by omega)
            have E18 := Aside0.mk hm18
            clear hm18
            go_wp2_with fail
            go_roundw
            case rel =>
              have e3 := HR.out
              have e4 := dig_old (N := N) E18.out
              have e5 := rr_old (N := N) E18.out
              have e6 := qq_old (N := N) E18.out
              refine ShowRel.step hn38 Hgg HI HG HB HS' (by rw [e6, ← HX.out]) (by rw [e6, ← HY.out]) (by rw [e5]; omega) _ (u8_int ?_)
              first | omega | (simp only [IntKind.wrap_u8', IntKind.wrap_u64]; omega)
            case measure => simp [intOf]; omega
      · have z1 : (Zo == 0) = false := beq_eq_false_iff_ne.2 z
        have z2 : (Zo != 0) = true := by rw [bne, z1]; rfl
        clear hZ0 z
        by_cases hm18 : n % 18 = 0
        · skip
          have e1 : ((n : Int) % 18 == 0) = true := beq_iff_eq.2 (by omega)
          have hcut := cut_f (qq N n) (by have := qq_le N n; have := HN.out; omega)
          obtain ⟨X', hX'⟩ : ∃ z, ((qq N n / 1000000000000000000 / 18446744073709551616 : Nat) : Int) = z := ⟨_, rfl⟩
          obtain ⟨Y', hY'⟩ : ∃ z, ((qq N n / 1000000000000000000 % 18446744073709551616 : Nat) : Int) = z := ⟨_, rfl⟩
          obtain ⟨R', hR'⟩ : ∃ z, ((qq N n % 1000000000000000000 : Nat) : Int) = z := ⟨_, rfl⟩
          rw [← HX.out, ← HY.out, hX', hY', hR'] at hcut
          have r0 : 0 ≤ R' := by omega
          have r1 : R' < 1000000000000000000 := by omega
          have HC18 := Aside0.mk hcut
          have E18 := Aside0.mk hm18
          have HX' := Aside0.mk hX'
          have HY' := Aside0.mk hY'
          have HR' := Aside0.mk hR'
          clear hcut hm18 hx0 hf0 hX' hY' hR'
          go_wp2_with fail
          refine (wide_cut.calls X Y 1000000000000000000 _ _ _ _ HC18.out).mono ?_
          rintro e wq ⟨rfl, hb⟩
          have HG1 := Aside0.mk (blk_below HG.out hb)
          have HB1 := Aside0.mk (below_then HB.out HB.out.size hb)
          clear hb
          have hx0 : wq.cell? ⟨W1.heap.size, i.toNat - 1, none⟩ = some (.int .u8 0) := by
            rw [blk_cell HG1.out, bcells_get _ (by have := HI.out; omega)]
          have hf0 : wq.frozen? ⟨W1.heap.size, i.toNat - 1, none⟩ = false := blk_frozen HG1.out _
          go_wp2_with fail
          go_roundw
          case rel =>
            have e3 := HR'.out
            have e4 := dig_new (N := N) E18.out
            have e5 := rr_new (N := N) E18.out
            have e6 := qq_new (N := N) E18.out
            refine ShowRel.step hn38 Hgg HI HG1 HB1 HS' (by rw [e6, ← HX'.out]) (by rw [e6, ← HY'.out]) (by rw [e5]; omega) _ (u8_int ?_)
            first | omega | (simp only [IntKind.wrap_u8', IntKind.wrap_u64]; omega)
          case measure => simp [intOf]; omega
        · skip
          have e1 : ((n : Int) % 18 == 0) = false := beq_eq_false_iff_ne.2 (by omega)
          have E18 := Aside0.mk hm18
          clear hm18
          go_wp2_with fail
          go_roundw
          case rel =>
            have e3 := HR.out
            have e4 := dig_old (N := N) E18.out
            have e5 := rr_old (N := N) E18.out
            have e6 := qq_old (N := N) E18.out
            refine ShowRel.step hn38 Hgg HI HG HB HS' (by rw [e6, ← HX.out]) (by rw [e6, ← HY.out]) (by rw [e5]; omega) _ (u8_int ?_)
            first | omega | (simp only [IntKind.wrap_u8', IntKind.wrap_u64]; omega)
          case measure => simp [intOf]; omega
/-- The text of a number. -/
def wide_show.f (a0_0 : Int) (a0_1 : Int) : Option ByteArray := if WOk a0_0 a0_1 then some (strOfNums (if a0_0 < 0 then 45 :: chars (wv a0_0 a0_1).natAbs (dlen (wv a0_0 a0_1).natAbs) else chars (wv a0_0 a0_1).natAbs (dlen (wv a0_0 a0_1).natAbs))) else none
theorem wide_show.calls (a0_0 : Int) (a0_1 : Int) (r : ByteArray) (w : World) (h : wide_show.f a0_0 a0_1 = some r) :
    Calls Try.prog 36 #[.agg #[.int .i64 a0_0, .int .u64 a0_1]] w fun e w' => e = .returned (.string r) ∧ Below w.heap.size w w' := by
  unfold wide_show.f at h
  by_cases hb : WOk a0_0 a0_1
  · rw [if_pos hb] at h
    obtain rfl := Option.some.inj h
    obtain ⟨b1, b2⟩ := hb
    by_cases hn : a0_0 < 0
    · rw [if_pos hn]
      have hs : wide_sub.f 0 0 a0_0 a0_1 = some (whi (-(wv a0_0 a0_1)), wlo (-(wv a0_0 a0_1))) := by
        unfold wide_sub.f
        rw [if_pos ⟨⟨by omega, by omega⟩, b1, b2⟩]
        have e0 : wv 0 0 - wv a0_0 a0_1 = -(wv a0_0 a0_1) := by unfold wv; omega
        rw [e0]
      refine show_neg a0_0 a0_1 _ _ (wv a0_0 a0_1).natAbs ⟨by unfold wv; omega⟩ ⟨hs⟩ ⟨?_⟩ ⟨by unfold wlo; omega⟩ (decide_eq_true hn) _ ⟨dlen_ok _⟩ w
      rw [IntKind.wrap_u64]
      unfold whi wlo wv wrap64
      omega
    · rw [if_neg hn]
      exact show_pos a0_0 a0_1 (wv a0_0 a0_1).natAbs ⟨by unfold wv; omega⟩ ⟨by unfold wv; omega⟩ ⟨by omega⟩ ⟨b2⟩ (decide_eq_false hn) _ ⟨dlen_ok _⟩ w
  · rw [if_neg hb] at h
    cases h
end Go.Proofs.Ytbccokfdkieakaa.F
