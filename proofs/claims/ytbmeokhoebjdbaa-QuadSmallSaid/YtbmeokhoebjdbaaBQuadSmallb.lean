/- QuadSmall: own texts in one (part 2 of 3): contracts of the functions that the law reaches. -/
import Derived.Test.YtbmeokhoebjdbaaBQuadSmalla
import Derived.Deep.RegionHeld3

section
/- quad.Hex in the print's form (printed by wip/gen_hex.py). -/
namespace Go.Proofs.Ytbmeokhoebjdbaa.F
open Go Go.RowKit Go.Proofs.YtbmeokhoebjdbaaW.PrintWords Go.Proofs.YtbmeokhoebjdbaaW.PrintLast Go.Proofs.YtbmeokhoebjdbaaW.PrintMore
set_option linter.unusedVariables false
theorem mask15 (a : Int) (ha : 0 ≤ a) (ha2 : a < 18446744073709551616) : bits .and .u64 a 15 = a % 16 := by
  obtain ⟨A, rfl⟩ := Int.eq_ofNat_of_zero_le ha
  have h := bits_and_u64_nat A 15 (by omega) (by omega)
  have e : A &&& 15 = A % 16 := Nat.and_two_pow_sub_one_eq_mod A 4
  rw [e] at h
  exact h
theorem letter (k : Nat) (hk : k < 16) : ((⟨#[48, 49, 50, 51, 52, 53, 54, 55, 56, 57, 97, 98, 99, 100, 101, 102]⟩ : ByteArray)[k]'hk).toNat = hdig k := by
  have : ∀ k : Fin 16, ((⟨#[48, 49, 50, 51, 52, 53, 54, 55, 56, 57, 97, 98, 99, 100, 101, 102]⟩ : ByteArray)[k.1]'k.2).toNat = hdig k.1 := by decide
  exact this ⟨k, hk⟩
theorem letter_at {D : Int} (h0 : 0 ≤ D) (h1 : D < 16) (hk : D.toNat < (⟨#[48, 49, 50, 51, 52, 53, 54, 55, 56, 57, 97, 98, 99, 100, 101, 102]⟩ : ByteArray).size) {M : Nat} (h : D = ((M % 16 : Nat) : Int)) : ((((⟨#[48, 49, 50, 51, 52, 53, 54, 55, 56, 57, 97, 98, 99, 100, 101, 102]⟩ : ByteArray)[D.toNat]'hk).toNat : Nat) : Int) = ((hdig (M % 16) : Nat) : Int) := by
  subst h
  have := letter (M % 16) (Nat.mod_lt _ (by omega))
  simp only [Int.toNat_natCast]
  rw [this]
theorem zv66 (W : World) : (zeroValue 53).run Try.prog W = .ok (.agg (bcells (List.replicate (66 - 0) 0 ++ []))) W := by kernel_rfl
theorem addr_add (g o j : Nat) : (⟨g, o, none⟩ : Addr).add j = ⟨g, o + j, none⟩ := by
  simp only [Addr.add]
  try (split <;> simp_all)
theorem arr66_len : Try.prog.arrayLen 53 = 66 := by kernel_rfl
theorem arr66_und : Try.prog.underlying 53 = some (.array (Try.prog.arrayLen 53) (Try.prog.elem 53)) := by kernel_rfl
theorem arr66_one (W : World) : (sizeOf (Try.prog.elem 53)).run Try.prog W = .ok 1 W := by kernel_rfl
/-- The last letters of the array. -/
theorem slice66 (g n : Nat) (h0 : 1 ≤ n) (h1 : n ≤ 66) (i : Int) (hi : i = 66 - n) (W : World) :
    (Instr.sliceAt 53 (.pointer (some ⟨g, 0, none⟩)) (some (.int .i64 i)) none none).run Try.prog W = .ok (.slice (some ⟨g, 66 - n, none⟩) n n) W := by
  rw [run_sliceAt_array_l (P := Try.prog) W 53 ⟨g, 0, none⟩ arr66_und .i64 i (by omega) (by rw [arr66_len]; omega), arr66_one, arr66_len]
  have e : i.toNat = 66 - n := by omega
  simp only [Result.andThen, slicedAt, e]
  rw [if_neg (by omega), show 66 - (66 - n) = n by omega, addr_add]
  simp
theorem reads66 {wr : World} {g n : Nat} (hn : n ≤ 66) {l : List Int} (hl : l.length = n) (h : wr.heap[g]? = some (.cells (bcells (List.replicate (66 - n) 0 ++ l)) 53 (0, 0))) : ReadsOf (Value.int .u8) 0 wr (some ⟨g, 66 - n, none⟩) n l := by
  refine ⟨hl, by omega, fun _ => ⟨_, rfl, fun j hj => ?_⟩⟩
  have := (blk_cell h (66 - n + j)).trans (bcells_at66 hn l hl hj)
  rw [addr_add]
  exact this
theorem conv66 {wr : World} {g n : Nat} (hn : n ≤ 66) {l : List Int} (hl : l.length = n) (h : wr.heap[g]? = some (.cells (bcells (List.replicate (66 - n) 0 ++ l)) 53 (0, 0))) :
    (convert 55 9 (.slice (some ⟨g, 66 - n, none⟩) n n)).run Try.prog wr = .ok (.string (strOfNums l)) wr :=
  string_of_reads Try.underlying55 Try.underlying5 Try.underlying9 (reads66 hn hl h)
/-- At the head of a round: n letters are written. -/
structure HexRel (w : World) (g gB N : Nat) (t5 t14 : Value) (wr : World) : Prop where
  out : ∃ (n : Nat) (i : Int), n ≤ 64 ∧ i = 66 - n ∧ t5 = .int .i64 i ∧ t14 = .int .i64 n ∧ Four wr g 24 (.int .u64 (q0 ((N / 16 ^ n : Nat) : Int))) (.int .u64 (q1 ((N / 16 ^ n : Nat) : Int))) (.int .u64 (q2 ((N / 16 ^ n : Nat) : Int))) (.int .u64 (q3 ((N / 16 ^ n : Nat) : Int))) ∧
    wr.heap[gB]? = some (.cells (bcells (List.replicate (66 - n) 0 ++ hchars N n)) 53 (0, 0)) ∧ (∀ m', m' < n → 1 ≤ m' → ¬ N / 16 ^ m' = 0) ∧ Below w.heap.size w wr
theorem HexRel.step {w wr : World} {g gB N n : Nat} {i X0 X1 X2 X3 vd : Int} (hg : g < gB) (hw : w.heap.size ≤ g) (hn : n < 64) (hM : ((N / 16 ^ n : Nat) : Int) < 115792089237316195423570985008687907853269984665640564039457584007913129639936) (HI : i = 66 - n)
    (HF : Four wr g 24 (.int .u64 X0) (.int .u64 X1) (.int .u64 X2) (.int .u64 X3)) (HG : wr.heap[gB]? = some (.cells (bcells (List.replicate (66 - n) 0 ++ hchars N n)) 53 (0, 0))) (HB : Below w.heap.size w wr)
    (HS : ∀ m', m' < n + 1 → 1 ≤ m' → ¬ N / 16 ^ m' = 0) (e0 : q0 ((N / 16 ^ n : Nat) : Int) = X0) (e1 : q1 ((N / 16 ^ n : Nat) : Int) = X1) (e2 : q2 ((N / 16 ^ n : Nat) : Int) = X2) (e3 : q3 ((N / 16 ^ n : Nat) : Int) = X3) (hd : vd = ((hdig (N / 16 ^ n % 16) : Nat) : Int)) :
    HexRel w g gB N (.int .i64 (i - 1)) (.int .i64 ((n : Int) + 1)) (((((wr.setCell ⟨gB, i.toNat - 1, none⟩ (.int .u8 vd)).setCell ⟨g, 0, none⟩ (.int .u64 (bits .or .u64 (X0 / 16) (IntKind.u64.wrap (X1 * 1152921504606846976))))).setCell ⟨g, 1, none⟩ (.int .u64 (bits .or .u64 (X1 / 16) (IntKind.u64.wrap (X2 * 1152921504606846976))))).setCell
      ⟨g, 2, none⟩ (.int .u64 (bits .or .u64 (X2 / 16) (IntKind.u64.wrap (X3 * 1152921504606846976))))).setCell ⟨g, 3, none⟩ (.int .u64 (X3 / 16))).drew.drew.drew := by
  have e : i.toNat - 1 = 65 - n := by omega
  subst hd
  obtain ⟨s0, s1, s2, s3⟩ := shift_words (N / 16 ^ n) hM
  obtain ⟨u0, u1, u2, u3⟩ := q_ok ((N / 16 ^ n : Nat) : Int)
  rw [e0, e1] at s0; rw [e1, e2] at s1; rw [e2, e3] at s2; rw [e3] at s3
  rw [e0] at u0; rw [e1] at u1; rw [e2] at u2; rw [e3] at u3
  rw [div_pow16] at s0 s1 s2 s3
  rw [IntKind.wrap_u64, IntKind.wrap_u64, IntKind.wrap_u64, shift_word u0 u1, shift_word u1 u2, shift_word u2 u3, ← s0, ← s1, ← s2, ← s3]
  refine ⟨n + 1, i - 1, by omega, by omega, rfl, rfl, ⟨?_⟩, ?_, HS, ?_⟩
  · exact blk_drew (blk_drew (blk_drew (blk_put (blk_put (blk_put (blk_put (blk_set_ne HF.blk (by omega) _ _) 0 _ rfl) 1 _ rfl) 2 _ rfl) 3 _ rfl)))
  · rw [e]
    refine blk_drew (blk_drew (blk_drew (blk_set_ne (blk_set_ne (blk_set_ne (blk_set_ne (blk_put HG _ _ (bcells_put66 (by omega) _ _)) ?_ _ _) ?_ _ _) ?_ _ _) ?_ _ _))) <;> omega
  · exact below_drew1 (below_drew1 (below_drew1 (below_set (below_set (below_set (below_set (below_set HB (by omega)) (by omega)) (by omega)) (by omega)) (by omega))))
attribute [local go_sem high] quad_eq in
set_option maxHeartbeats 2000000 in
theorem hex_p (a b c d : Int) (N m : Nat) (HN : Aside0 (N < 16 ^ 64)) (hm : Aside0 (1 ≤ m ∧ N / 16 ^ m = 0 ∧ ∀ n, n < m → 1 ≤ n → ¬ N / 16 ^ n = 0)) (W : Aside0 (a = q0 N ∧ b = q1 N ∧ c = q2 N ∧ d = q3 N))
    (C : Aside0 (∀ w : World, Calls Try.prog 29 #[q4 a b c d] w fun e w' => e = .returned (.bool false) ∧ Below w.heap.size w w'))
    (w : World) : Calls Try.prog 9 #[q4 a b c d] w fun e w' => e = .returned (.string (strOfNums (hchars N m))) ∧ Below w.heap.size w w' := by
  have zv := zv66
  go_enter Try.func9, Try.ntmps9
  go_wp2_with (first | (go_at_call 29; with_reducible refine (C.out _).mono ?_; rintro e w1 ⟨rfl, hb⟩; have F := Aside0.mk (Four.mk (one_blk hb).1); have HB := Aside0.mk ((one_blk hb).2.2 w (Below.refl _ _)); clear hb; obtain ⟨⟨z0, z1, z2, z3⟩, f0, f1, f2, f3⟩ := F.out.cells) | fail)
  refine hideW (T := fun w' => Four w' w.heap.size 24 (.int .u64 a) (.int .u64 b) (.int .u64 c) (.int .u64 d) ∧ w'.heap[w1.heap.size]? = some (.cells (bcells (List.replicate (66 - 0) 0 ++ [])) 53 (0, 0)) ∧ Below w.heap.size w w') ?hid ?_
  case hid => exact ⟨⟨blk_alloc F.out.blk _⟩, blk_new w1 _, below_alloc HB.out _⟩
  have hgg : w.heap.size < w1.heap.size := blk_lt F.out.blk
  clear z0 z1 z2 z3 f0 f1 f2 f3 F HB zv
  generalize w1.heap.size = gB at hgg ⊢
  rintro w3 ⟨F2, G2, HB2⟩
  have Hgg := Aside0.mk hgg
  have F3 := Aside0.mk F2; have G3 := Aside0.mk G2; have HB3 := Aside0.mk HB2
  clear F2 G2 HB2
  go_loopw [5, 14] (fun t5 t14 wr => HexRel w w.heap.size gB N t5 t14 wr) (fun _ t14 _ => 64 - (intOf t14).toNat)
  case atStart =>
    refine ⟨0, 66, by omega, by omega, rfl, rfl, ?_, G3.out, fun m' h1 => absurd h1 (Nat.not_lt_zero _), HB3.out⟩
    rw [Nat.pow_zero, Nat.div_one]; obtain ⟨rfl, rfl, rfl, rfl⟩ := W.out; exact F3.out
  case round =>
    obtain ⟨n, i, hn0, hi0, rfl, rfl, hf0, hg0, hs0, hb0⟩ := hrel
    have HI := Aside0.mk hi0
    have HF := Aside0.mk hf0
    have HG := Aside0.mk hg0
    have HB := Aside0.mk hb0
    have HS := Aside0.mk hs0
    clear hi0 hf0 hg0 hb0 hs0
    have stop : N / 16 ^ n = 0 → 1 ≤ n → n = m := fun h h' => by
      obtain ⟨m1, m2, m3⟩ := hm.out
      rcases Nat.lt_trichotomy n m with h1 | h1 | h1
      · exact absurd h (m3 n h1 h')
      · exact h1
      · exact absurd m2 (HS.out m h1 m1)
    by_cases h64 : n = 64
    · have h0 : N / 16 ^ n = 0 := by rw [h64]; exact Nat.div_eq_of_lt HN.out
      obtain rfl := stop h0 (by omega)
      have hlt : decide ((n : Int) < 64) = false := decide_eq_false (by omega)
      have hn1 : 1 ≤ n := by omega
      clear stop h0 h64
      have hsl := slice66 gB n hn1 (by omega) i HI.out
      have kc := conv66 (show n ≤ 66 by omega) (hchars_len N n) HG.out
      go_wp2_with fail
      go_ret
      exact ⟨rfl, HB.out⟩
    · have hlt : decide ((n : Int) < 64) = true := decide_eq_true (by omega)
      have LT64 := Aside0.mk (show n < 64 by omega)
      have hM : ((N / 16 ^ n : Nat) : Int) < 115792089237316195423570985008687907853269984665640564039457584007913129639936 := by
        have h1 : N / 16 ^ n ≤ N := Nat.div_le_self _ _
        have h2 := HN.out
        have e : (16 : Nat) ^ 64 = 115792089237316195423570985008687907853269984665640564039457584007913129639936 := rfl
        omega
      have hz := words_zero (N / 16 ^ n) hM
      have hx0 : 0 ≤ q0 ((N / 16 ^ n : Nat) : Int) ∧ q0 ((N / 16 ^ n : Nat) : Int) < 18446744073709551616 := (q_ok _).1
      obtain ⟨X0, hX0⟩ : ∃ z, q0 ((N / 16 ^ n : Nat) : Int) = z := ⟨_, rfl⟩
      obtain ⟨X1, hX1⟩ : ∃ z, q1 ((N / 16 ^ n : Nat) : Int) = z := ⟨_, rfl⟩
      obtain ⟨X2, hX2⟩ : ∃ z, q2 ((N / 16 ^ n : Nat) : Int) = z := ⟨_, rfl⟩
      obtain ⟨X3, hX3⟩ : ∃ z, q3 ((N / 16 ^ n : Nat) : Int) = z := ⟨_, rfl⟩
      have HF1 := Aside0.mk HF.out
      rw [hX0, hX1, hX2, hX3] at hz HF1
      have hD0 : X0 % 16 = ((N / 16 ^ n % 16 : Nat) : Int) := by rw [← hX0]; unfold q0; omega
      rw [hX0] at hx0
      clear HF
      obtain ⟨⟨z0, z1, z2, z3⟩, f0, f1, f2, f3⟩ := HF1.out.cells
      obtain ⟨Z, hZ⟩ : ∃ z, decide (N / 16 ^ n = 0) = z := ⟨_, rfl⟩
      rw [hZ] at hz
      have big : ∀ w : World, (Op.equalIn 10000 24 (.agg #[.int .u64 X0, .int .u64 X1, .int .u64 X2, .int .u64 X3]) (.agg #[.int .u64 0, .int .u64 0, .int .u64 0, .int .u64 0])).run Try.prog w = .ok Z w := fun w => by rw [← hz]; exact quad_eq 9998 w X0 0 X1 0 X2 0 X3 0
      have HX0 := Aside0.mk hX0
      have HX1 := Aside0.mk hX1
      have HX2 := Aside0.mk hX2
      have HX3 := Aside0.mk hX3
      have HM := Aside0.mk hM
      clear hz hM hX0 hX1 hX2 hX3
      by_cases hc : N / 16 ^ n = 0 ∧ 1 ≤ n
      · obtain rfl := stop hc.1 hc.2
        obtain rfl := hZ.symm.trans (decide_eq_true hc.1)
        have hn1 := hc.2
        have hgt : decide (0 < n) = true := decide_eq_true (by omega)
        clear stop hc hZ h64 hD0 hx0
        have hsl := slice66 gB n hn1 (by omega) i HI.out
        have kc := conv66 (show n ≤ 66 by omega) (hchars_len N n) HG.out
        go_wp2_with fail
        go_ret
        exact ⟨rfl, HB.out⟩
      · have HS2 := Aside0.mk (show ∀ m', m' < n + 1 → 1 ≤ m' → ¬ N / 16 ^ m' = 0 from fun m' h1 h2 h3 => by
          rcases Nat.lt_or_ge m' n with h4 | h4
          · exact HS.out m' h4 h2 h3
          · have : m' = n := by omega
            subst this
            exact hc ⟨h3, h2⟩)
        have q1_ : 0 ≤ i - 1 := by have := HI.out; omega
        have i1 : 1 ≤ i := by have := HI.out; omega
        have i2 : i ≤ 66 := by have := HI.out; omega
        have hx0_ : wr.cell? ⟨gB, i.toNat - 1, none⟩ = some (.int .u8 0) := by
          rw [blk_cell HG.out, bcells_get66 _ (by have := HI.out; omega)]
        have hf0_ : wr.frozen? ⟨gB, i.toNat - 1, none⟩ = false := blk_frozen HG.out _
        obtain ⟨D, hD⟩ : ∃ z, bits .and .u64 X0 15 = z := ⟨_, rfl⟩
        have hD1 : D = X0 % 16 := by rw [← hD]; exact mask15 X0 hx0.1 hx0.2
        have d0 : 0 ≤ D := by omega
        have d1 : D < 16 := by omega
        have HD := Aside0.mk (hD1.trans hD0)
        clear h64 hD1 hx0 hD0 stop
        cases Z
        · clear hZ hc
          go_wp2_with fail
          refine wp_loop_rounds 4 ?_
          rw [rounds_succ]
          go_wp2
          go_region
          go_wp2
          rw [rounds_succ]
          go_wp2
          go_region
          go_wp2
          rw [rounds_succ]
          go_wp2
          go_region
          go_wp2
          rw [rounds_succ]
          go_wp2
          exact ⟨HexRel.step Hgg.out (Nat.le_refl _) LT64.out HM.out HI.out HF1.out HG.out HB.out HS2.out HX0.out HX1.out HX2.out HX3.out (letter_at d0 d1 _ HD.out), by simp only [intOf]; have := LT64.out; omega⟩
        · have hgt : decide (0 < n) = false := decide_eq_false (fun h => hc ⟨of_decide_eq_true hZ, by omega⟩)
          clear hZ hc
          go_wp2_with fail
          refine wp_loop_rounds 4 ?_
          rw [rounds_succ]
          go_wp2
          go_region
          go_wp2
          rw [rounds_succ]
          go_wp2
          go_region
          go_wp2
          rw [rounds_succ]
          go_wp2
          go_region
          go_wp2
          rw [rounds_succ]
          go_wp2
          exact ⟨HexRel.step Hgg.out (Nat.le_refl _) LT64.out HM.out HI.out HF1.out HG.out HB.out HS2.out HX0.out HX1.out HX2.out HX3.out (letter_at d0 d1 _ HD.out), by simp only [intOf]; have := LT64.out; omega⟩
attribute [local go_sem high] quad_eq in
set_option maxHeartbeats 2000000 in
theorem hex_n (a b c d s0 s1 s2 s3 : Int) (N m : Nat) (HN : Aside0 (N < 16 ^ 64)) (hm : Aside0 (1 ≤ m ∧ N / 16 ^ m = 0 ∧ ∀ n, n < m → 1 ≤ n → ¬ N / 16 ^ n = 0)) (W : Aside0 (s0 = q0 N ∧ s1 = q1 N ∧ s2 = q2 N ∧ s3 = q3 N))
    (C : Aside0 (∀ w : World, Calls Try.prog 29 #[q4 a b c d] w fun e w' => e = .returned (.bool true) ∧ Below w.heap.size w w'))
    (S : Aside0 (∀ w : World, Calls Try.prog 30 #[q4 0 0 0 0, q4 a b c d] w fun e w' => e = .returned (q4 s0 s1 s2 s3) ∧ Below w.heap.size w w'))
    (w : World) : Calls Try.prog 9 #[q4 a b c d] w fun e w' => e = .returned (.string (strOfNums (45 :: hchars N m))) ∧ Below w.heap.size w w' := by
  have zv := zv66
  go_enter Try.func9, Try.ntmps9
  go_wp2_with (first | (go_at_call 30; with_reducible refine (S.out _).mono ?_; rintro e w2 ⟨rfl, hb⟩; have F2 := Aside0.mk (Four.mk (blk_below F.out.blk hb)); have HB2 := Aside0.mk (below_step HB.out hb); clear hb z0 z1 z2 z3 f0 f1 f2 f3; obtain ⟨⟨z0, z1, z2, z3⟩, f0, f1, f2, f3⟩ := F2.out.cells) | (go_at_call 29; with_reducible refine (C.out _).mono ?_; rintro e w1 ⟨rfl, hb⟩; have F := Aside0.mk (Four.mk (one_blk hb).1); have HB := Aside0.mk ((one_blk hb).2.2 w (Below.refl _ _)); clear hb; obtain ⟨⟨z0, z1, z2, z3⟩, f0, f1, f2, f3⟩ := F.out.cells) | fail)
  refine hideW (T := fun w' => Four w' w.heap.size 24 (.int .u64 s0) (.int .u64 s1) (.int .u64 s2) (.int .u64 s3) ∧ w'.heap[w2.heap.size]? = some (.cells (bcells (List.replicate (66 - 0) 0 ++ [])) 53 (0, 0)) ∧ Below w.heap.size w w') ?hid ?_
  case hid =>
    refine ⟨⟨blk_alloc (F2.out.put _ _ _ _) _⟩, ?_, below_alloc (put_below HB2.out (Nat.le_refl _) _ _ _ _) _⟩
    have e := blk_new ((((w2.setCell ⟨w.heap.size, 0, none⟩ (.int .u64 s0)).setCell ⟨w.heap.size, 1, none⟩ (.int .u64 s1)).setCell ⟨w.heap.size, 2, none⟩ (.int .u64 s2)).setCell ⟨w.heap.size, 3, none⟩ (.int .u64 s3)) (.cells (bcells (List.replicate (66 - 0) 0 ++ [])) 53 (0, 0))
    simp only [World.size_setCell] at e
    exact e
  have hgg : w.heap.size < w2.heap.size := blk_lt F2.out.blk
  clear z0 z1 z2 z3 f0 f1 f2 f3 F F2 HB HB2 zv
  generalize w2.heap.size = gB at hgg ⊢
  rintro w3 ⟨F2, G2, HB2⟩
  have Hgg := Aside0.mk hgg
  have F3 := Aside0.mk F2; have G3 := Aside0.mk G2; have HB3 := Aside0.mk HB2
  clear F2 G2 HB2
  go_loopw [5, 14] (fun t5 t14 wr => HexRel w w.heap.size gB N t5 t14 wr) (fun _ t14 _ => 64 - (intOf t14).toNat)
  case atStart =>
    refine ⟨0, 66, by omega, by omega, rfl, rfl, ?_, G3.out, fun m' h1 => absurd h1 (Nat.not_lt_zero _), HB3.out⟩
    rw [Nat.pow_zero, Nat.div_one]; obtain ⟨rfl, rfl, rfl, rfl⟩ := W.out; exact F3.out
  case round =>
    obtain ⟨n, i, hn0, hi0, rfl, rfl, hf0, hg0, hs0, hb0⟩ := hrel
    have HI := Aside0.mk hi0
    have HF := Aside0.mk hf0
    have HG := Aside0.mk hg0
    have HB := Aside0.mk hb0
    have HS := Aside0.mk hs0
    clear hi0 hf0 hg0 hb0 hs0
    have stop : N / 16 ^ n = 0 → 1 ≤ n → n = m := fun h h' => by
      obtain ⟨m1, m2, m3⟩ := hm.out
      rcases Nat.lt_trichotomy n m with h1 | h1 | h1
      · exact absurd h (m3 n h1 h')
      · exact h1
      · exact absurd m2 (HS.out m h1 m1)
    by_cases h64 : n = 64
    · have h0 : N / 16 ^ n = 0 := by rw [h64]; exact Nat.div_eq_of_lt HN.out
      obtain rfl := stop h0 (by omega)
      have hlt : decide ((n : Int) < 64) = false := decide_eq_false (by omega)
      have hn1 : 1 ≤ n := by omega
      clear stop h0 h64
      have q1_ : 0 ≤ i - 1 := by have := HI.out; omega
      have i1 : 1 ≤ i := by have := HI.out; omega
      have i2 : i ≤ 66 := by have := HI.out; omega
      have hx0_ : wr.cell? ⟨gB, i.toNat - 1, none⟩ = some (.int .u8 0) := by
        rw [blk_cell HG.out, bcells_get66 _ (by have := HI.out; omega)]
      have hf0_ : wr.frozen? ⟨gB, i.toNat - 1, none⟩ = false := blk_frozen HG.out _
      have hsl := slice66 gB (n + 1) (by omega) (by omega) (i - 1) (by have := HI.out; omega)
      have e39 : i.toNat - 1 = 65 - n := by have := HI.out; omega
      have HG2 : (wr.setCell ⟨gB, i.toNat - 1, none⟩ (.int .u8 45)).heap[gB]? = some (.cells (bcells (List.replicate (66 - (n + 1)) 0 ++ (45 :: hchars N n))) 53 (0, 0)) := by
        rw [e39]
        exact blk_put HG.out _ _ (bcells_put66 (by omega) _ _)
      have kc := conv66 (show n + 1 ≤ 66 by omega) (by rw [List.length_cons, hchars_len]) HG2
      rw [show 66 - (n + 1) = 65 - n by omega] at hsl kc
      have HB2 := Aside0.mk (below_set (g := gB) (j := i.toNat - 1) (v := .int .u8 45) HB.out (Nat.le_of_lt Hgg.out))
      clear HG2 e39
      go_wp2_with fail
      go_ret
      exact ⟨rfl, HB2.out⟩
    · have hlt : decide ((n : Int) < 64) = true := decide_eq_true (by omega)
      have LT64 := Aside0.mk (show n < 64 by omega)
      have hM : ((N / 16 ^ n : Nat) : Int) < 115792089237316195423570985008687907853269984665640564039457584007913129639936 := by
        have h1 : N / 16 ^ n ≤ N := Nat.div_le_self _ _
        have h2 := HN.out
        have e : (16 : Nat) ^ 64 = 115792089237316195423570985008687907853269984665640564039457584007913129639936 := rfl
        omega
      have hz := words_zero (N / 16 ^ n) hM
      have hx0 : 0 ≤ q0 ((N / 16 ^ n : Nat) : Int) ∧ q0 ((N / 16 ^ n : Nat) : Int) < 18446744073709551616 := (q_ok _).1
      obtain ⟨X0, hX0⟩ : ∃ z, q0 ((N / 16 ^ n : Nat) : Int) = z := ⟨_, rfl⟩
      obtain ⟨X1, hX1⟩ : ∃ z, q1 ((N / 16 ^ n : Nat) : Int) = z := ⟨_, rfl⟩
      obtain ⟨X2, hX2⟩ : ∃ z, q2 ((N / 16 ^ n : Nat) : Int) = z := ⟨_, rfl⟩
      obtain ⟨X3, hX3⟩ : ∃ z, q3 ((N / 16 ^ n : Nat) : Int) = z := ⟨_, rfl⟩
      have HF1 := Aside0.mk HF.out
      rw [hX0, hX1, hX2, hX3] at hz HF1
      have hD0 : X0 % 16 = ((N / 16 ^ n % 16 : Nat) : Int) := by rw [← hX0]; unfold q0; omega
      rw [hX0] at hx0
      clear HF
      obtain ⟨⟨z0, z1, z2, z3⟩, f0, f1, f2, f3⟩ := HF1.out.cells
      obtain ⟨Z, hZ⟩ : ∃ z, decide (N / 16 ^ n = 0) = z := ⟨_, rfl⟩
      rw [hZ] at hz
      have big : ∀ w : World, (Op.equalIn 10000 24 (.agg #[.int .u64 X0, .int .u64 X1, .int .u64 X2, .int .u64 X3]) (.agg #[.int .u64 0, .int .u64 0, .int .u64 0, .int .u64 0])).run Try.prog w = .ok Z w := fun w => by rw [← hz]; exact quad_eq 9998 w X0 0 X1 0 X2 0 X3 0
      have HX0 := Aside0.mk hX0
      have HX1 := Aside0.mk hX1
      have HX2 := Aside0.mk hX2
      have HX3 := Aside0.mk hX3
      have HM := Aside0.mk hM
      clear hz hM hX0 hX1 hX2 hX3
      by_cases hc : N / 16 ^ n = 0 ∧ 1 ≤ n
      · obtain rfl := stop hc.1 hc.2
        obtain rfl := hZ.symm.trans (decide_eq_true hc.1)
        have hn1 := hc.2
        have hgt : decide (0 < n) = true := decide_eq_true (by omega)
        clear stop hc hZ h64 hD0 hx0
        have q1_ : 0 ≤ i - 1 := by have := HI.out; omega
        have i1 : 1 ≤ i := by have := HI.out; omega
        have i2 : i ≤ 66 := by have := HI.out; omega
        have hx0_ : wr.cell? ⟨gB, i.toNat - 1, none⟩ = some (.int .u8 0) := by
          rw [blk_cell HG.out, bcells_get66 _ (by have := HI.out; omega)]
        have hf0_ : wr.frozen? ⟨gB, i.toNat - 1, none⟩ = false := blk_frozen HG.out _
        have hsl := slice66 gB (n + 1) (by omega) (by omega) (i - 1) (by have := HI.out; omega)
        have e39 : i.toNat - 1 = 65 - n := by have := HI.out; omega
        have HG2 : (wr.setCell ⟨gB, i.toNat - 1, none⟩ (.int .u8 45)).heap[gB]? = some (.cells (bcells (List.replicate (66 - (n + 1)) 0 ++ (45 :: hchars N n))) 53 (0, 0)) := by
          rw [e39]
          exact blk_put HG.out _ _ (bcells_put66 (by omega) _ _)
        have kc := conv66 (show n + 1 ≤ 66 by omega) (by rw [List.length_cons, hchars_len]) HG2
        rw [show 66 - (n + 1) = 65 - n by omega] at hsl kc
        have HB2 := Aside0.mk (below_set (g := gB) (j := i.toNat - 1) (v := .int .u8 45) HB.out (Nat.le_of_lt Hgg.out))
        clear HG2 e39
        go_wp2_with fail
        go_ret
        exact ⟨rfl, HB2.out⟩
      · have HS2 := Aside0.mk (show ∀ m', m' < n + 1 → 1 ≤ m' → ¬ N / 16 ^ m' = 0 from fun m' h1 h2 h3 => by
          rcases Nat.lt_or_ge m' n with h4 | h4
          · exact HS.out m' h4 h2 h3
          · have : m' = n := by omega
            subst this
            exact hc ⟨h3, h2⟩)
        have q1_ : 0 ≤ i - 1 := by have := HI.out; omega
        have i1 : 1 ≤ i := by have := HI.out; omega
        have i2 : i ≤ 66 := by have := HI.out; omega
        have hx0_ : wr.cell? ⟨gB, i.toNat - 1, none⟩ = some (.int .u8 0) := by
          rw [blk_cell HG.out, bcells_get66 _ (by have := HI.out; omega)]
        have hf0_ : wr.frozen? ⟨gB, i.toNat - 1, none⟩ = false := blk_frozen HG.out _
        obtain ⟨D, hD⟩ : ∃ z, bits .and .u64 X0 15 = z := ⟨_, rfl⟩
        have hD1 : D = X0 % 16 := by rw [← hD]; exact mask15 X0 hx0.1 hx0.2
        have d0 : 0 ≤ D := by omega
        have d1 : D < 16 := by omega
        have HD := Aside0.mk (hD1.trans hD0)
        clear h64 hD1 hx0 hD0 stop
        cases Z
        · clear hZ hc
          go_wp2_with fail
          refine wp_loop_rounds 4 ?_
          rw [rounds_succ]
          go_wp2
          go_region
          go_wp2
          rw [rounds_succ]
          go_wp2
          go_region
          go_wp2
          rw [rounds_succ]
          go_wp2
          go_region
          go_wp2
          rw [rounds_succ]
          go_wp2
          exact ⟨HexRel.step Hgg.out (Nat.le_refl _) LT64.out HM.out HI.out HF1.out HG.out HB.out HS2.out HX0.out HX1.out HX2.out HX3.out (letter_at d0 d1 _ HD.out), by simp only [intOf]; have := LT64.out; omega⟩
        · have hgt : decide (0 < n) = false := decide_eq_false (fun h => hc ⟨of_decide_eq_true hZ, by omega⟩)
          clear hZ hc
          go_wp2_with fail
          refine wp_loop_rounds 4 ?_
          rw [rounds_succ]
          go_wp2
          go_region
          go_wp2
          rw [rounds_succ]
          go_wp2
          go_region
          go_wp2
          rw [rounds_succ]
          go_wp2
          go_region
          go_wp2
          rw [rounds_succ]
          go_wp2
          exact ⟨HexRel.step Hgg.out (Nat.le_refl _) LT64.out HM.out HI.out HF1.out HG.out HB.out HS2.out HX0.out HX1.out HX2.out HX3.out (letter_at d0 d1 _ HD.out), by simp only [intOf]; have := LT64.out; omega⟩
def quad_Hex.f (a0_0 a0_1 a0_2 a0_3 : Int) : Option ByteArray := if QOk a0_0 a0_1 a0_2 a0_3 then some (hext (qs (qv a0_0 a0_1 a0_2 a0_3))) else none
theorem qs_val2 {a b c d : Int} (h : QOk a b c d) : qs (qv a b c d) = if 9223372036854775808 ≤ d then qv a b c d - 115792089237316195423570985008687907853269984665640564039457584007913129639936 else qv a b c d := by
  obtain ⟨⟨a0, a1⟩, ⟨b0, b1⟩, ⟨c0, c1⟩, ⟨d0, d1⟩⟩ := h
  unfold qs qv
  split <;> split <;> omega
theorem quad_Hex.calls (a0_0 a0_1 a0_2 a0_3 : Int) (r : ByteArray) (w : World) (h : quad_Hex.f a0_0 a0_1 a0_2 a0_3 = some r) :
    Calls Try.prog 9 #[.agg #[.int .u64 a0_0, .int .u64 a0_1, .int .u64 a0_2, .int .u64 a0_3]] w fun e w' => e = .returned (.string r) ∧ Below w.heap.size w w' := by
  unfold quad_Hex.f at h
  by_cases hb : QOk a0_0 a0_1 a0_2 a0_3
  · rw [if_pos hb] at h
    obtain rfl := Option.some.inj h
    have C := q_below_c (a := a0_0) (b := a0_1) (c := a0_2) hb.2.2.2
    have e16 : (16 : Nat) ^ 64 = 115792089237316195423570985008687907853269984665640564039457584007913129639936 := rfl
    have hq := qs_val2 hb
    have hv : 0 ≤ qv a0_0 a0_1 a0_2 a0_3 ∧ qv a0_0 a0_1 a0_2 a0_3 < 115792089237316195423570985008687907853269984665640564039457584007913129639936 := by unfold qv; omega
    by_cases n : 9223372036854775808 ≤ a0_3
    · rw [if_pos n] at hq
      rw [decide_eq_true n] at C
      have neg : qs (qv a0_0 a0_1 a0_2 a0_3) < 0 := by rw [hq]; omega
      have hA : (qs (qv a0_0 a0_1 a0_2 a0_3)).natAbs < 16 ^ 64 := by rw [e16, hq]; have : 9223372036854775808 ≤ a0_3 → 1 ≤ qv a0_0 a0_1 a0_2 a0_3 := (by unfold qv; omega); omega
      unfold hext
      rw [if_pos neg]
      obtain ⟨k0, k1, k2, k3⟩ : q0 (-qv a0_0 a0_1 a0_2 a0_3) = q0 ((qs (qv a0_0 a0_1 a0_2 a0_3)).natAbs : Int) ∧ q1 (-qv a0_0 a0_1 a0_2 a0_3) = q1 ((qs (qv a0_0 a0_1 a0_2 a0_3)).natAbs : Int) ∧ q2 (-qv a0_0 a0_1 a0_2 a0_3) = q2 ((qs (qv a0_0 a0_1 a0_2 a0_3)).natAbs : Int) ∧ q3 (-qv a0_0 a0_1 a0_2 a0_3) = q3 ((qs (qv a0_0 a0_1 a0_2 a0_3)).natAbs : Int) := by
        have e : -qv a0_0 a0_1 a0_2 a0_3 = ((qs (qv a0_0 a0_1 a0_2 a0_3)).natAbs : Int) - 115792089237316195423570985008687907853269984665640564039457584007913129639936 := by omega
        rw [e]
        generalize ((qs (qv a0_0 a0_1 a0_2 a0_3)).natAbs : Int) = V
        unfold q0 q1 q2 q3
        have d1 : (V - 115792089237316195423570985008687907853269984665640564039457584007913129639936) / 18446744073709551616 = V / 18446744073709551616 - 6277101735386680763835789423207666416102355444464034512896 := by omega
        have d2 : (V / 18446744073709551616 - 6277101735386680763835789423207666416102355444464034512896) / 18446744073709551616 = V / 18446744073709551616 / 18446744073709551616 - 340282366920938463463374607431768211456 := by omega
        have d3 : (V / 18446744073709551616 / 18446744073709551616 - 340282366920938463463374607431768211456) / 18446744073709551616 = V / 18446744073709551616 / 18446744073709551616 / 18446744073709551616 - 18446744073709551616 := by omega
        rw [d1, d2, d3]
        exact ⟨by omega, by omega, by omega, by omega⟩
      exact hex_n a0_0 a0_1 a0_2 a0_3 _ _ _ _ _ _ ⟨hA⟩ ⟨hlen_ok _⟩ ⟨k0, k1, k2, k3⟩ ⟨C⟩ ⟨q_neg_c hb⟩ w
    · rw [if_neg n] at hq
      rw [decide_eq_false n] at C
      have neg : ¬ qs (qv a0_0 a0_1 a0_2 a0_3) < 0 := by rw [hq]; omega
      have hA : (qs (qv a0_0 a0_1 a0_2 a0_3)).natAbs < 16 ^ 64 := by rw [e16, hq]; have : 9223372036854775808 ≤ a0_3 → 1 ≤ qv a0_0 a0_1 a0_2 a0_3 := (by unfold qv; omega); omega
      unfold hext
      rw [if_neg neg]
      have e : ((qs (qv a0_0 a0_1 a0_2 a0_3)).natAbs : Int) = qv a0_0 a0_1 a0_2 a0_3 := by omega
      obtain ⟨k0, k1, k2, k3⟩ := q_back hb
      exact hex_p a0_0 a0_1 a0_2 a0_3 _ _ ⟨hA⟩ ⟨hlen_ok _⟩ ⟨by rw [e, k0], by rw [e, k1], by rw [e, k2], by rw [e, k3]⟩ ⟨C⟩ w
  · rw [if_neg hb] at h
    cases h
end Go.Proofs.Ytbmeokhoebjdbaa.F
end

section
/- zelligeref02.Of in the print's form: the digits of four words. -/
namespace Go.Proofs.Ytbmeokhoebjdbaa.F
open Go Go.RowKit Go.Proofs.YtbmeokhoebjdbaaW.PrintWords Go.Proofs.YtbmeokhoebjdbaaW.PrintLast Go.Proofs.YtbmeokhoebjdbaaW.PrintMore Go.Proofs.Ytbmeokhoebjdbaa.D8
set_option linter.unusedVariables false
set_option linter.unusedSimpArgs false
def zelligeref02_Of.f (a0_0 a0_1 a0_2 a0_3 : Int) : Option (List Int) := if QOk a0_0 a0_1 a0_2 a0_3 then some (qdg a0_0 a0_1 a0_2 a0_3) else none
structure OfRel (w : World) (gb : Nat) (v : Value) (a b c d : Int) (t4 : Value) (wr : World) : Prop where
  out : ∃ (n : Nat) (x : Int), n ≤ 32 ∧ x = n ∧ t4 = .int .i64 x ∧ Kd.R (Kd.int .i64) 3 wr w.heap.size (fun _ => True) v ((qdg a b c d).take n ++ List.replicate (32 - n) 0) ∧ wr.heap[gb]? = some (.cells #[.int .u64 a, .int .u64 b, .int .u64 c, .int .u64 d] 24 (0, 0)) ∧ Below w.heap.size w wr
theorem word_cell {w : World} {gb : Nat} {a b c d : Int} (h : w.heap[gb]? = some (.cells #[.int .u64 a, .int .u64 b, .int .u64 c, .int .u64 d] 24 (0, 0))) {j : Nat} (hj : j < 4) : w.cell? ⟨gb, j, none⟩ = some (.int .u64 ([a, b, c, d].getD j 0)) := by
  have : j = 0 ∨ j = 1 ∨ j = 2 ∨ j = 3 := by omega
  rcases this with rfl | rfl | rfl | rfl
  · exact blk_cell h 0
  · exact blk_cell h 1
  · exact blk_cell h 2
  · exact blk_cell h 3
set_option maxHeartbeats 2000000 in
theorem ref_of_w (a b c d : Int) (ok : Aside0 (QOk a b c d)) (w : World) :
    Calls Try.prog 11 #[.agg #[.int .u64 a, .int .u64 b, .int .u64 c, .int .u64 d]] w fun e w' => ∃ v0_ : Value, e = .returned v0_ ∧ Kd.R (Kd.int .i64) 3 w' w.heap.size (fun _ => True) v0_ (qdg a b c d) ∧ Below w.heap.size w w' := by
  have HB := Aside0.mk (Below.refl w.heap.size w)
  go_enter Try.func11, Try.ntmps11
  go_wp2_with (first | ((with_reducible refine gate_dst (N := 1) rfl ?_); refine box_event ?hg (N := 1) ?hd (cs := #[.int .u64 a, .int .u64 b, .int .u64 c, .int .u64 d]) (t := 24) ?hr ?_; (case hd => rfl); (case hg => rfl); (case hr => first | (go_simp; done) | (go_simp; rfl)); intro gb hg w3 hbox hb; have n0_ := Aside0.mk (below_step HB.out hb); have n1_ := Aside0.mk hbox; have n2_ := Aside0.mk ((by rw [hg]; exact (below_size HB.out)) : w.heap.size ≤ gb); clear HB; have HB := n0_; have BK := n1_; have GE := n2_; clear n0_ n1_ n2_; clear hb hbox hg) | ((with_reducible refine gate_dst (N := 5) rfl ?_); refine Kd.R_make (Kd.int .i64) _ 3 rfl (N := 5) rfl 27 _ _ rfl 32 rfl rfl Try.underlying27 (.int .i64 0) 8 info3 rfl (by decide) (by omega) 0 (ok := fun _ => True) (okp := fun _ => True) rfl (fun _ hk => hk) trivial (by omega) (by omega) (Below.refl _ _) (Nat.le_refl _) ?_; intro v5 w4 ho5 hb hg_ hnew_; clear hg_ hnew_; (try simp only [Int.reduceToNat] at ho5); have n0_ := Aside0.mk (Kd.R_lower ho5 (below_size HB.out)); have n1_ := Aside0.mk (blk_below BK.out hb); have n2_ := Aside0.mk (below_step HB.out hb); clear BK; clear HB; have HO := n0_; have BK := n1_; have HB := n2_; clear n0_ n1_ n2_; clear hb ho5) | fail)
  go_loopw [4] (fun t4 wr => OfRel w gb v5 a b c d t4 wr) (fun t4 _ => 32 - (intOf t4).toNat)
  case atStart => exact ⟨0, 0, by omega, rfl, rfl, HO.out, BK.out, HB.out⟩
  case round =>
    obtain ⟨n, x, hn, hx_, rfl, ho_, bk_, hb_⟩ := hrel
    have HO := Aside0.mk ho_
    have BK := Aside0.mk bk_
    have HB := Aside0.mk hb_
    clear ho_ bk_ hb_
    by_cases h32 : n = 32
    · have hlt : decide (x < 32) = false := decide_eq_false (by omega)
      have e : (qdg a b c d).take n ++ List.replicate (32 - n) 0 = qdg a b c d := by rw [h32, List.take_of_length_le (by rw [qdg_len]; omega)]; simp
      have HO2 := Aside0.mk (e ▸ HO.out)
      clear h32 e HO hx_
      go_wp2_with fail
      go_ret
      exact ⟨_, rfl, HO2.out, HB.out⟩
    · have hlt : decide (x < 32) = true := decide_eq_true (by omega)
      have hn32 := Aside0.mk (show n < 32 by omega)
      have hW := word_cell BK.out (show n / 8 < 4 by omega)
      have hF := blk_frozen BK.out (n / 8)
      obtain ⟨J, hJ⟩ : ∃ j : Int, ((n / 8 : Nat) : Int) = j := ⟨_, rfl⟩
      have hJn : n / 8 = J.toNat := by omega
      have j0 : 0 ≤ J := by omega
      have j1 : J < 4 := by omega
      have hJd : Int.tdiv x 8 = J := by rw [hx_, Int.tdiv_eq_ediv_of_nonneg (by omega)]; omega
      obtain ⟨M, hM⟩ : ∃ j : Int, ((n % 8 : Nat) : Int) = j := ⟨_, rfl⟩
      have hMd : Int.tmod x 8 = M := by rw [hx_, Int.tmod_eq_emod_of_nonneg (by omega)]; omega
      have hx : UOk ([a, b, c, d].getD (n / 8) 0) := by
        obtain ⟨k0, k1, k2, k3⟩ := ok.out
        have : n / 8 = 0 ∨ n / 8 = 1 ∨ n / 8 = 2 ∨ n / 8 = 3 := by omega
        rcases this with h | h | h | h <;> rw [h]
        · exact k0
        · exact k1
        · exact k2
        · exact k3
      have hV := byte_go ([a, b, c, d].getD (n / 8) 0) hx.1 hx.2 (n % 8) (Nat.mod_lt _ (by omega))
      rw [hM] at hV
      have HV0 := Aside0.mk (qdg_step a b c d (show n < 32 by omega) hV)
      obtain ⟨X, hX⟩ : ∃ z, [a, b, c, d].getD (n / 8) 0 = z := ⟨_, rfl⟩
      rw [hX] at hW HV0
      rw [hJn] at hW hF
      obtain ⟨S, hS⟩ : ∃ z, IntKind.u64.wrap (wrap64 (8 * M)) = z := ⟨_, rfl⟩
      have s0 : 0 ≤ S := by rw [← hS, IntKind.wrap_u64]; omega
      have s1 : decide (0 ≤ S) = true := decide_eq_true s0
      rw [hS] at HV0
      obtain ⟨Y, hY⟩ : ∃ z, shr .u64 X S = z := ⟨_, rfl⟩
      have hY_ : (X / 2 ^ min S.toNat 64) = Y := hY
      have hYz : S ≤ 64 → (X / 2 ^ S.toNat) = Y := shr_small hY
      rw [hY] at HV0
      obtain ⟨L, hL⟩ : ∃ l, (qdg a b c d).take n ++ List.replicate (32 - n) 0 = l := ⟨_, rfl⟩
      have hLl : L.length = 32 := by rw [← hL]; simp [qdg_len]; omega
      rw [hL] at HO HV0
      have xn : x.toNat = n := by omega
      rw [← xn] at HV0
      have p0 : 0 ≤ x := by omega
      have q0 : x < ((L.length : Nat) : Int) := by omega
      have p1 : decide (0 ≤ x) = true := decide_eq_true p0
      have q1 : decide (x < ((L.length : Nat) : Int)) = true := decide_eq_true q0
      obtain ⟨go, co, eo, gb2, gl, cl, HG⟩ := Kd.R_form HO.out (by omega)
      cases eo
      obtain ⟨hx0, hf0⟩ := Kd.R_celln 0 HO.out x p0 q0
      have HP := Kd.R_putg HO.out x (wrap64 (Go.bits .and .u64 Y 255))
      have GB := Aside0.mk gb2
      have NE := Kd.R_ne HO.out BK.out (by decide)
      have NE' := Aside0.mk NE
      have HP' := Aside0.mk HP
      have HV := Aside0.mk HV0.out
      have HXN := Aside0.mk hx_
      clear gb2 gl cl HG HV0 hJn hV hx hn hX NE HP h32 hL xn hx_ hLl
      have hSM : S = 8 * M := by rw [← hS, IntKind.wrap_u64]; have : M = ((n % 8 : Nat) : Int) := hM.symm; unfold wrap64; omega
      have eY : X / 2 ^ (8 * M).toNat = Y := by rw [← hSM]; exact hYz (by rw [hSM, ← hM]; omega)
      have EY := Aside0.mk eY
      clear eY hSM
      go_wp2_with fail
      rw [EY.out]
      have hx1 : wrap64 (x + 1) = ((n + 1 : Nat) : Int) := by have := HXN.out; have := hn32.out; unfold wrap64; omega
      have xn : x.toNat = n := by have := HXN.out; omega
      refine ⟨⟨n + 1, _, by have := hn32.out; omega, hx1, rfl, ?_, ?_, below_set HB.out GB.out⟩, by simp only [intOf, hx1]; have := HXN.out; have := hn32.out; omega⟩
      · have := HP'.out.1
        rw [HV.out, xn] at this
        rw [xn]
        exact this
      · exact blk_grown BK.out HP'.out.2 NE'.out
theorem zelligeref02_Of.calls (a0_0 a0_1 a0_2 a0_3 : Int) (r : List Int) (w : World) (h : zelligeref02_Of.f a0_0 a0_1 a0_2 a0_3 = some r) :
    Calls Try.prog 11 #[.agg #[.int .u64 a0_0, .int .u64 a0_1, .int .u64 a0_2, .int .u64 a0_3]] w fun e w' => ∃ v0_ : Value, e = .returned (v0_) ∧ Kd.R (Kd.int .i64) 3 w' w.heap.size (fun _ => True) v0_ r ∧ Below w.heap.size w w' := by
  unfold zelligeref02_Of.f at h
  by_cases hb : QOk a0_0 a0_1 a0_2 a0_3
  · rw [if_pos hb] at h
    obtain rfl := Option.some.inj h
    exact ref_of_w _ _ _ _ ⟨hb⟩ w
  · rw [if_neg hb] at h
    cases h
end Go.Proofs.Ytbmeokhoebjdbaa.F
end

section
/- zelligeref02.Quad in the print's form: the four words of digits. -/
namespace Go.Proofs.Ytbmeokhoebjdbaa.F
open Go Go.RowKit Go.Proofs.YtbmeokhoebjdbaaW.PrintWords Go.Proofs.YtbmeokhoebjdbaaW.PrintLast Go.Proofs.YtbmeokhoebjdbaaW.PrintMore Go.Proofs.Ytbmeokhoebjdbaa.D8
set_option linter.unusedVariables false
set_option linter.unusedSimpArgs false
def zelligeref02_Quad.f (l0 : List Int) : Option (Int × Int × Int × Int) := if l0.length = 32 ∧ Dg l0 then some (qq4 (val l0)) else none
/-- A word's digits so far: those from place p on. -/
def wj (l : List Int) (p j : Nat) : Int := val ((l.take (8 * j + 8)).drop (max (8 * j) p))
theorem wj_bound {l : List Int} (hl : l.length = 32) (hD : Dg l) (p j : Nat) : UOk (wj l p j) := by
  unfold wj
  have h := Dg_drop (Dg_take hD (8 * j + 8)) (max (8 * j) p)
  have h1 := val_lt h
  have h2 : P ((l.take (8 * j + 8)).drop (max (8 * j) p)).length ≤ P 8 := P_mono (by simp; omega)
  have e : P 8 = 18446744073709551616 := by decide
  exact ⟨val_nonneg h, by omega⟩
theorem wj_top {l : List Int} (hl : l.length = 32) {j : Nat} (hj : j < 4) : wj l 32 j = 0 := by
  unfold wj
  exact val_drop_all (by simp; omega)
theorem wj_old {l : List Int} {p j : Nat} (h : p / 8 ≠ j) (hl : l.length = 32) (hp : p < 32) : wj l p j = wj l (p + 1) j := by
  unfold wj
  rcases Nat.lt_or_ge (p / 8) j with h1 | h1
  · rw [show max (8 * j) p = max (8 * j) (p + 1) by omega]
  · rw [val_drop_all (by simp; omega), val_drop_all (by simp; omega)]
theorem wj_new {l : List Int} {p : Nat} (hl : l.length = 32) (hp : p < 32) : wj l p (p / 8) = l.getD p 0 + 256 * wj l (p + 1) (p / 8) := by
  unfold wj
  rw [show max (8 * (p / 8)) p = p by omega, show max (8 * (p / 8)) (p + 1) = p + 1 by omega, val_drop (by simp; omega)]
  congr 1
  simp [List.getD_eq_getElem?_getD, List.getElem?_take, show p < 8 * (p / 8) + 8 by omega]
theorem wj_all {l : List Int} (hl : l.length = 32) : val l = qv (wj l 0 0) (wj l 0 1) (wj l 0 2) (wj l 0 3) := by
  unfold wj qv
  have e8 : P 8 = 18446744073709551616 := by decide
  have a := val_take_drop l 8 (by omega)
  have b := val_take_drop (l.drop 8) 8 (by simp; omega)
  have c := val_take_drop (l.drop 16) 8 (by simp; omega)
  rw [List.drop_drop] at b c
  rw [a, b, c, e8]
  simp only [Nat.mul_zero, Nat.zero_add, Nat.max_zero, Nat.reduceMul, Nat.reduceAdd, List.drop_zero, List.drop_take, Nat.reduceSub]
  rw [show (l.drop 24).take 8 = l.drop 24 from List.take_of_length_le (by simp; omega)]
structure QuadRel (w : World) (gb : Nat) (l : List Int) (t4 : Value) (wr : World) : Prop where
  out : ∃ (p : Nat) (x : Int), p ≤ 32 ∧ x = p - 1 ∧ t4 = .int .i64 x ∧ wr.heap[gb]? = some (.cells #[.int .u64 (wj l p 0), .int .u64 (wj l p 1), .int .u64 (wj l p 2), .int .u64 (wj l p 3)] 24 (0, 0)) ∧ wr.heap[w.heap.size]? = some (.cells #[.int .u64 0, .int .u64 0, .int .u64 0, .int .u64 0] 24 (0, 0)) ∧ Below w.heap.size w wr
theorem words_put {l : List Int} (hl : l.length = 32) {p : Nat} (hp : p < 32) {V : Int} (hV : V = wj l p (p / 8)) : (#[.int .u64 (wj l (p + 1) 0), .int .u64 (wj l (p + 1) 1), .int .u64 (wj l (p + 1) 2), .int .u64 (wj l (p + 1) 3)] : Array Value).setIfInBounds (p / 8) (.int .u64 V) = #[.int .u64 (wj l p 0), .int .u64 (wj l p 1), .int .u64 (wj l p 2), .int .u64 (wj l p 3)] := by
  subst hV
  have : p / 8 = 0 ∨ p / 8 = 1 ∨ p / 8 = 2 ∨ p / 8 = 3 := by omega
  rcases this with h | h | h | h <;> rw [h]
  · rw [wj_old (j := 1) (by omega) hl hp, wj_old (j := 2) (by omega) hl hp, wj_old (j := 3) (by omega) hl hp]; rfl
  · rw [wj_old (j := 0) (by omega) hl hp, wj_old (j := 2) (by omega) hl hp, wj_old (j := 3) (by omega) hl hp]; rfl
  · rw [wj_old (j := 0) (by omega) hl hp, wj_old (j := 1) (by omega) hl hp, wj_old (j := 3) (by omega) hl hp]; rfl
  · rw [wj_old (j := 0) (by omega) hl hp, wj_old (j := 1) (by omega) hl hp, wj_old (j := 2) (by omega) hl hp]; rfl
set_option maxHeartbeats 2000000 in
theorem ref_quad_w (A0 : Option Addr) (c0 : Nat) (l0 : List Int) (hl : l0.length = 32) (hD : Aside0 (Dg l0)) (w : World) (hr0 : Kd.C (Kd.int .i64) w A0 l0.length l0) (hc0 : l0.length ≤ c0) :
    Calls Try.prog 15 #[.slice A0 l0.length c0] w fun e w' => e = .returned (q4 (wj l0 0 0) (wj l0 0 1) (wj l0 0 2) (wj l0 0 3)) ∧ Below w.heap.size w w' := by
  have HR0 := Aside0.mk hr0
  have HC0 := Aside0.mk hc0
  have HL := Aside0.mk hl
  clear hr0 hc0 hl
  go_enter Try.func15, Try.ntmps15
  go_wp2_with fail
  refine hideW (T := fun w' => w'.heap[w.heap.size + 1]? = some (.cells #[.int .u64 (wj l0 32 0), .int .u64 (wj l0 32 1), .int .u64 (wj l0 32 2), .int .u64 (wj l0 32 3)] 24 (0, 0)) ∧ w'.heap[w.heap.size]? = some (.cells #[.int .u64 0, .int .u64 0, .int .u64 0, .int .u64 0] 24 (0, 0)) ∧ Below w.heap.size w w') ?hid ?_
  case hid =>
    rw [wj_top HL.out (j := 0) (by omega), wj_top HL.out (j := 1) (by omega), wj_top HL.out (j := 2) (by omega), wj_top HL.out (j := 3) (by omega)]
    exact ⟨two_new w _ _, blk_alloc (blk_new w _) _, two_all w _ _⟩
  rintro w1 ⟨hb1, hb2, hb3⟩
  have BK := Aside0.mk hb1
  have RS := Aside0.mk hb2
  have HB := Aside0.mk hb3
  clear hb1 hb2 hb3
  go_loopw [4] (fun t4 wr => QuadRel w (w.heap.size + 1) l0 t4 wr) (fun t4 _ => (intOf t4 + 1).toNat)
  case atStart => exact ⟨32, 31, by omega, by omega, rfl, BK.out, RS.out, HB.out⟩
  case round =>
    obtain ⟨p, x, hp, hx_, rfl, bk_, rs_, hb_⟩ := hrel
    have BK := Aside0.mk bk_
    have RS := Aside0.mk rs_
    have HB := Aside0.mk hb_
    clear bk_ rs_ hb_
    by_cases h0 : p = 0
    · subst h0
      have hlt : decide (0 ≤ x) = false := decide_eq_false (by omega)
      obtain ⟨⟨z0, z1, z2, z3⟩, f0, f1, f2, f3⟩ := (Four.mk BK.out).cells
      obtain ⟨⟨y0, y1, y2, y3⟩, g0, g1, g2, g3⟩ := (Four.mk RS.out).cells
      clear hx_ hp
      go_wp2_with fail
      refine bodyPost_ret (results_c1 rfl _ _ w.heap.size 24 _ (0, 0) _ rfl ((Four.mk RS.out).put _ _ _ _) Try.underlying24 rfl (by kernel_rfl)) rfl ?_
      exact ⟨rfl, put_below HB.out (by omega) _ _ _ _⟩
    · obtain ⟨n, rfl⟩ : ∃ n, p = n + 1 := ⟨p - 1, by omega⟩
      have hn32 := Aside0.mk (show n < 32 by omega)
      have HX := Aside0.mk (show x = (n : Int) by omega)
      have hlt : decide (0 ≤ x) = true := decide_eq_true (by omega)
      have hW := word_cell BK.out (show n / 8 < 4 by omega)
      have hF := blk_frozen BK.out (n / 8)
      obtain ⟨J, hJ⟩ : ∃ j : Int, ((n / 8 : Nat) : Int) = j := ⟨_, rfl⟩
      have hJn : n / 8 = J.toNat := by omega
      have j0 : 0 ≤ J := by omega
      have j1 : J < 4 := by omega
      have hJd : Int.tdiv x 8 = J := by rw [HX.out, Int.tdiv_eq_ediv_of_nonneg (by omega)]; omega
      obtain ⟨X, hX⟩ : ∃ z, [wj l0 (n + 1) 0, wj l0 (n + 1) 1, wj l0 (n + 1) 2, wj l0 (n + 1) 3].getD (n / 8) 0 = z := ⟨_, rfl⟩
      have hXw : X = wj l0 (n + 1) (n / 8) := by
        rw [← hX]
        have : n / 8 = 0 ∨ n / 8 = 1 ∨ n / 8 = 2 ∨ n / 8 = 3 := by omega
        rcases this with h | h | h | h <;> rw [h] <;> rfl
      rw [hX] at hW
      have HXw := Aside0.mk hXw
      have HJ := Aside0.mk hJn
      rw [hJn] at hW hF
      have p0 : 0 ≤ x := by omega
      have q0 : x < ((l0.length : Nat) : Int) := by rw [HL.out]; omega
      have p1 : decide (0 ≤ x) = true := decide_eq_true p0
      have q1 : decide (x < ((l0.length : Nat) : Int)) = true := decide_eq_true q0
      obtain ⟨ad, eA, hxc⟩ := Kd.at_int (Kd.C_below HR0.out HB.out) x p0 q0
      cases eA
      have hrd : rd l0 x = l0.getD n 0 := by rw [HX.out]; unfold rd; simp
      obtain ⟨D, hDg⟩ : ∃ z, rd l0 x = z := ⟨_, rfl⟩
      rw [hDg] at hxc hrd
      have HD := Aside0.mk hrd
      clear hX hXw hJn hJ hrd hDg hx_ h0 hp
      go_wp2_with fail
      go_region
      go_wp2
      have hx1 : wrap64 (x - 1) = (n : Int) - 1 := by have := HX.out; have := hn32.out; unfold wrap64; omega
      have hD0 := Dg_get hD.out n
      have hB := wj_bound HL.out hD.out n (n / 8)
      have hV : IntKind.u64.wrap (IntKind.u64.wrap (X * 256) + IntKind.u64.wrap D) = wj l0 n (n / 8) := by
        have e := wj_new HL.out hn32.out
        rw [← HXw.out, ← HD.out] at e
        rw [← HD.out] at hD0
        rw [IntKind.wrap_u64, IntKind.wrap_u64, IntKind.wrap_u64]
        omega
      refine ⟨⟨n, _, by have := hn32.out; omega, hx1, rfl, ?_, ?_, below_drew1 (below_set HB.out (by omega))⟩, by simp only [intOf, hx1]; have := HX.out; omega⟩
      · rw [← HJ.out]
        exact blk_drew (blk_put BK.out _ _ (words_put HL.out hn32.out hV))
      · exact blk_drew (blk_set_ne RS.out (by omega) _ _)
theorem zelligeref02_Quad.calls (A0 : Option Addr) (c0 : Nat) (l0 : List Int) (r1 r2 r3 r4 : Int) (w : World) (hr0 : Kd.C (Kd.int .i64) w A0 l0.length l0) (hc0 : l0.length ≤ c0) (h : zelligeref02_Quad.f l0 = some (r1, r2, r3, r4)) :
    Calls Try.prog 15 #[.slice A0 l0.length c0] w fun e w' => e = .returned (.agg #[.int .u64 r1, .int .u64 r2, .int .u64 r3, .int .u64 r4]) ∧ Below w.heap.size w w' := by
  unfold zelligeref02_Quad.f at h
  by_cases hb : l0.length = 32 ∧ Dg l0
  · rw [if_pos hb] at h
    obtain ⟨rfl, rfl, rfl, rfl⟩ := some4 h
    obtain ⟨k0, k1, k2, k3⟩ := q_back ⟨wj_bound hb.1 hb.2 0 0, wj_bound hb.1 hb.2 0 1, wj_bound hb.1 hb.2 0 2, wj_bound hb.1 hb.2 0 3⟩
    rw [wj_all hb.1, k0, k1, k2, k3]
    exact ref_quad_w A0 c0 l0 hb.1 ⟨hb.2⟩ w hr0 hc0
  · rw [if_neg hb] at h
    cases h
end Go.Proofs.Ytbmeokhoebjdbaa.F
end

section
/- Hexadecimal digits put together from bytes, and leading noughts taken off: plain numbers and lists. -/
namespace Go.Proofs.Ytbmeokhoebjdbaa.F
open Go Go.RowKit Go.Proofs.YtbmeokhoebjdbaaW.PrintWords Go.Proofs.Ytbmeokhoebjdbaa.D8
set_option linter.unusedVariables false
theorem sns_app (xs ys : List Int) : strOfNums xs ++ strOfNums ys = strOfNums (xs ++ ys) := by
  apply ByteArray.ext
  simp [strOfNums]
theorem hex_str (r : Nat) (h : r < 16) : (⟨#[48, 49, 50, 51, 52, 53, 54, 55, 56, 57, 97, 98, 99, 100, 101, 102]⟩ : ByteArray).extract r (r + 1) = strOfNums [((hdig r : Nat) : Int)] := by
  have : ∀ k : Fin 16, (⟨#[48, 49, 50, 51, 52, 53, 54, 55, 56, 57, 97, 98, 99, 100, 101, 102]⟩ : ByteArray).extract k.1 (k.1 + 1) = strOfNums [((hdig k.1 : Nat) : Int)] := by decide +kernel
  exact this ⟨r, h⟩
theorem hchars_snoc (M d : Nat) (hd : d < 16) (k : Nat) : hchars (16 * M + d) (k + 1) = hchars M k ++ [((hdig d : Nat) : Int)] := by
  induction k with
  | zero =>
    simp only [hchars, Nat.pow_zero, Nat.div_one, List.nil_append]
    rw [show (16 * M + d) % 16 = d by omega]
  | succ k ih =>
    rw [hchars, ih, hchars, List.cons_append, Nat.pow_succ, Nat.mul_comm (16 ^ k) 16, ← Nat.div_div_eq_div_mul, show (16 * M + d) / 16 = M by omega]
/-- The number of the digits from place p on. -/
def mq (l : List Int) (p : Nat) : Nat := (val (l.drop p)).toNat
theorem mq_step {l : List Int} (hD : Dg l) {p : Nat} (hp : p < l.length) : mq l p = 16 * (16 * mq l (p + 1) + (l.getD p 0).toNat / 16) + (l.getD p 0).toNat % 16 := by
  unfold mq
  have h1 := val_nonneg (Dg_drop hD (p + 1))
  have h2 := Dg_get hD p
  rw [val_drop hp]
  omega
theorem hchars_step {l : List Int} (hD : Dg l) {p : Nat} (hp : p < l.length) (k : Nat) : hchars (mq l p) (k + 2) = (hchars (mq l (p + 1)) k ++ [((hdig ((l.getD p 0).toNat / 16) : Nat) : Int)]) ++ [((hdig ((l.getD p 0).toNat % 16) : Nat) : Int)] := by
  have h2 := Dg_get hD p
  rw [mq_step hD hp, hchars_snoc _ _ (Nat.mod_lt _ (by omega)), hchars_snoc _ _ (by omega)]
/-- The first letter is a nought, and there is more behind it, as long as there are too many. -/
theorem lead {N n : Nat} (hn : hlen N ≤ n + 1) : (1 ≤ n ∧ hdig (N / 16 ^ n % 16) = 48) ↔ hlen N ≤ n := by
  obtain ⟨h1, h2, h3⟩ := hlen_ok N
  constructor
  · rintro ⟨a, b⟩
    rcases Nat.lt_or_ge n (hlen N) with h | h
    · exfalso
      have e : hlen N = n + 1 := by omega
      have h4 := h3 n h a
      rw [e, Nat.pow_succ, ← Nat.div_div_eq_div_mul] at h2
      have h5 : N / 16 ^ n % 16 = N / 16 ^ n := by omega
      rw [h5] at b
      unfold hdig at b
      split at b <;> omega
    · exact h
  · intro h
    refine ⟨by omega, ?_⟩
    have h4 : N / 16 ^ n = 0 := by
      obtain ⟨j, rfl⟩ : ∃ j, n = hlen N + j := ⟨n - hlen N, by omega⟩
      rw [Nat.pow_add, ← Nat.div_div_eq_div_mul, h2, Nat.zero_div]
    rw [h4]; rfl
theorem hchars_first (N n : Nat) (h : 0 < (strOfNums (hchars N (n + 1))).size) : (((strOfNums (hchars N (n + 1)))[0]'h).toNat : Nat) = hdig (N / 16 ^ n % 16) := by
  have hb : hdig (N / 16 ^ n % 16) < 256 := by unfold hdig; split <;> omega
  simp only [strOfNums, hchars, List.map_cons, ByteArray.getElem_eq_getElem_data]
  simp
  omega
theorem hchars_rest (N n : Nat) : (strOfNums (hchars N (n + 1))).extract 1 (n + 1) = strOfNums (hchars N n) := by
  apply ByteArray.ext
  simp [strOfNums, hchars, ByteArray.data_extract, List.take_of_length_le, hchars_len]
end Go.Proofs.Ytbmeokhoebjdbaa.F
end

section
/- zelligeref02.Hex: its walks (printed by wip/gen_rhex.py). -/
namespace Go.Proofs.Ytbmeokhoebjdbaa.F
open Go Go.RowKit Go.Proofs.YtbmeokhoebjdbaaW.PrintWords Go.Proofs.YtbmeokhoebjdbaaW.PrintLast Go.Proofs.YtbmeokhoebjdbaaW.PrintMore Go.Proofs.Ytbmeokhoebjdbaa.D8
set_option linter.unusedVariables false
set_option linter.unusedSimpArgs false
structure HexL1 (w0 w1 : World) (A1 : Option Addr) (l1 : List Int) (t4 t7 : Value) (wr : World) : Prop where
  out : ∃ (p : Nat) (x : Int), p ≤ 32 ∧ x = p - 1 ∧ t7 = .int .i64 x ∧ t4 = .string (strOfNums (hchars (mq l1 p) (64 - 2 * p))) ∧ Kd.C (Kd.int .i64) wr A1 l1.length l1 ∧ Below w0.heap.size w0 wr
structure HexL2 (w0 : World) (N : Nat) (t4 : Value) (wr : World) : Prop where
  out : ∃ n : Nat, hlen N ≤ n ∧ n ≤ 64 ∧ t4 = .string (strOfNums (hchars N n)) ∧ Below w0.heap.size w0 wr
theorem dig_slice (n : Nat) (hn : n < 16) (E F : Int) (hE : E = ((n : Nat) : Int)) (hF : F = E + 1) (W : World) : (Instr.slice 9 (.string ⟨#[48, 49, 50, 51, 52, 53, 54, 55, 56, 57, 97, 98, 99, 100, 101, 102]⟩) (some (.int .i64 E)) (some (.int .i64 F)) none).run Try.prog W = .ok (.string (strOfNums [((hdig n : Nat) : Int)])) W := by
  subst hF
  rw [run_slice_string W _ _ _ _ _ _ Try.underlying9 (by omega) (by omega) (by show E + 1 ≤ ((16 : Nat) : Int); omega)]
  subst hE
  rw [← hex_str n hn, Int.toNat_natCast, show ((n : Int) + 1).toNat = n + 1 by omega]
theorem mq_top {l : List Int} (hl : l.length = 32) : mq l 32 = 0 := by unfold mq; rw [val_drop_all (by omega)]; rfl
set_option maxHeartbeats 2000000 in
theorem ref_hex_p (A1 : Option Addr) (c1 : Nat) (l1 : List Int) (hl1 : l1.length = 32) (hD : Aside0 (Dg l1)) (N : Nat) (hNe : Aside0 (mq l1 0 = N)) (hN : Aside0 (N < 16 ^ 64)) (w : World) (hr0 : Kd.C (Kd.int .i64) w A1 l1.length l1) (C : Aside0 (Calls Try.prog 31 #[.slice A1 l1.length c1] w fun e w' => e = .returned (.bool false) ∧ Drawn0 w w'))
    : Calls Try.prog 10 #[.slice A1 l1.length c1] w fun e w' => e = .returned (.string (strOfNums (hchars N (hlen N)))) ∧ Below w.heap.size w w' := by
  have HL1 := Aside0.mk hl1
  have HD1 := hD
  have HN0 := hN
  clear hD hN hl1
  have HC0 := Aside0.mk hr0
  clear hr0
  go_enter Try.func10, Try.ntmps10
  go_wp2_with (first | (go_at_call 31; with_reducible refine C.out.mono ?_; rintro e w1 ⟨rfl, ⟨nd, rfl⟩⟩) | fail)
  have HB := Aside0.mk (pw_below_drewN (Below.refl w.heap.size w) nd)
  have HC1 := Aside0.mk (Kd.C_drewN HC0.out nd)
  go_loopw [4, 7] (fun t4 t7 wr => HexL1 w w A1 l1 t4 t7 wr) (fun _ t7 _ => (intOf t7 + 1).toNat)
  case atStart => exact ⟨32, 31, by omega, by omega, rfl, rfl, HC1.out, HB.out⟩
  case round =>
    obtain ⟨p, x, hp, hx_, rfl, rfl, hc_, hb_⟩ := hrel
    have HC := Aside0.mk hc_
    have HB := Aside0.mk hb_
    clear hc_ hb_
    by_cases h0 : p = 0
    · subst h0
      have hlt : decide (0 ≤ x) = false := decide_eq_false (by omega)
      clear hx_ hp
      have HN := Aside0.mk (show hlen N ≤ 64 from hlen_le HN0.out)
      rw [show 64 - 2 * 0 = 64 from rfl, hNe.out]
      go_wp2_with fail
      go_loopw [4] (fun t4 wr => HexL2 w N t4 wr) (fun t4 _ => (match t4 with | .string b => b.size | _ => 0))
      case atStart => exact ⟨64, HN.out, Nat.le_refl _, rfl, HB.out⟩
      case round =>
        obtain ⟨n, hn1, hn2, rfl, hb_⟩ := hrel
        have HB := Aside0.mk hb_
        clear hb_
        obtain ⟨n, rfl⟩ : ∃ m, n = m + 1 := ⟨n - 1, by have := (hlen_ok N).1; omega⟩
        have hs : (strOfNums (hchars N (n + 1))).size = n + 1 := by rw [strOfNums_size, hchars_len]
        have hL := lead hn1
        have hF := hchars_first N n (by omega)
        have hF' : ∀ h : 0 < (strOfNums (hchars N (n + 1))).size, ((((strOfNums (hchars N (n + 1)))[0]'h).toNat : Nat) : Int) = ((hdig (N / 16 ^ n % 16) : Nat) : Int) := fun h => by rw [hchars_first N n h]
        have hR := hchars_rest N n
        have hR2 := Aside0.mk hR
        clear hR hF
        obtain ⟨b, hb⟩ : ∃ z, strOfNums (hchars N (n + 1)) = z := ⟨_, rfl⟩
        rw [hb] at hs hF' hR2 ⊢
        have k2 : 0 < b.size := by omega
        have k3 : b.size ≤ 64 := by omega
        have Hs := Aside0.mk hs
        have HN1 := Aside0.mk hn1
        have HN2 := Aside0.mk hn2
        have HBb := Aside0.mk hb
        by_cases hc : hlen N ≤ n
        · obtain ⟨n1, h48⟩ := hL.2 hc
          have HC2 := Aside0.mk hc
          rw [h48] at hF'
          have k1 : decide (1 < (b.size : Int)) = true := decide_eq_true (by omega)
          have hF2 : ∀ h : 0 < b.size, (((b[0]'h).toNat : Int) == 48) = true := fun h => by rw [hF' h]; rfl
          have HB2 := Aside0.mk hb
          clear hF' hs hb hn1 hn2 hc hL h48
          go_wp2_with fail
          have e : b.extract 1 b.size = strOfNums (hchars N n) := by rw [Hs.out]; exact hR2.out
          refine ⟨⟨n, HC2.out, by have := HN2.out; omega, by rw [e], HB.out⟩, ?_⟩
          show (b.extract 1 b.size).size < b.size
          rw [e, strOfNums_size, hchars_len, Hs.out]; omega
        · have hn : n + 1 = hlen N := by omega
          have hbN : b = strOfNums (hchars N (hlen N)) := by rw [← hn, hb]
          have HBN := Aside0.mk hbN
          clear hR2 HBb HN1 HN2 hn1 hn2 hb
          by_cases n1 : 1 ≤ n
          · have h48 : ¬ hdig (N / 16 ^ n % 16) = 48 := fun h => hc (hL.1 ⟨n1, h⟩)
            have k1 : decide (1 < (b.size : Int)) = true := decide_eq_true (by omega)
            have hF2 : ∀ h : 0 < b.size, (((b[0]'h).toNat : Int) == 48) = false := fun h => by rw [hF' h]; exact beq_eq_false_iff_ne.2 (by omega)
            clear hF' hs hc hL h48 hn hbN Hs
            go_wp2_with fail
            go_ret
            exact ⟨congrArg (fun z => Ending.returned (.string z)) HBN.out, HB.out⟩
          · have k1 : decide (1 < (b.size : Int)) = false := decide_eq_false (by omega)
            clear hF' hs hc hL hn hbN Hs
            go_wp2_with fail
            go_ret
            exact ⟨congrArg (fun z => Ending.returned (.string z)) HBN.out, HB.out⟩
    · obtain ⟨n, rfl⟩ : ∃ n, p = n + 1 := ⟨p - 1, by omega⟩
      have hn32 := Aside0.mk (show n < 32 by omega)
      have HX := Aside0.mk (show x = (n : Int) by omega)
      have hlt : decide (0 ≤ x) = true := decide_eq_true (by omega)
      have p0 : 0 ≤ x := by omega
      have q0 : x < ((l1.length : Nat) : Int) := by rw [HL1.out]; omega
      have q1 : decide (x < ((l1.length : Nat) : Int)) = true := decide_eq_true q0
      obtain ⟨ad, eA, hxc⟩ := Kd.at_int HC.out x p0 q0
      cases eA
      have hrd : rd l1 x = l1.getD n 0 := by rw [HX.out]; unfold rd; simp
      obtain ⟨D, hDg⟩ : ∃ z, rd l1 x = z := ⟨_, rfl⟩
      rw [hDg] at hxc hrd
      have hD0 := Dg_get HD1.out n
      rw [← hrd] at hD0
      obtain ⟨E, hE⟩ : ∃ z, Int.tdiv D 16 = z := ⟨_, rfl⟩
      obtain ⟨M, hM⟩ : ∃ z, Int.tmod D 16 = z := ⟨_, rfl⟩
      have hE2 : E = ((D.toNat / 16 : Nat) : Int) := by rw [← hE, Int.tdiv_eq_ediv_of_nonneg hD0.1]; omega
      have hM2 : M = ((D.toNat % 16 : Nat) : Int) := by rw [← hM, Int.tmod_eq_emod_of_nonneg hD0.1]; omega
      have e0 : 0 ≤ E := by omega
      have e1 : E < 16 := by omega
      have m0 : 0 ≤ M := by omega
      have m1 : M < 16 := by omega
      obtain ⟨b, hb⟩ : ∃ z, strOfNums (hchars (mq l1 (n + 1)) (64 - 2 * (n + 1))) = z := ⟨_, rfl⟩
      have hbs : b.size = 64 - 2 * (n + 1) := by rw [← hb, strOfNums_size, hchars_len]
      have hb60 : b.size ≤ 62 := by omega
      rw [hb]
      have HBb := Aside0.mk hb
      obtain ⟨E1, hE1⟩ : ∃ z, E + 1 = z := ⟨_, rfl⟩
      obtain ⟨M1, hM1⟩ : ∃ z, M + 1 = z := ⟨_, rfl⟩
      have sE := dig_slice (D.toNat / 16) (by omega) E E1 hE2 hE1.symm
      have sM := dig_slice (D.toNat % 16) (by omega) M M1 hM2 hM1.symm
      obtain ⟨XE, hXE⟩ : ∃ z, strOfNums [((hdig (D.toNat / 16) : Nat) : Int)] = z := ⟨_, rfl⟩
      obtain ⟨XM, hXM⟩ : ∃ z, strOfNums [((hdig (D.toNat % 16) : Nat) : Int)] = z := ⟨_, rfl⟩
      have xe : XE.size = 1 := by rw [← hXE]; rfl
      have xm : XM.size = 1 := by rw [← hXM]; rfl
      rw [hXE] at sE
      rw [hXM] at sM
      have HXE := Aside0.mk hXE
      have HXM := Aside0.mk hXM
      have u0 : 0 ≤ E1 := by omega
      have u1 : E1 ≤ 16 := by omega
      have u2 : 0 ≤ M1 := by omega
      have u3 : M1 ≤ 16 := by omega
      have HD := Aside0.mk hrd
      have HE := Aside0.mk hE2
      have HM := Aside0.mk hM2
      clear hrd hDg hD0 hE2 hM2 hb hbs h0 hp hx_ hXE hXM
      go_wp2_with fail
      go_region
      go_wp2
      have hx1 : wrap64 (x - 1) = (n : Int) - 1 := by have := HX.out; have := hn32.out; unfold wrap64; omega
      have es : b ++ XE ++ XM = strOfNums (hchars (mq l1 n) (64 - 2 * n)) := by
        have := hn32.out
        rw [← HBb.out, ← HXE.out, ← HXM.out, sns_app, sns_app, show 64 - 2 * n = (64 - 2 * (n + 1)) + 2 by omega, hchars_step HD1.out (by rw [HL1.out]; omega), HD.out]
      refine ⟨⟨n, _, by have := hn32.out; omega, hx1, rfl, by rw [es], Kd.C_drew HC.out, below_drew1 HB.out⟩, by simp only [intOf, hx1]; have := HX.out; omega⟩
set_option maxHeartbeats 2000000 in
theorem ref_hex_n (A0 : Option Addr) (c0 : Nat) (l0 l1 : List Int) (hl1 : l1.length = 32) (hD : Aside0 (Dg l1)) (N : Nat) (hNe : Aside0 (mq l1 0 = N)) (hN : Aside0 (N < 16 ^ 64)) (w : World) (C : Aside0 (Calls Try.prog 31 #[.slice A0 l0.length c0] w fun e w' => e = .returned (.bool true) ∧ Drawn0 w w'))
    (S : Aside0 (∀ m, Calls Try.prog 21 #[.slice A0 l0.length c0] (w.drewN m) fun e w' => ∃ v0_ : Value, e = .returned v0_ ∧ Kd.R (Kd.int .i64) 3 w' w.heap.size (fun _ => True) v0_ l1 ∧ Below w.heap.size w w'))
    : Calls Try.prog 10 #[.slice A0 l0.length c0] w fun e w' => e = .returned (.string (strOfNums (45 :: hchars N (hlen N)))) ∧ Below w.heap.size w w' := by
  have HL1 := Aside0.mk hl1
  have HD1 := hD
  have HN0 := hN
  clear hD hN hl1
  go_enter Try.func10, Try.ntmps10
  go_wp2_with (first | (go_at_call 21; with_reducible refine (S.out _).mono ?_; rintro e w2 ⟨v0_, rfl, hR, hb⟩; obtain ⟨A1, c1, rfl, hc1, hC⟩ := Kd.R_reads hR; have HC1 := Aside0.mk hC; have HB := Aside0.mk hb; clear hb hR hC hc1) | (go_at_call 31; with_reducible refine C.out.mono ?_; rintro e w1 ⟨rfl, ⟨nd, rfl⟩⟩) | fail)
  go_loopw [4, 7] (fun t4 t7 wr => HexL1 w w A1 l1 t4 t7 wr) (fun _ t7 _ => (intOf t7 + 1).toNat)
  case atStart => exact ⟨32, 31, by omega, by omega, rfl, rfl, HC1.out, HB.out⟩
  case round =>
    obtain ⟨p, x, hp, hx_, rfl, rfl, hc_, hb_⟩ := hrel
    have HC := Aside0.mk hc_
    have HB := Aside0.mk hb_
    clear hc_ hb_
    by_cases h0 : p = 0
    · subst h0
      have hlt : decide (0 ≤ x) = false := decide_eq_false (by omega)
      clear hx_ hp
      have HN := Aside0.mk (show hlen N ≤ 64 from hlen_le HN0.out)
      rw [show 64 - 2 * 0 = 64 from rfl, hNe.out]
      go_wp2_with fail
      go_loopw [4] (fun t4 wr => HexL2 w N t4 wr) (fun t4 _ => (match t4 with | .string b => b.size | _ => 0))
      case atStart => exact ⟨64, HN.out, Nat.le_refl _, rfl, HB.out⟩
      case round =>
        obtain ⟨n, hn1, hn2, rfl, hb_⟩ := hrel
        have HB := Aside0.mk hb_
        clear hb_
        obtain ⟨n, rfl⟩ : ∃ m, n = m + 1 := ⟨n - 1, by have := (hlen_ok N).1; omega⟩
        have hs : (strOfNums (hchars N (n + 1))).size = n + 1 := by rw [strOfNums_size, hchars_len]
        have hL := lead hn1
        have hF := hchars_first N n (by omega)
        have hF' : ∀ h : 0 < (strOfNums (hchars N (n + 1))).size, ((((strOfNums (hchars N (n + 1)))[0]'h).toNat : Nat) : Int) = ((hdig (N / 16 ^ n % 16) : Nat) : Int) := fun h => by rw [hchars_first N n h]
        have hR := hchars_rest N n
        have hR2 := Aside0.mk hR
        clear hR hF
        obtain ⟨b, hb⟩ : ∃ z, strOfNums (hchars N (n + 1)) = z := ⟨_, rfl⟩
        rw [hb] at hs hF' hR2 ⊢
        have k2 : 0 < b.size := by omega
        have k3 : b.size ≤ 64 := by omega
        have Hs := Aside0.mk hs
        have HN1 := Aside0.mk hn1
        have HN2 := Aside0.mk hn2
        have HBb := Aside0.mk hb
        by_cases hc : hlen N ≤ n
        · obtain ⟨n1, h48⟩ := hL.2 hc
          have HC2 := Aside0.mk hc
          rw [h48] at hF'
          have k1 : decide (1 < (b.size : Int)) = true := decide_eq_true (by omega)
          have hF2 : ∀ h : 0 < b.size, (((b[0]'h).toNat : Int) == 48) = true := fun h => by rw [hF' h]; rfl
          have HB2 := Aside0.mk hb
          clear hF' hs hb hn1 hn2 hc hL h48
          go_wp2_with fail
          have e : b.extract 1 b.size = strOfNums (hchars N n) := by rw [Hs.out]; exact hR2.out
          refine ⟨⟨n, HC2.out, by have := HN2.out; omega, by rw [e], HB.out⟩, ?_⟩
          show (b.extract 1 b.size).size < b.size
          rw [e, strOfNums_size, hchars_len, Hs.out]; omega
        · have hn : n + 1 = hlen N := by omega
          have hbN : b = strOfNums (hchars N (hlen N)) := by rw [← hn, hb]
          have HBN := Aside0.mk hbN
          clear hR2 HBb HN1 HN2 hn1 hn2 hb
          by_cases n1 : 1 ≤ n
          · have h48 : ¬ hdig (N / 16 ^ n % 16) = 48 := fun h => hc (hL.1 ⟨n1, h⟩)
            have k1 : decide (1 < (b.size : Int)) = true := decide_eq_true (by omega)
            have hF2 : ∀ h : 0 < b.size, (((b[0]'h).toNat : Int) == 48) = false := fun h => by rw [hF' h]; exact beq_eq_false_iff_ne.2 (by omega)
            clear hF' hs hc hL h48 hn hbN Hs
            go_wp2_with fail
            go_ret
            exact ⟨congrArg (fun z => Ending.returned (.string z)) ((congrArg (fun z => (⟨#[45]⟩ : ByteArray) ++ z) HBN.out).trans (sns_app [45] _)), HB.out⟩
          · have k1 : decide (1 < (b.size : Int)) = false := decide_eq_false (by omega)
            clear hF' hs hc hL hn hbN Hs
            go_wp2_with fail
            go_ret
            exact ⟨congrArg (fun z => Ending.returned (.string z)) ((congrArg (fun z => (⟨#[45]⟩ : ByteArray) ++ z) HBN.out).trans (sns_app [45] _)), HB.out⟩
    · obtain ⟨n, rfl⟩ : ∃ n, p = n + 1 := ⟨p - 1, by omega⟩
      have hn32 := Aside0.mk (show n < 32 by omega)
      have HX := Aside0.mk (show x = (n : Int) by omega)
      have hlt : decide (0 ≤ x) = true := decide_eq_true (by omega)
      have p0 : 0 ≤ x := by omega
      have q0 : x < ((l1.length : Nat) : Int) := by rw [HL1.out]; omega
      have q1 : decide (x < ((l1.length : Nat) : Int)) = true := decide_eq_true q0
      obtain ⟨ad, eA, hxc⟩ := Kd.at_int HC.out x p0 q0
      cases eA
      have hrd : rd l1 x = l1.getD n 0 := by rw [HX.out]; unfold rd; simp
      obtain ⟨D, hDg⟩ : ∃ z, rd l1 x = z := ⟨_, rfl⟩
      rw [hDg] at hxc hrd
      have hD0 := Dg_get HD1.out n
      rw [← hrd] at hD0
      obtain ⟨E, hE⟩ : ∃ z, Int.tdiv D 16 = z := ⟨_, rfl⟩
      obtain ⟨M, hM⟩ : ∃ z, Int.tmod D 16 = z := ⟨_, rfl⟩
      have hE2 : E = ((D.toNat / 16 : Nat) : Int) := by rw [← hE, Int.tdiv_eq_ediv_of_nonneg hD0.1]; omega
      have hM2 : M = ((D.toNat % 16 : Nat) : Int) := by rw [← hM, Int.tmod_eq_emod_of_nonneg hD0.1]; omega
      have e0 : 0 ≤ E := by omega
      have e1 : E < 16 := by omega
      have m0 : 0 ≤ M := by omega
      have m1 : M < 16 := by omega
      obtain ⟨b, hb⟩ : ∃ z, strOfNums (hchars (mq l1 (n + 1)) (64 - 2 * (n + 1))) = z := ⟨_, rfl⟩
      have hbs : b.size = 64 - 2 * (n + 1) := by rw [← hb, strOfNums_size, hchars_len]
      have hb60 : b.size ≤ 62 := by omega
      rw [hb]
      have HBb := Aside0.mk hb
      obtain ⟨E1, hE1⟩ : ∃ z, E + 1 = z := ⟨_, rfl⟩
      obtain ⟨M1, hM1⟩ : ∃ z, M + 1 = z := ⟨_, rfl⟩
      have sE := dig_slice (D.toNat / 16) (by omega) E E1 hE2 hE1.symm
      have sM := dig_slice (D.toNat % 16) (by omega) M M1 hM2 hM1.symm
      obtain ⟨XE, hXE⟩ : ∃ z, strOfNums [((hdig (D.toNat / 16) : Nat) : Int)] = z := ⟨_, rfl⟩
      obtain ⟨XM, hXM⟩ : ∃ z, strOfNums [((hdig (D.toNat % 16) : Nat) : Int)] = z := ⟨_, rfl⟩
      have xe : XE.size = 1 := by rw [← hXE]; rfl
      have xm : XM.size = 1 := by rw [← hXM]; rfl
      rw [hXE] at sE
      rw [hXM] at sM
      have HXE := Aside0.mk hXE
      have HXM := Aside0.mk hXM
      have u0 : 0 ≤ E1 := by omega
      have u1 : E1 ≤ 16 := by omega
      have u2 : 0 ≤ M1 := by omega
      have u3 : M1 ≤ 16 := by omega
      have HD := Aside0.mk hrd
      have HE := Aside0.mk hE2
      have HM := Aside0.mk hM2
      clear hrd hDg hD0 hE2 hM2 hb hbs h0 hp hx_ hXE hXM
      go_wp2_with fail
      go_region
      go_wp2
      have hx1 : wrap64 (x - 1) = (n : Int) - 1 := by have := HX.out; have := hn32.out; unfold wrap64; omega
      have es : b ++ XE ++ XM = strOfNums (hchars (mq l1 n) (64 - 2 * n)) := by
        have := hn32.out
        rw [← HBb.out, ← HXE.out, ← HXM.out, sns_app, sns_app, show 64 - 2 * n = (64 - 2 * (n + 1)) + 2 by omega, hchars_step HD1.out (by rw [HL1.out]; omega), HD.out]
      refine ⟨⟨n, _, by have := hn32.out; omega, hx1, rfl, by rw [es], Kd.C_drew HC.out, below_drew1 HB.out⟩, by simp only [intOf, hx1]; have := HX.out; omega⟩
end Go.Proofs.Ytbmeokhoebjdbaa.F
end

section
/- zelligeref02.Hex in the print's form. -/
namespace Go.Proofs.Ytbmeokhoebjdbaa.F
open Go Go.RowKit Go.Proofs.YtbmeokhoebjdbaaW.PrintWords Go.Proofs.YtbmeokhoebjdbaaW.PrintLast Go.Proofs.YtbmeokhoebjdbaaW.PrintMore Go.Proofs.Ytbmeokhoebjdbaa.D8
set_option linter.unusedVariables false
def zelligeref02_Hex.f (l0 : List Int) : Option ByteArray := if l0.length = 32 ∧ Dg l0 then some (hext (sv l0)) else none
theorem zelligeref02_Hex.calls (A0 : Option Addr) (c0 : Nat) (l0 : List Int) (r : ByteArray) (w : World) (hr0 : Kd.C (Kd.int .i64) w A0 l0.length l0) (hc0 : l0.length ≤ c0) (h : zelligeref02_Hex.f l0 = some r) :
    Calls Try.prog 10 #[.slice A0 l0.length c0] w fun e w' => e = .returned (.string r) ∧ Below w.heap.size w w' := by
  unfold zelligeref02_Hex.f at h
  by_cases hb : l0.length = 32 ∧ Dg l0
  · rw [if_pos hb] at h
    obtain rfl := Option.some.inj h
    obtain ⟨hl, hD⟩ := hb
    have e16 : (16 : Nat) ^ 64 = 115792089237316195423570985008687907853269984665640564039457584007913129639936 := rfl
    have hB := rbelow_f hD (by omega) (by omega)
    have v0 := val_nonneg hD
    have v1 := val_lt hD
    rw [hl, P32] at hB v1
    have hs : sv l0 = if 2 * val l0 < 115792089237316195423570985008687907853269984665640564039457584007913129639936 then val l0 else val l0 - 115792089237316195423570985008687907853269984665640564039457584007913129639936 := by unfold sv; rw [hl, P32]
    rw [hs]
    unfold hext
    by_cases n : 2 * val l0 < 115792089237316195423570985008687907853269984665640564039457584007913129639936
    · rw [if_pos n, if_neg (by omega)]
      rw [decide_eq_false (by omega)] at hB
      have e : mq l0 0 = (val l0).natAbs := by unfold mq; rw [List.drop_zero]; omega
      have hA : (val l0).natAbs < 16 ^ 64 := by rw [e16]; omega
      have C := zelligeref01_Below.calls A0 c0 l0 false w hr0 hc0 hB
      generalize (val l0).natAbs = N at e hA ⊢
      exact ref_hex_p A0 c0 l0 hl ⟨hD⟩ N ⟨e⟩ ⟨hA⟩ w hr0 ⟨C⟩
    · rw [if_neg n, if_pos (by omega)]
      rw [decide_eq_true (by omega)] at hB
      obtain ⟨k, hk⟩ : ∃ k : Nat, 3000 ≤ k := ⟨3000, Nat.le_refl _⟩
      obtain ⟨l1, f1, g1, d1, w1⟩ := neg_f hD (by omega) (by omega) hk
      rw [hl] at g1 w1
      rw [P32] at w1
      have e : mq l1 0 = (val l0 - 115792089237316195423570985008687907853269984665640564039457584007913129639936).natAbs := by unfold mq; rw [List.drop_zero]; omega
      have hA : (val l0 - 115792089237316195423570985008687907853269984665640564039457584007913129639936).natAbs < 16 ^ 64 := by rw [e16]; omega
      have C := zelligeref01_Below.calls A0 c0 l0 true w hr0 hc0 hB
      generalize (val l0 - 115792089237316195423570985008687907853269984665640564039457584007913129639936).natAbs = N at e hA ⊢
      refine ref_hex_n A0 c0 l0 l1 g1 ⟨d1⟩ N ⟨e⟩ ⟨hA⟩ w ⟨C⟩ ⟨fun m => (zelligeref01_Neg.calls k A0 c0 l0 l1 (w.drewN m) (Kd.C_drewN hr0 m) hc0 f1).mono ?_⟩
      rintro e w' ⟨v, rfl, hR, hb⟩
      exact ⟨v, rfl, hR, below_step (pw_below_drewN (Below.refl _ _) m) hb⟩
  · rw [if_neg hb] at h
    cases h
end Go.Proofs.Ytbmeokhoebjdbaa.F
end

section
namespace Go.Proofs.Ytbmeokhoebjdbaa.F
open Go.RowKit Go.Proofs.YtbmeokhoebjdbaaW.PrintWords Go.Proofs.YtbmeokhoebjdbaaW.PrintLast Go.Proofs.YtbmeokhoebjdbaaW.PrintMore
attribute [local go_sem] max2_int min2_int max_two min_two max_three min_three max_four min_four   -- for this text's walks alone
set_option linter.unusedVariables false
set_option linter.unusedSimpArgs false

/-! ### zelligeref02_Long: function 13 -/
mutual
def zelligeref02_Long.j0 : Nat → List Int → Int → Option (List Int)
  | 0, _, _ => none
  | k + 1, x3, x4 => zelligeref02_Long.l0 k x3 x4
def zelligeref02_Long.l0 : Nat → List Int → Int → Option (List Int)
  | 0, _, _ => none
  | k + 1, x3, x4 => if (x3.length : Int) < 32 then (if x3.length < 17592186044416 then (zelligeref02_Long.l0 k (x3 ++ [x4]) x4) else (none)) else (some x3)
end
def zelligeref02_Long.f (k : Nat) (a0_0 : Int) (a0_1 : Int) : Option (List Int) := (zelligeref01_Of.f k a0_0 a0_1).bind fun t150 => ((zelligeref01_Below.f t150).bind fun t153 => (if t153 = true then (zelligeref02_Long.j0 k t150 255) else (zelligeref02_Long.j0 k t150 0)))
theorem zelligeref02_Long.mono_l : ∀ k, (∀ y0 y1, LeO (zelligeref02_Long.j0 k y0 y1) (zelligeref02_Long.j0 (k + 1) y0 y1)) ∧ (∀ y0 y1, LeO (zelligeref02_Long.l0 k y0 y1) (zelligeref02_Long.l0 (k + 1) y0 y1))
  | 0 => ⟨fun _ _ r h => by simp [zelligeref02_Long.j0] at h, fun _ _ r h => by simp [zelligeref02_Long.l0] at h⟩
  | k + 1 => by
    obtain ⟨ih0, ih1⟩ := zelligeref02_Long.mono_l k
    refine ⟨?_, ?_⟩
    · intro y0 y1
      unfold zelligeref02_Long.j0
      repeat' first
      | (with_reducible exact ih0 _ _)
      | (with_reducible exact ih1 _ _)
      | (with_reducible exact zelligeref01_Of.mono _ _ _)
      | (with_reducible exact LeO.refl _)
      | (with_reducible exact LeO.none _)
      | (with_reducible refine LeO.ite ?_ ?_)
      | (with_reducible refine LeO.bind ?_ (fun _ => ?_))
      | exact ih0 _ _
      | exact ih1 _ _
      | exact zelligeref01_Of.mono _ _ _
      | exact LeO.none _
      | refine LeO.ite ?_ ?_
      | refine LeO.bind ?_ (fun _ => ?_)
    · intro y0 y1
      unfold zelligeref02_Long.l0
      repeat' first
      | (with_reducible exact ih0 _ _)
      | (with_reducible exact ih1 _ _)
      | (with_reducible exact zelligeref01_Of.mono _ _ _)
      | (with_reducible exact LeO.refl _)
      | (with_reducible exact LeO.none _)
      | (with_reducible refine LeO.ite ?_ ?_)
      | (with_reducible refine LeO.bind ?_ (fun _ => ?_))
      | exact ih0 _ _
      | exact ih1 _ _
      | exact zelligeref01_Of.mono _ _ _
      | exact LeO.none _
      | refine LeO.ite ?_ ?_
      | refine LeO.bind ?_ (fun _ => ?_)
theorem zelligeref02_Long.mono : ∀ a0 a1 k, LeO (zelligeref02_Long.f k a0 a1) (zelligeref02_Long.f (k + 1) a0 a1) := by
  intro a0 a1 k
  obtain ⟨ih0, ih1⟩ := zelligeref02_Long.mono_l k
  unfold zelligeref02_Long.f
  repeat' first
      | (with_reducible exact ih0 _ _)
      | (with_reducible exact ih1 _ _)
      | (with_reducible exact zelligeref01_Of.mono _ _ _)
      | (with_reducible exact LeO.refl _)
      | (with_reducible exact LeO.none _)
      | (with_reducible refine LeO.ite ?_ ?_)
      | (with_reducible refine LeO.bind ?_ (fun _ => ?_))
      | exact ih0 _ _
      | exact ih1 _ _
      | exact zelligeref01_Of.mono _ _ _
      | exact LeO.none _
      | refine LeO.ite ?_ ?_
      | refine LeO.bind ?_ (fun _ => ?_)
set_option maxHeartbeats 8000000 in
set_option maxRecDepth 100000 in
theorem zelligeref02_Long.calls (k : Nat) (a0_0 : Int) (a0_1 : Int) (r : List Int) (w : World) (h : zelligeref02_Long.f k a0_0 a0_1 = some r) :
    Calls Try.prog 13 #[.agg #[.int .i64 a0_0, .int .u64 a0_1]] w fun e w' => ∃ v0_ : Value, e = .returned (v0_) ∧ Kd.R (Kd.int .i64) 3 w' w.heap.size (fun _ => True) v0_ r ∧ Below w.heap.size w w' := by
  have hu33 := Try.underlying33
  have HB := Aside0.mk (Below.refl w.heap.size w)
  have H : ((zelligeref01_Of.f k a0_0 a0_1).bind fun t150 => ((zelligeref01_Below.f t150).bind fun t153 => (if t153 = true then (zelligeref02_Long.j0 k t150 255) else (zelligeref02_Long.j0 k t150 0)))) = some r := h
  clear h
  replace H := Option.bind_eq_some_iff.mp H
  obtain ⟨t150, A20, H⟩ := H
  replace H : ((zelligeref01_Below.f t150).bind fun t153 => (if t153 = true then (zelligeref02_Long.j0 k t150 255) else (zelligeref02_Long.j0 k t150 0))) = some r := H
  have A2 := Aside0.mk A20
  clear A20
  replace H := Option.bind_eq_some_iff.mp H
  obtain ⟨t153, A30, H⟩ := H
  replace H : (if t153 = true then (zelligeref02_Long.j0 k t150 255) else (zelligeref02_Long.j0 k t150 0)) = some r := H
  have A3 := Aside0.mk A30
  clear A30
  have HC4 := Aside0.mk H
  clear H
  go_enter Try.func13, Try.ntmps13
  go_upto_if 8 with (first | ((with_reducible refine gate_dst (N := 1) rfl ?_); refine box_event ?hg (N := 1) ?hd (cs := #[.int .i64 a0_0, .int .u64 a0_1]) (t := 33) ?hr ?_; (case hd => rfl); (case hg => rfl); (case hr => first | (go_simp; done) | (go_simp; rfl)); intro gb149 hg w5 hbox hb; have n0_ := Aside0.mk (below_step (by repeat (first | (with_reducible first | exact HB.out | apply below_alloc | apply pw_below_drewN | apply below_drew1) | exact HB.out)) hb); have n1_ := Aside0.mk (hbox); have n2_ := Aside0.mk ((by rw [hg]; exact (below_size (by repeat (first | (with_reducible first | exact HB.out | apply below_alloc | apply pw_below_drewN | apply below_drew1) | exact HB.out))) : w.heap.size ≤ gb149)); have n3_ := Aside0.mk ((by rw [hg]; exact (below_size (by repeat (first | (with_reducible first | exact HB.out | apply below_alloc | apply pw_below_drewN | apply below_drew1) | exact HB.out))) : w.heap.size ≤ gb149)); clear HB; have HB := n0_; have BK149 := n1_; have GW149 := n2_; have GE149 := n3_; clear n0_ n1_ n2_ n3_; clear hb hbox hg; have hcz6_0 : w5.cell? ⟨gb149, 0, none⟩ = some (.int .i64 a0_0) := (blk_cell BK149.out 0).trans rfl; have hcz6_1 : w5.cell? ⟨gb149, 1, none⟩ = some (.int .u64 a0_1) := (blk_cell BK149.out 1).trans rfl; have hfz6_0 := blk_frozen BK149.out 0; have hfz6_1 := blk_frozen BK149.out 1) | ((with_reducible refine gate_callee (f := 28) rfl ?_); refine goesL_ (some 6) rfl rfl Try.func28 (by kernel_rfl) rfl #[.agg #[.int .i64 a0_0, .int .u64 a0_1]] rfl (by (try simp only [List.map_toArray, List.map_cons, List.map_nil]); first | done | rfl | (simp only [List.length_drop, List.length_take]; rfl)) ?_; (with_reducible refine (zelligeref01_Of.calls k a0_0 a0_1 t150 _ A2.out).mono ?_); rintro e w7 ⟨v151, rfl, ho0, hb⟩; refine ⟨_, rfl, ?_⟩; have n0_ := Aside0.mk (Kd.R_lower ho0 (below_size (by repeat (first | (with_reducible first | exact HB.out | apply below_alloc | apply pw_below_drewN | apply below_drew1 | refine below_set ?_ GE149.out) | exact HB.out)))); have n1_ := Aside0.mk (blk_below (g := gb149) (o := .cells #[.int .i64 a0_0, .int .u64 a0_1] 33 (0, 0)) (by (with_reducible repeat (first | refine blk_drewN ?_ _ | refine blk_drew ?_ | refine blk_alloc ?_ _)); exact BK149.out) hb); have n2_ := Aside0.mk (below_step (by repeat (first | (with_reducible first | exact HB.out | apply below_alloc | apply pw_below_drewN | apply below_drew1 | refine below_set ?_ GE149.out) | exact HB.out)) hb); clear BK149; clear HB; have HO152 := n0_; have BK149 := n1_; have HB := n2_; clear n0_ n1_ n2_; (try clear hb); (try clear hb2); (try clear hk); (try clear hi); (try clear ho0); obtain ⟨Ao8, co8, eo8⟩ := Kd.R_slice HO152.out; subst eo8) | ((with_reducible refine gate_callee (f := 31) rfl ?_); refine goesL_ (some 8) rfl rfl Try.func31 (by kernel_rfl) rfl #[.slice Ao8 t150.length co8] rfl (by (try simp only [List.map_toArray, List.map_cons, List.map_nil]); first | done | rfl | (simp only [List.length_drop, List.length_take]; rfl)) ?_; (with_reducible refine (zelligeref01_Below.calls _ _ t150 t153 _ ?side1 ?side2 A3.out).mono ?_); (case side1 => repeat (first | exact (Kd.R_reads' HO152.out).2.2 | (with_reducible refine Kd.C_alloc ?_ _) | (with_reducible refine Kd.C_drewN ?_ _) | (with_reducible refine Kd.C_drew ?_))); (case side2 => exact (Kd.R_reads' HO152.out).2.1); rintro e w' ⟨rfl, ⟨nd, rfl⟩⟩; refine ⟨_, rfl, ?_⟩))
  (try simp only [Act.put, List.setIfInBounds_toArray, List.set_cons_zero, List.set_cons_succ])
  go_cut [4] (fun v4 wc => ∃ (kq : Nat) (x4_3 : Int), v4 = .int .i64 x4_3 ∧ Aside0 (zelligeref02_Long.j0 kq t150 x4_3 = some r) ∧ Aside0 (kq ≤ k) ∧ Aside0 (Kd.R (Kd.int .i64) 3 wc w.heap.size (fun _ => True) (.slice Ao8 t150.length co8) t150) ∧ Aside0 (wc.heap[gb149]? = some (.cells #[.int .i64 a0_0, .int .u64 a0_1] 33 (0, 0))) ∧ Aside0 (Below w.heap.size w wc))
  case first =>
    have H := HC4.out
    clear HC4
    by_cases c9 : t153 = true
    · subst c9
      have H1 : (zelligeref02_Long.j0 k t150 255) = some r := by rw [if_pos rfl] at H; exact H
      clear H
      have H := H1
      clear H1
      have H' := Aside0.mk H
      clear H
      go_wp2
      go_meet
      case rel => exact ⟨_, (255), (by first | rfl | (simp; done) | (simp [*]; done)), H', ⟨by first | omega | exact Nat.le_refl _⟩, ⟨by (with_reducible repeat (first | apply Kd.R_alloc | apply Kd.R_drewN | apply Kd.R_drew)); exact HO152.out⟩, ⟨by (with_reducible repeat (first | refine blk_drewN ?_ _ | refine blk_drew ?_ | refine blk_alloc ?_ _)); exact BK149.out⟩, ⟨by repeat (first | (with_reducible first | exact HB.out | apply below_alloc | apply pw_below_drewN | apply below_drew1 | refine below_set ?_ GE149.out) | exact HB.out)⟩⟩
    · replace c9 := Bool.eq_false_iff.mpr c9
      subst c9
      have H1 : (zelligeref02_Long.j0 k t150 0) = some r := by rw [if_neg (show ¬ (false = true) by decide)] at H; exact H
      clear H
      have H := H1
      clear H1
      have H' := Aside0.mk H
      clear H
      go_wp2
      go_meet
      case rel => exact ⟨_, (0), (by first | rfl | (simp; done) | (simp [*]; done)), H', ⟨by first | omega | exact Nat.le_refl _⟩, ⟨by (with_reducible repeat (first | apply Kd.R_alloc | apply Kd.R_drewN | apply Kd.R_drew)); exact HO152.out⟩, ⟨by (with_reducible repeat (first | refine blk_drewN ?_ _ | refine blk_drew ?_ | refine blk_alloc ?_ _)); exact BK149.out⟩, ⟨by repeat (first | (with_reducible first | exact HB.out | apply below_alloc | apply pw_below_drewN | apply below_drew1 | refine below_set ?_ GE149.out) | exact HB.out)⟩⟩
  case rest =>
    clear HC4
    try clear c1
    try clear c2
    try clear p2
    try clear c3
    try clear c9
    try clear hcz6_0
    try clear hcz6_1
    try clear hfz6_0
    try clear hfz6_1
    obtain ⟨kq, x4_3, rfl, HA, HJ3, HO_3, BK149, HB⟩ := hcut
    cases kq with
    | zero => exact absurd HA.out (by simp [zelligeref02_Long.j0])
    | succ kj3 =>
      have H := HA.out
      clear HA
      simp only [zelligeref02_Long.j0] at H
      have H' := Aside0.mk H
      clear H
      go_wp2
      go_loopg [3] kj3 (fun kq v3 w' => ∃ (x3_2 : List Int), Aside0 (zelligeref02_Long.l0 kq x3_2 x4_3 = some r) ∧ Aside0 (kq ≤ kj3) ∧ Aside0 (Kd.R (Kd.int .i64) 3 w' w.heap.size (fun _ => True) v3 x3_2) ∧ Aside0 (w'.heap[gb149]? = some (.cells #[.int .i64 a0_0, .int .u64 a0_1] 33 (0, 0))) ∧ Aside0 (Below w.heap.size w w'))
      case atStart => exact ⟨(t150), H', ⟨Nat.le_refl _⟩, ⟨by (with_reducible repeat (first | apply Kd.R_alloc | apply Kd.R_drewN | apply Kd.R_drew)); exact HO_3.out⟩, ⟨by (with_reducible repeat (first | refine blk_drewN ?_ _ | refine blk_drew ?_ | refine blk_alloc ?_ _)); exact BK149.out⟩, ⟨by repeat (first | (with_reducible first | exact HB.out | apply below_alloc | apply pw_below_drewN | apply below_drew1 | refine below_set ?_ GE149.out) | exact HB.out)⟩⟩
      case round =>
        clear H'
        try clear c1
        try clear c2
        try clear p2
        try clear c3
        try clear c9
        try clear hcz6_0
        try clear hcz6_1
        try clear hfz6_0
        try clear hfz6_1
        try clear p2
        obtain ⟨x3_2, HA, HK2, HO_3, BK149, HB⟩ := hrel
        cases gk with
        | zero => exact absurd HA.out (by simp [zelligeref02_Long.l0])
        | succ k2 =>
          have H := HA.out
          clear HA
          simp only [zelligeref02_Long.l0] at H
          by_cases c10 : (x3_2.length : Int) < 32
          · rw [if_pos c10] at H
            have c10b0 : decide ((x3_2.length : Int) < 32) = true := decide_eq_true c10
            have c10b1 : decide (x3_2.length < 32) = true := decide_eq_true (by omega)
            clear c10
            by_cases c11 : x3_2.length < 17592186044416
            · rw [if_pos c11] at H
              have LMc11 := Aside0.mk c11
              clear c11
              obtain ⟨y154, hy154⟩ : ∃ y_ : List Int, y_ = (x3_2 ++ [x4_3]) := ⟨_, rfl⟩
              replace H : (zelligeref02_Long.l0 k2 y154 x4_3) = some r := by first | (rw [hy154]; with_reducible exact H) | (have H2_ := (Option.bind_some _ _).symm.trans H; rw [hy154]; with_reducible exact H2_) | (have H2_ := (Option.bind_some _ _).symm.trans H; with_reducible exact H2_) | with_reducible exact H | (rw [hy154]; exact H) | exact H
              have Ny154 := Aside0.mk hy154
              clear hy154
              have H' := Aside0.mk H
              clear H
              obtain ⟨Ao12, co12, eo12⟩ := Kd.R_slice HO_3.out
              subst eo12
              go_wp2_with (first | ((with_reducible refine gate_builtin (b := .append) (xs := #[.tmp 12, .tmp 14]) rfl ?_); at_builtin; refine Kd.R_append (Kd.int .i64) (w0 := w) w.heap.size rfl (.tmp 12) (.tmp 14) 28 3 (.int .i64 0) 8 rfl Try.underlying28 info3 rfl (by decide) (by omega) (.slice Ao12 x3_2.length co12) x3_2 x4_3 [.int .i64 x4_3] (fun _ => True) (fun _ => False) rfl rfl ?aP (fun _ hk => hk.elim) ?aF ?aO ?aB ?aS ?aL ?_; (case aP => exact rfl); (case aB => exact (by repeat (first | (with_reducible first | exact HB.out | apply below_alloc | apply pw_below_drewN | apply below_drew1 | refine below_set ?_ GE149.out) | exact HB.out))); (case aF => exact (fun _ _ => trivial)); (case aO => exact (by (with_reducible repeat (first | apply Kd.R_alloc | apply Kd.R_drewN | apply Kd.R_drew)); exact HO_3.out)); (case aS => exact (below_size (by repeat (first | (with_reducible first | exact HB.out | apply below_alloc | apply pw_below_drewN | apply below_drew1 | refine below_set ?_ GE149.out) | exact HB.out)))); (case aL => have := LMc11.out; omega); intro v155 w13 ho hb hg hat; rw [← Ny154.out] at ho; have n0_ := Aside0.mk (blk_grown (g := gb149) (o := .cells #[.int .i64 a0_0, .int .u64 a0_1] 33 (0, 0)) (by (with_reducible repeat (first | refine blk_drewN ?_ _ | refine blk_drew ?_ | refine blk_alloc ?_ _)); exact BK149.out) hg (Kd.R_ne HO_3.out BK149.out (by decide))); have n1_ := Aside0.mk (hb); have n2_ := Aside0.mk (ho); clear BK149; clear HB; clear HO_3; have BK149 := n0_; have HB := n1_; have HO156 := n2_; clear n0_ n1_ n2_; clear ho hb hg hat))
              go_roundg k2
              case measure => have := HJ3.out; have := HK2.out; omega
              case rel => exact ⟨(y154), H', ⟨by have := HJ3.out; have := HK2.out; omega⟩, ⟨by (with_reducible repeat (first | apply Kd.R_alloc | apply Kd.R_drewN | apply Kd.R_drew)); exact HO156.out⟩, ⟨by (with_reducible repeat (first | refine blk_drewN ?_ _ | refine blk_drew ?_ | refine blk_alloc ?_ _)); exact BK149.out⟩, ⟨by repeat (first | (with_reducible first | exact HB.out | apply below_alloc | apply pw_below_drewN | apply below_drew1 | refine below_set ?_ GE149.out) | exact HB.out)⟩⟩
            · rw [if_neg c11] at H
              exact absurd H (by simp)
          · rw [if_neg c10] at H
            have c10b0 : decide ((x3_2.length : Int) < 32) = false := decide_eq_false c10
            have c10b1 : decide (x3_2.length < 32) = false := decide_eq_false (by omega)
            clear c10
            obtain rfl := Option.some.inj H
            obtain ⟨Ao14, co14, eo14⟩ := Kd.R_slice HO_3.out
            subst eo14
            go_wp2
            go_ret
            exact ⟨_, by first | rfl | (simp [errW_none, errW_some] <;> rfl) | (simp [*, errW_none, errW_some] <;> rfl), by (with_reducible repeat (first | apply Kd.R_alloc | apply Kd.R_drewN | apply Kd.R_drew)); exact HO_3.out, by repeat (first | (with_reducible first | exact HB.out | apply below_alloc | apply pw_below_drewN | apply below_drew1 | refine below_set ?_ GE149.out) | exact HB.out)⟩

end Go.Proofs.Ytbmeokhoebjdbaa.F
end

section
namespace Go.Proofs.Ytbmeokhoebjdbaa.F
open Go.RowKit Go.Proofs.YtbmeokhoebjdbaaW.PrintWords Go.Proofs.YtbmeokhoebjdbaaW.PrintLast Go.Proofs.YtbmeokhoebjdbaaW.PrintMore
attribute [local go_sem] max2_int min2_int max_two min_two max_three min_three max_four min_four   -- for this text's walks alone
set_option linter.unusedVariables false
set_option linter.unusedSimpArgs false

/-! ### zelligelaw02_lives: function 12 -/
def zelligelaw02_lives.f  : Option (Bool) := (quad_Mul.f 1 0 (-1) 18446744073709551615).bind fun bt131 => ((quad_Hex.f bt131.1 bt131.2.1 bt131.2.2.1 bt131.2.2.2).bind fun t135 => (some (t135.toList == ([45, 49, 48, 48, 48, 48, 48, 48, 48, 48, 48, 48, 48, 48, 48, 48, 48, 48] : List UInt8))))
set_option maxHeartbeats 8000000 in
set_option maxRecDepth 100000 in
theorem zelligelaw02_lives.calls  (r : Bool) (w : World) (h : zelligelaw02_lives.f  = some r) :
    Calls Try.prog 12 #[] w fun e w' => e = .returned (.bool r) ∧ Below w.heap.size w w' := by
  have hu33 := Try.underlying33
  have HB := Aside0.mk (Below.refl w.heap.size w)
  have H : ((quad_Mul.f 1 0 (-1) 18446744073709551615).bind fun bt131 => ((quad_Hex.f bt131.1 bt131.2.1 bt131.2.2.1 bt131.2.2.2).bind fun t135 => (some (t135.toList == ([45, 49, 48, 48, 48, 48, 48, 48, 48, 48, 48, 48, 48, 48, 48, 48, 48, 48] : List UInt8))))) = some r := h
  clear h
  replace H := Option.bind_eq_some_iff.mp H
  obtain ⟨⟨t131, t132, t133, t134⟩, A10, H⟩ := H
  replace H : ((quad_Hex.f t131 t132 t133 t134).bind fun t135 => (some (t135.toList == ([45, 49, 48, 48, 48, 48, 48, 48, 48, 48, 48, 48, 48, 48, 48, 48, 48, 48] : List UInt8)))) = some r := H
  have A1 := Aside0.mk A10
  clear A10
  replace H := Option.bind_eq_some_iff.mp H
  obtain ⟨t135, A20, H⟩ := H
  replace H : (some (t135.toList == ([45, 49, 48, 48, 48, 48, 48, 48, 48, 48, 48, 48, 48, 48, 48, 48, 48, 48] : List UInt8))) = some r := H
  have A2 := Aside0.mk A20
  clear A20
  obtain rfl := Option.some.inj H
  go_enter Try.func12, Try.ntmps12
  go_wp2_with (first | ((with_reducible refine gate_callee (f := 16) rfl ?_); refine goesL_ (some 3) rfl rfl Try.func16 (by kernel_rfl) rfl #[.agg #[.int .i64 1, .int .u64 0], .agg #[.int .i64 (-1), .int .u64 18446744073709551615]] rfl (by (try simp only [List.map_toArray, List.map_cons, List.map_nil]); first | done | rfl | (simp only [List.length_drop, List.length_take]; rfl)) ?_; (with_reducible refine (quad_Mul.calls 1 0 (-1) 18446744073709551615 t131 t132 t133 t134 _ A1.out).mono ?_); rintro e w3 ⟨rfl, hb⟩; refine ⟨_, rfl, ?_⟩; have n0_ := Aside0.mk (below_step (by repeat (first | (with_reducible first | exact HB.out | apply below_alloc | apply pw_below_drewN | apply below_drew1) | exact HB.out)) hb); clear HB; have HB := n0_; clear n0_; (try clear hb); (try clear hb2); (try clear hk); (try clear hi)) | ((with_reducible refine gate_callee (f := 9) rfl ?_); refine goesL_ (some 4) rfl rfl Try.func9 (by kernel_rfl) rfl #[.agg #[.int .u64 t131, .int .u64 t132, .int .u64 t133, .int .u64 t134]] rfl (by (try simp only [List.map_toArray, List.map_cons, List.map_nil]); first | done | rfl | (simp only [List.length_drop, List.length_take]; rfl)) ?_; (with_reducible refine (quad_Hex.calls t131 t132 t133 t134 t135 _ A2.out).mono ?_); rintro e w4 ⟨rfl, hb⟩; refine ⟨_, rfl, ?_⟩; have n0_ := Aside0.mk (below_step (by repeat (first | (with_reducible first | exact HB.out | apply below_alloc | apply pw_below_drewN | apply below_drew1) | exact HB.out)) hb); clear HB; have HB := n0_; clear n0_; (try clear hb); (try clear hb2); (try clear hk); (try clear hi)))
  go_ret
  exact ⟨by first | rfl | (simp [errW_none, errW_some] <;> rfl) | (simp [*, errW_none, errW_some] <;> rfl), by repeat (first | (with_reducible first | exact HB.out | apply below_alloc | apply pw_below_drewN | apply below_drew1) | exact HB.out)⟩

end Go.Proofs.Ytbmeokhoebjdbaa.F
end

section
/- What quad's functions and the reference's come to, and that the living call lives: plain lists and whole numbers. -/
namespace Go.Proofs.Ytbmeokhoebjdbaa.Qd
open Go Go.RowKit Go.Proofs.YtbmeokhoebjdbaaW.PrintWords Go.Proofs.Ytbmeokhoebjdbaa.F Go.Proofs.Ytbmeokhoebjdbaa.D8
set_option linter.unusedVariables false
attribute [local irreducible] val P
theorem bu64_ {n : Int} (h : (Lit.int .u64 n).wf = true) : 0 ≤ n ∧ n < 18446744073709551616 := by
  have := bounds_u64 h
  omega
theorem qof_f {a b c d : Int} (h : QOk a b c d) : zelligeref02_Of.f a b c d = some (qdg a b c d) := by unfold zelligeref02_Of.f; rw [if_pos h]
theorem rquad_f {l : List Int} (hl : l.length = 32) (hD : Dg l) : zelligeref02_Quad.f l = some (qq4 (val l)) := by unfold zelligeref02_Quad.f; rw [if_pos ⟨hl, hD⟩]
theorem rhex_f {l : List Int} (hl : l.length = 32) (hD : Dg l) : zelligeref02_Hex.f l = some (hext (sv l)) := by unfold zelligeref02_Hex.f; rw [if_pos ⟨hl, hD⟩]
theorem qhex_f {a b c d : Int} (h : QOk a b c d) : quad_Hex.f a b c d = some (hext (qs (qv a b c d))) := by unfold quad_Hex.f; rw [if_pos h]
theorem qadd_f {a b c d a' b' c' d' : Int} (h : QOk a b c d) (h' : QOk a' b' c' d') : quad_Add.f a b c d a' b' c' d' = some (qq4 (qv a b c d + qv a' b' c' d')) := by unfold quad_Add.f; rw [if_pos ⟨h, h'⟩]
theorem qsub_f {a b c d a' b' c' d' : Int} (h : QOk a b c d) (h' : QOk a' b' c' d') : quad_Sub.f a b c d a' b' c' d' = some (qq4 (qv a b c d - qv a' b' c' d')) := by unfold quad_Sub.f; rw [if_pos ⟨h, h'⟩]
theorem qneg_f {a b c d : Int} (h : QOk a b c d) : quad_Neg.f a b c d = some (qq4 (-qv a b c d)) := by unfold quad_Neg.f; rw [if_pos h]
theorem qmul_f {a b c d : Int} (h : WOk a b) (h' : WOk c d) : quad_Mul.f a b c d = some (qq4 (wv a b * wv c d)) := by unfold quad_Mul.f; rw [if_pos ⟨h, h'⟩]
theorem qOf_f {a b : Int} (h : WOk a b) : quad_Of.f a b = some (qq4 (wv a b)) := by unfold quad_Of.f; rw [if_pos h]
/-- The same modulo 2^256. -/
theorem qcong {n m : Int} (h : n % P 32 = m % P 32) : qq4 n = qq4 m := by
  rw [P32] at h
  have e : n = m + 115792089237316195423570985008687907853269984665640564039457584007913129639936 * (n / 115792089237316195423570985008687907853269984665640564039457584007913129639936 - m / 115792089237316195423570985008687907853269984665640564039457584007913129639936) := by omega
  generalize n / 115792089237316195423570985008687907853269984665640564039457584007913129639936 - m / 115792089237316195423570985008687907853269984665640564039457584007913129639936 = t at e
  subst e
  clear h
  unfold qq4 q0 q1 q2 q3
  have d1 : (m + 115792089237316195423570985008687907853269984665640564039457584007913129639936 * t) / 18446744073709551616 = m / 18446744073709551616 + 6277101735386680763835789423207666416102355444464034512896 * t := by omega
  have d2 : (m / 18446744073709551616 + 6277101735386680763835789423207666416102355444464034512896 * t) / 18446744073709551616 = m / 18446744073709551616 / 18446744073709551616 + 340282366920938463463374607431768211456 * t := by omega
  have d3 : (m / 18446744073709551616 / 18446744073709551616 + 340282366920938463463374607431768211456 * t) / 18446744073709551616 = m / 18446744073709551616 / 18446744073709551616 / 18446744073709551616 + 18446744073709551616 * t := by omega
  rw [d1, d2, d3]
  have c0 : (m + 115792089237316195423570985008687907853269984665640564039457584007913129639936 * t) % 18446744073709551616 = m % 18446744073709551616 := by omega
  have c1 : (m / 18446744073709551616 + 6277101735386680763835789423207666416102355444464034512896 * t) % 18446744073709551616 = m / 18446744073709551616 % 18446744073709551616 := by omega
  have c2 : (m / 18446744073709551616 / 18446744073709551616 + 340282366920938463463374607431768211456 * t) % 18446744073709551616 = m / 18446744073709551616 / 18446744073709551616 % 18446744073709551616 := by omega
  have c3 : (m / 18446744073709551616 / 18446744073709551616 / 18446744073709551616 + 18446744073709551616 * t) % 18446744073709551616 = m / 18446744073709551616 / 18446744073709551616 / 18446744073709551616 % 18446744073709551616 := by omega
  rw [c0, c1, c2, c3]
theorem qeq {x y : Int × Int × Int × Int} (h : x = y) : (x.1 == y.1 && (x.2.1 == y.2.1 && (x.2.2.1 == y.2.2.1 && (x.2.2.2 == y.2.2.2)))) = true := by
  subst h
  simp
theorem qv_bound {a b c d : Int} (h : QOk a b c d) : 0 ≤ qv a b c d ∧ qv a b c d < P 32 := by rw [P32]; unfold qv; omega
theorem qv_words (n : Int) : qv (q0 n) (q1 n) (q2 n) (q3 n) = n % P 32 := by rw [P32]; unfold qv q0 q1 q2 q3; omega
theorem sv_qdg {a b c d : Int} (h : QOk a b c d) : sv (qdg a b c d) = qs (qv a b c d) := by
  have b1 := qv_bound h
  unfold sv qs
  rw [qdg_val h, qdg_len]
  rw [P32] at b1 ⊢
  generalize qv a b c d = V at *
  split <;> split <;> omega
theorem val_rep (x : Int) (n : Nat) : val (List.replicate n x) * 255 = x * (P n - 1) := by
  induction n with
  | zero => rw [List.replicate_zero, show val [] = 0 by rw [val], show P 0 = 1 by rw [P]]; omega
  | succ n ih =>
    rw [List.replicate_succ, show val (x :: List.replicate n x) = x + 256 * val (List.replicate n x) by rw [val], show P (n + 1) = 256 * P n by rw [P]]
    have e : x * (256 * P n - 1) = 256 * (x * (P n - 1)) + 255 * x := by
      rw [Int.mul_sub, Int.mul_sub, ← Int.mul_assoc, Int.mul_comm x 256, Int.mul_assoc]; omega
    rw [e, ← ih]; omega
theorem long_l0 (u : Int) : ∀ (d k : Nat) (x : List Int), 32 - x.length = d → x.length ≤ 32 → d < k → zelligeref02_Long.l0 k x u = some (x ++ List.replicate d u) := by
  intro d
  induction d with
  | zero =>
    intro k x h1 h2 h3
    obtain ⟨k, rfl⟩ : ∃ m, k = m + 1 := ⟨k - 1, by omega⟩
    rw [zelligeref02_Long.l0, if_neg (by omega), List.replicate_zero, List.append_nil]
  | succ d ih =>
    intro k x h1 h2 h3
    obtain ⟨k, rfl⟩ : ∃ m, k = m + 1 := ⟨k - 1, by omega⟩
    rw [zelligeref02_Long.l0, if_pos (by omega), if_pos (by omega), ih k (x ++ [u]) (by simp; omega) (by simp; omega) (by omega), List.append_assoc]
    rfl
/-- Long: a wide's digits, more of them. -/
theorem long_f {h x : Int} (ok : WOk h x) {k : Nat} (hk : 100 ≤ k) : ∃ l, zelligeref02_Long.f k h x = some l ∧ l.length = 32 ∧ Dg l ∧ val l = wv h x % P 32 := by
  obtain ⟨l, l1, l2, l3, l4⟩ := rof_f ok (k := k) (by omega)
  obtain ⟨k, rfl⟩ : ∃ m, k = m + 1 := ⟨k - 1, by omega⟩
  have hb := rbelow_f l3 (by omega) (by omega)
  have v0 := val_nonneg l3
  have v1 := val_lt l3
  rw [l2] at hb v1
  rw [P16] at hb l4 v1
  have w : -170141183460469231731687303715884105728 ≤ wv h x ∧ wv h x < 170141183460469231731687303715884105728 := by unfold wv; omega
  unfold zelligeref02_Long.f
  rw [l1, Option.bind_some, hb, Option.bind_some]
  by_cases n : 340282366920938463463374607431768211456 ≤ 2 * val l
  · rw [if_pos (decide_eq_true n), zelligeref02_Long.j0, long_l0 255 16 k l (by omega) (by omega) (by omega)]
    refine ⟨_, rfl, by simp [l2], Dg_app.2 ⟨l3, fun d hd => by have := (List.mem_replicate.1 hd).2; omega⟩, ?_⟩
    have r := val_rep 255 16
    rw [val_app, l2, P32]
    rw [P16] at r ⊢
    generalize val (List.replicate 16 255) = R at *
    omega
  · rw [if_neg (by rw [decide_eq_true_eq]; exact n), zelligeref02_Long.j0, long_l0 0 16 k l (by omega) (by omega) (by omega)]
    refine ⟨_, rfl, by simp [l2], Dg_app.2 ⟨l3, fun d hd => by have := (List.mem_replicate.1 hd).2; omega⟩, ?_⟩
    have r := val_rep 0 16
    rw [val_app, l2, P32]
    rw [P16] at r ⊢
    generalize val (List.replicate 16 0) = R at *
    omega
theorem hlen_17 : hlen 18446744073709551616 = 17 := by
  obtain ⟨h1, h2, h3⟩ := hlen_ok 18446744073709551616
  rcases Nat.lt_trichotomy (hlen 18446744073709551616) 17 with h | h | h
  · exfalso
    have e : hlen 18446744073709551616 ≤ 16 := by omega
    have e2 : 16 ^ hlen 18446744073709551616 ≤ 16 ^ 16 := Nat.pow_le_pow_right (by omega) e
    have e3 : (16 : Nat) ^ 16 = 18446744073709551616 := rfl
    have e4 : 0 < 18446744073709551616 / 16 ^ hlen 18446744073709551616 := Nat.div_pos (by omega) (Nat.pow_pos (by omega))
    omega
  · exact h
  · exfalso
    have := h3 17 h (by omega)
    exact this (by decide +kernel)
theorem lives_true : zelligelaw02_lives.f = some true := by
  unfold zelligelaw02_lives.f
  rw [qmul_f ⟨⟨by omega, by omega⟩, by omega, by omega⟩ ⟨⟨by omega, by omega⟩, by omega, by omega⟩, Option.bind_some, show wv 1 0 * wv (-1) 18446744073709551615 = -18446744073709551616 from rfl]
  have h := qhex_f (q_ok (-18446744073709551616))
  unfold qq4
  rw [h, Option.bind_some, qv_words, P32, show qs (-18446744073709551616 % 115792089237316195423570985008687907853269984665640564039457584007913129639936) = -18446744073709551616 by decide +kernel]
  unfold hext
  rw [if_pos (by omega), show (-18446744073709551616 : Int).natAbs = 18446744073709551616 from rfl, hlen_17]
  decide +kernel
end Go.Proofs.Ytbmeokhoebjdbaa.Qd
end

section
namespace Go.Proofs.Ytbmeokhoebjdbaa.F
open Go.RowKit Go.Proofs.YtbmeokhoebjdbaaW.PrintWords Go.Proofs.YtbmeokhoebjdbaaW.PrintLast Go.Proofs.YtbmeokhoebjdbaaW.PrintMore
attribute [local go_sem] max2_int min2_int max_two min_two max_three min_three max_four min_four   -- for this text's walks alone
set_option linter.unusedVariables false
set_option linter.unusedSimpArgs false

theorem eqA24 (d : Nat) (w : World) (x0 y0 : Int) (x1 y1 : Int) (x2 y2 : Int) (x3 y3 : Int) :
    (Op.equalIn (d + 2) 24 (.agg #[.int .u64 x0, .int .u64 x1, .int .u64 x2, .int .u64 x3]) (.agg #[.int .u64 y0, .int .u64 y1, .int .u64 y2, .int .u64 y3])).run Try.prog w = .ok (x0 == y0 && (x1 == y1 && (x2 == y2 && (x3 == y3)))) w := by
  exact quad_eq d w x0 y0 x1 y1 x2 y2 x3 y3
end Go.Proofs.Ytbmeokhoebjdbaa.F
end

section
namespace Go.Proofs.Ytbmeokhoebjdbaa.F
open Go.RowKit Go.Proofs.YtbmeokhoebjdbaaW.PrintWords Go.Proofs.YtbmeokhoebjdbaaW.PrintLast Go.Proofs.YtbmeokhoebjdbaaW.PrintMore
attribute [local go_sem] max2_int min2_int max_two min_two max_three min_three max_four min_four   -- for this text's walks alone
set_option linter.unusedVariables false
set_option linter.unusedSimpArgs false

/-! ### quad_of: function 32 -/
def quad_of.f (a0_0 : Int) (a0_1 : Int) : Option (Int × Int × Int × Int) := some (a0_1, IntKind.u64.wrap (a0_0), IntKind.u64.wrap (a0_0 / 9223372036854775808), IntKind.u64.wrap (a0_0 / 9223372036854775808))
set_option maxHeartbeats 8000000 in
set_option maxRecDepth 100000 in
theorem quad_of.calls (a0_0 : Int) (a0_1 : Int) (r1 : Int) (r2 : Int) (r3 : Int) (r4 : Int) (w : World) (h : quad_of.f a0_0 a0_1 = some (r1, r2, r3, r4)) :
    Calls Try.prog 32 #[.agg #[.int .i64 a0_0, .int .u64 a0_1]] w fun e w' => e = .returned (.agg #[.int .u64 r1, .int .u64 r2, .int .u64 r3, .int .u64 r4]) ∧ Below w.heap.size w w' := by
  have hu33 := Try.underlying33
  have hu24 := Try.underlying24
  have HB := Aside0.mk (Below.refl w.heap.size w)
  have H : (some (a0_1, IntKind.u64.wrap (a0_0), IntKind.u64.wrap (a0_0 / 9223372036854775808), IntKind.u64.wrap (a0_0 / 9223372036854775808))) = some (r1, r2, r3, r4) := h
  clear h
  simp only [Option.some.injEq, Prod.mk.injEq] at H
  obtain ⟨rfl, rfl, rfl, rfl⟩ := H
  go_enter Try.func32, Try.ntmps32
  go_wp2_with (first | ((with_reducible refine gate_dst (N := 1) rfl ?_); refine box_event ?hg (N := 1) ?hd (cs := #[.int .i64 a0_0, .int .u64 a0_1]) (t := 33) ?hr ?_; (case hd => rfl); (case hg => rfl); (case hr => first | (go_simp; done) | (go_simp; rfl)); intro gb157 hg w2 hbox hb; have n0_ := Aside0.mk (below_step (by repeat (first | (with_reducible first | exact HB.out | apply below_alloc | apply pw_below_drewN | apply below_drew1) | exact HB.out)) hb); have n1_ := Aside0.mk (hbox); have n2_ := Aside0.mk ((by rw [hg]; exact (below_size (by repeat (first | (with_reducible first | exact HB.out | apply below_alloc | apply pw_below_drewN | apply below_drew1) | exact HB.out))) : w.heap.size ≤ gb157)); have n3_ := Aside0.mk ((by rw [hg]; exact (below_size (by repeat (first | (with_reducible first | exact HB.out | apply below_alloc | apply pw_below_drewN | apply below_drew1) | exact HB.out))) : w.heap.size ≤ gb157)); clear HB; have HB := n0_; have BK157 := n1_; have GW157 := n2_; have GE157 := n3_; clear n0_ n1_ n2_ n3_; clear hb hbox hg) | ((with_reducible refine gate_dst (N := 2) rfl ?_); refine box_event ?hg (N := 2) ?hd (cs := #[.int .u64 0, .int .u64 0, .int .u64 0, .int .u64 0]) (t := 24) ?hr ?_; (case hd => rfl); (case hg => rfl); (case hr => first | (go_simp; done) | (go_simp; rfl)); intro gb158 hg w3 hbox hb; have n0_ := Aside0.mk (blk_below (g := gb157) (o := .cells #[.int .i64 a0_0, .int .u64 a0_1] 33 (0, 0)) (by (with_reducible repeat (first | refine blk_drewN ?_ _ | refine blk_drew ?_ | refine blk_alloc ?_ _)); exact BK157.out) hb); have n1_ := Aside0.mk (below_step (by repeat (first | (with_reducible first | exact HB.out | apply below_alloc | apply pw_below_drewN | apply below_drew1 | refine below_set ?_ GE157.out) | exact HB.out)) hb); have n2_ := Aside0.mk (hbox); have n3_ := Aside0.mk ((by rw [hg]; exact (below_size (by repeat (first | (with_reducible first | exact HB.out | apply below_alloc | apply pw_below_drewN | apply below_drew1 | refine below_set ?_ GE157.out) | exact HB.out))) : w.heap.size ≤ gb158)); have n4_ := Aside0.mk ((by rw [hg]; exact (below_size (by repeat (first | (with_reducible first | exact HB.out | apply below_alloc | apply pw_below_drewN | apply below_drew1 | refine below_set ?_ GE157.out) | exact HB.out))) : w.heap.size ≤ gb158)); have n5_ := Aside0.mk ((by rw [hg]; exact Nat.ne_of_lt (blk_lt (g := gb157) (o := .cells #[.int .i64 a0_0, .int .u64 a0_1] 33 (0, 0)) (by (with_reducible repeat (first | refine blk_drewN ?_ _ | refine blk_drew ?_ | refine blk_alloc ?_ _)); exact BK157.out)) : gb157 ≠ gb158)); have n6_ := Aside0.mk ((by rw [hg]; exact Nat.ne_of_gt (blk_lt (g := gb157) (o := .cells #[.int .i64 a0_0, .int .u64 a0_1] 33 (0, 0)) (by (with_reducible repeat (first | refine blk_drewN ?_ _ | refine blk_drew ?_ | refine blk_alloc ?_ _)); exact BK157.out)) : gb158 ≠ gb157)); clear BK157; clear HB; have BK157 := n0_; have HB := n1_; have BK158 := n2_; have GW158 := n3_; have GE158 := n4_; have NB157_158 := n5_; have NB158_157 := n6_; clear n0_ n1_ n2_ n3_ n4_ n5_ n6_; clear hb hbox hg; have hnb4 := NB157_158.out; have hnc4 := NB158_157.out; have hcz5_0 : w3.cell? ⟨gb157, 0, none⟩ = some (.int .i64 a0_0) := (blk_cell BK157.out 0).trans rfl; have hcz5_1 : w3.cell? ⟨gb157, 1, none⟩ = some (.int .u64 a0_1) := (blk_cell BK157.out 1).trans rfl; have hfz5_0 := blk_frozen BK157.out 0; have hfz5_1 := blk_frozen BK157.out 1; have hcz6_0 : w3.cell? ⟨gb158, 0, none⟩ = some (.int .u64 0) := (blk_cell BK158.out 0).trans rfl; have hcz6_1 : w3.cell? ⟨gb158, 1, none⟩ = some (.int .u64 0) := (blk_cell BK158.out 1).trans rfl; have hcz6_2 : w3.cell? ⟨gb158, 2, none⟩ = some (.int .u64 0) := (blk_cell BK158.out 2).trans rfl; have hcz6_3 : w3.cell? ⟨gb158, 3, none⟩ = some (.int .u64 0) := (blk_cell BK158.out 3).trans rfl; have hfz6_0 := blk_frozen BK158.out 0; have hfz6_1 := blk_frozen BK158.out 1; have hfz6_2 := blk_frozen BK158.out 2; have hfz6_3 := blk_frozen BK158.out 3))
  refine bodyPost_ret (results_cell_row rfl _ _ gb158 24 #[.int .u64 a0_1, .int .u64 (IntKind.u64.wrap (a0_0)), .int .u64 (IntKind.u64.wrap (a0_0 / 9223372036854775808)), .int .u64 (IntKind.u64.wrap (a0_0 / 9223372036854775808))] (0, 0) _ rfl (by (with_reducible repeat (first | refine blk_drewN ?_ _ | refine blk_drew ?_ | refine blk_alloc ?_ _)); refine blk_put (cs := #[.int .u64 a0_1, .int .u64 (IntKind.u64.wrap (a0_0)), .int .u64 (IntKind.u64.wrap (a0_0 / 9223372036854775808)), .int .u64 0]) ?_ 3 _ rfl; (with_reducible repeat (first | refine blk_drewN ?_ _ | refine blk_drew ?_ | refine blk_alloc ?_ _)); refine blk_put (cs := #[.int .u64 a0_1, .int .u64 (IntKind.u64.wrap (a0_0)), .int .u64 0, .int .u64 0]) ?_ 2 _ rfl; (with_reducible repeat (first | refine blk_drewN ?_ _ | refine blk_drew ?_ | refine blk_alloc ?_ _)); refine blk_put (cs := #[.int .u64 a0_1, .int .u64 0, .int .u64 0, .int .u64 0]) ?_ 1 _ rfl; (with_reducible repeat (first | refine blk_drewN ?_ _ | refine blk_drew ?_ | refine blk_alloc ?_ _)); refine blk_put (cs := #[.int .u64 0, .int .u64 0, .int .u64 0, .int .u64 0]) ?_ 0 _ rfl; (with_reducible repeat (first | refine blk_drewN ?_ _ | refine blk_drew ?_ | refine blk_alloc ?_ _)); exact BK158.out) Try.underlying24 rfl (by kernel_rfl)) rfl ?_
  exact ⟨by first | rfl | (simp [errW_none, errW_some] <;> rfl) | (simp [*, errW_none, errW_some] <;> rfl), by repeat (first | (with_reducible first | exact HB.out | apply below_alloc | apply pw_below_drewN | apply below_drew1 | refine below_set ?_ GE157.out | refine below_set ?_ GE158.out) | exact HB.out)⟩

end Go.Proofs.Ytbmeokhoebjdbaa.F
end

section
namespace Go.Proofs.Ytbmeokhoebjdbaa.F
open Go.RowKit Go.Proofs.YtbmeokhoebjdbaaW.PrintWords Go.Proofs.YtbmeokhoebjdbaaW.PrintLast Go.Proofs.YtbmeokhoebjdbaaW.PrintMore
attribute [local go_sem] max2_int min2_int max_two min_two max_three min_three max_four min_four   -- for this text's walks alone
set_option linter.unusedVariables false
set_option linter.unusedSimpArgs false

attribute [local go_sem high] eqA24
/-! ### quad_Small: function 23 -/
def quad_Small.f (a0_0 : Int) (a0_1 : Int) (a0_2 : Int) (a0_3 : Int) : Option (Int × Int × Bool) := (quad_of.f (wrap64 (a0_1)) a0_0).bind fun bt245 => (if (!(bt245.1 == a0_0) || (!(bt245.2.1 == a0_1) || (!(bt245.2.2.1 == a0_2) || (!(bt245.2.2.2 == a0_3))))) = true then (some (0, 0, false)) else (some (wrap64 (a0_1), a0_0, true)))
set_option maxHeartbeats 8000000 in
set_option maxRecDepth 100000 in
theorem quad_Small.calls (a0_0 : Int) (a0_1 : Int) (a0_2 : Int) (a0_3 : Int) (r1 : Int) (r2 : Int) (r3 : Bool) (w : World) (h : quad_Small.f a0_0 a0_1 a0_2 a0_3 = some (r1, r2, r3)) :
    Calls Try.prog 23 #[.agg #[.int .u64 a0_0, .int .u64 a0_1, .int .u64 a0_2, .int .u64 a0_3]] w fun e w' => e = .returned (.tuple #[.agg #[.int .i64 r1, .int .u64 r2], .bool r3]) ∧ Below w.heap.size w w' := by
  have hu24 := Try.underlying24
  have hu33 := Try.underlying33
  have HB := Aside0.mk (Below.refl w.heap.size w)
  have H : ((quad_of.f (wrap64 (a0_1)) a0_0).bind fun bt245 => (if (!(bt245.1 == a0_0) || (!(bt245.2.1 == a0_1) || (!(bt245.2.2.1 == a0_2) || (!(bt245.2.2.2 == a0_3))))) = true then (some (0, 0, false)) else (some (wrap64 (a0_1), a0_0, true)))) = some (r1, r2, r3) := h
  clear h
  replace H := Option.bind_eq_some_iff.mp H
  obtain ⟨⟨t245, t246, t247, t248⟩, A20, H⟩ := H
  replace H : (if (!(t245 == a0_0) || (!(t246 == a0_1) || (!(t247 == a0_2) || (!(t248 == a0_3))))) = true then (some (0, 0, false)) else (some (wrap64 (a0_1), a0_0, true))) = some (r1, r2, r3) := H
  have A2 := Aside0.mk A20
  clear A20
  by_cases c3 : (!(t245 == a0_0) || (!(t246 == a0_1) || (!(t247 == a0_2) || (!(t248 == a0_3))))) = true
  · rw [if_pos c3] at H
    have c3b0 : (!(t245 == a0_0) || (!(t246 == a0_1) || (!(t247 == a0_2) || (!(t248 == a0_3))))) = true := c3
    clear c3
    simp only [Option.some.injEq, Prod.mk.injEq] at H
    obtain ⟨rfl, rfl, rfl⟩ := H
    go_enter Try.func23, Try.ntmps23
    try go_wp2_with (first | ((with_reducible refine gate_dst (N := 1) rfl ?_); refine box_event ?hg (N := 1) ?hd (cs := #[.int .u64 a0_0, .int .u64 a0_1, .int .u64 a0_2, .int .u64 a0_3]) (t := 24) ?hr ?_; (case hd => rfl); (case hg => rfl); (case hr => first | (go_simp; done) | (go_simp; rfl)); intro gb242 hg w4 hbox hb; have n0_ := Aside0.mk (below_step (by repeat (first | (with_reducible first | exact HB.out | apply below_alloc | apply pw_below_drewN | apply below_drew1) | exact HB.out)) hb); have n1_ := Aside0.mk (hbox); have n2_ := Aside0.mk ((by rw [hg]; exact (below_size (by repeat (first | (with_reducible first | exact HB.out | apply below_alloc | apply pw_below_drewN | apply below_drew1) | exact HB.out))) : w.heap.size ≤ gb242)); have n3_ := Aside0.mk ((by rw [hg]; exact (below_size (by repeat (first | (with_reducible first | exact HB.out | apply below_alloc | apply pw_below_drewN | apply below_drew1) | exact HB.out))) : w.heap.size ≤ gb242)); clear HB; have HB := n0_; have BK242 := n1_; have GW242 := n2_; have GE242 := n3_; clear n0_ n1_ n2_ n3_; clear hb hbox hg) | ((with_reducible refine gate_dst (N := 2) rfl ?_); refine box_event ?hg (N := 2) ?hd (cs := #[.int .i64 0, .int .u64 0]) (t := 33) ?hr ?_; (case hd => rfl); (case hg => rfl); (case hr => first | (go_simp; done) | (go_simp; rfl)); intro gb243 hg w5 hbox hb; have n0_ := Aside0.mk (blk_below (g := gb242) (o := .cells #[.int .u64 a0_0, .int .u64 a0_1, .int .u64 a0_2, .int .u64 a0_3] 24 (0, 0)) (by (with_reducible repeat (first | refine blk_drewN ?_ _ | refine blk_drew ?_ | refine blk_alloc ?_ _)); exact BK242.out) hb); have n1_ := Aside0.mk (below_step (by repeat (first | (with_reducible first | exact HB.out | apply below_alloc | apply pw_below_drewN | apply below_drew1 | refine below_set ?_ GE242.out) | exact HB.out)) hb); have n2_ := Aside0.mk (hbox); have n3_ := Aside0.mk ((by rw [hg]; exact (below_size (by repeat (first | (with_reducible first | exact HB.out | apply below_alloc | apply pw_below_drewN | apply below_drew1 | refine below_set ?_ GE242.out) | exact HB.out))) : w.heap.size ≤ gb243)); have n4_ := Aside0.mk ((by rw [hg]; exact (below_size (by repeat (first | (with_reducible first | exact HB.out | apply below_alloc | apply pw_below_drewN | apply below_drew1 | refine below_set ?_ GE242.out) | exact HB.out))) : w.heap.size ≤ gb243)); have n5_ := Aside0.mk ((by rw [hg]; exact Nat.ne_of_lt (blk_lt (g := gb242) (o := .cells #[.int .u64 a0_0, .int .u64 a0_1, .int .u64 a0_2, .int .u64 a0_3] 24 (0, 0)) (by (with_reducible repeat (first | refine blk_drewN ?_ _ | refine blk_drew ?_ | refine blk_alloc ?_ _)); exact BK242.out)) : gb242 ≠ gb243)); have n6_ := Aside0.mk ((by rw [hg]; exact Nat.ne_of_gt (blk_lt (g := gb242) (o := .cells #[.int .u64 a0_0, .int .u64 a0_1, .int .u64 a0_2, .int .u64 a0_3] 24 (0, 0)) (by (with_reducible repeat (first | refine blk_drewN ?_ _ | refine blk_drew ?_ | refine blk_alloc ?_ _)); exact BK242.out)) : gb243 ≠ gb242)); clear BK242; clear HB; have BK242 := n0_; have HB := n1_; have BK243 := n2_; have GW243 := n3_; have GE243 := n4_; have NB242_243 := n5_; have NB243_242 := n6_; clear n0_ n1_ n2_ n3_ n4_ n5_ n6_; clear hb hbox hg; have hnb6 := NB242_243.out; have hnc6 := NB243_242.out; have hcz7_0 : w5.cell? ⟨gb242, 0, none⟩ = some (.int .u64 a0_0) := (blk_cell BK242.out 0).trans rfl; have hcz7_1 : w5.cell? ⟨gb242, 1, none⟩ = some (.int .u64 a0_1) := (blk_cell BK242.out 1).trans rfl; have hcz7_2 : w5.cell? ⟨gb242, 2, none⟩ = some (.int .u64 a0_2) := (blk_cell BK242.out 2).trans rfl; have hcz7_3 : w5.cell? ⟨gb242, 3, none⟩ = some (.int .u64 a0_3) := (blk_cell BK242.out 3).trans rfl; have hfz7_0 := blk_frozen BK242.out 0; have hfz7_1 := blk_frozen BK242.out 1; have hfz7_2 := blk_frozen BK242.out 2; have hfz7_3 := blk_frozen BK242.out 3) | ((with_reducible refine gate_dst (N := 4) rfl ?_); refine box_event ?hg (N := 4) ?hd (cs := #[.int .i64 0, .int .u64 0]) (t := 33) ?hr ?_; (case hd => rfl); (case hg => rfl); (case hr => first | (go_simp; done) | (go_simp; rfl)); intro gb244 hg w8 hbox hb; have n0_ := Aside0.mk (blk_below (g := gb242) (o := .cells #[.int .u64 a0_0, .int .u64 a0_1, .int .u64 a0_2, .int .u64 a0_3] 24 (0, 0)) (by (with_reducible repeat (first | refine blk_drewN ?_ _ | refine blk_drew ?_ | refine blk_alloc ?_ _)); exact BK242.out) hb); have n1_ := Aside0.mk (blk_below (g := gb243) (o := .cells #[.int .i64 0, .int .u64 0] 33 (0, 0)) (by (with_reducible repeat (first | refine blk_drewN ?_ _ | refine blk_drew ?_ | refine blk_alloc ?_ _)); exact BK243.out) hb); have n2_ := Aside0.mk (below_step (by repeat (first | (with_reducible first | exact HB.out | apply below_alloc | apply pw_below_drewN | apply below_drew1 | refine below_set ?_ GE242.out | refine below_set ?_ GE243.out) | exact HB.out)) hb); have n3_ := Aside0.mk (hbox); have n4_ := Aside0.mk ((by rw [hg]; exact (below_size (by repeat (first | (with_reducible first | exact HB.out | apply below_alloc | apply pw_below_drewN | apply below_drew1 | refine below_set ?_ GE242.out | refine below_set ?_ GE243.out) | exact HB.out))) : w.heap.size ≤ gb244)); have n5_ := Aside0.mk ((by rw [hg]; exact (below_size (by repeat (first | (with_reducible first | exact HB.out | apply below_alloc | apply pw_below_drewN | apply below_drew1 | refine below_set ?_ GE242.out | refine below_set ?_ GE243.out) | exact HB.out))) : w.heap.size ≤ gb244)); have n6_ := Aside0.mk ((by rw [hg]; exact Nat.ne_of_lt (blk_lt (g := gb242) (o := .cells #[.int .u64 a0_0, .int .u64 a0_1, .int .u64 a0_2, .int .u64 a0_3] 24 (0, 0)) (by (with_reducible repeat (first | refine blk_drewN ?_ _ | refine blk_drew ?_ | refine blk_alloc ?_ _)); exact BK242.out)) : gb242 ≠ gb244)); have n7_ := Aside0.mk ((by rw [hg]; exact Nat.ne_of_gt (blk_lt (g := gb242) (o := .cells #[.int .u64 a0_0, .int .u64 a0_1, .int .u64 a0_2, .int .u64 a0_3] 24 (0, 0)) (by (with_reducible repeat (first | refine blk_drewN ?_ _ | refine blk_drew ?_ | refine blk_alloc ?_ _)); exact BK242.out)) : gb244 ≠ gb242)); have n8_ := Aside0.mk ((by rw [hg]; exact Nat.ne_of_lt (blk_lt (g := gb243) (o := .cells #[.int .i64 0, .int .u64 0] 33 (0, 0)) (by (with_reducible repeat (first | refine blk_drewN ?_ _ | refine blk_drew ?_ | refine blk_alloc ?_ _)); exact BK243.out)) : gb243 ≠ gb244)); have n9_ := Aside0.mk ((by rw [hg]; exact Nat.ne_of_gt (blk_lt (g := gb243) (o := .cells #[.int .i64 0, .int .u64 0] 33 (0, 0)) (by (with_reducible repeat (first | refine blk_drewN ?_ _ | refine blk_drew ?_ | refine blk_alloc ?_ _)); exact BK243.out)) : gb244 ≠ gb243)); clear BK242; clear BK243; clear HB; have BK242 := n0_; have BK243 := n1_; have HB := n2_; have BK244 := n3_; have GW244 := n4_; have GE244 := n5_; have NB242_244 := n6_; have NB244_242 := n7_; have NB243_244 := n8_; have NB244_243 := n9_; clear n0_ n1_ n2_ n3_ n4_ n5_ n6_ n7_ n8_ n9_; clear hb hbox hg; have hnb9 := NB244_242.out; have hnc9 := NB242_244.out; have hnb10 := NB244_243.out; have hnc10 := NB243_244.out; have hcz11_0 : w8.cell? ⟨gb244, 0, none⟩ = some (.int .i64 0) := (blk_cell BK244.out 0).trans rfl; have hcz11_1 : w8.cell? ⟨gb244, 1, none⟩ = some (.int .u64 0) := (blk_cell BK244.out 1).trans rfl; have hfz11_0 := blk_frozen BK244.out 0; have hfz11_1 := blk_frozen BK244.out 1))
    have n0_ : Aside0 (((w8.setCell ⟨gb244, 0, none⟩ (.int .i64 (wrap64 (a0_1)))).setCell ⟨gb244, 1, none⟩ (.int .u64 a0_0)).heap[gb242]? = some (.cells #[.int .u64 a0_0, .int .u64 a0_1, .int .u64 a0_2, .int .u64 a0_3] 24 (0, 0))) := ⟨by (with_reducible repeat (first | refine blk_drewN ?_ _ | refine blk_drew ?_ | refine blk_alloc ?_ _)); refine blk_far ?_ NB242_244.out _; (with_reducible repeat (first | refine blk_drewN ?_ _ | refine blk_drew ?_ | refine blk_alloc ?_ _)); refine blk_far ?_ NB242_244.out _; (with_reducible repeat (first | refine blk_drewN ?_ _ | refine blk_drew ?_ | refine blk_alloc ?_ _)); exact BK242.out⟩
    have n1_ : Aside0 (((w8.setCell ⟨gb244, 0, none⟩ (.int .i64 (wrap64 (a0_1)))).setCell ⟨gb244, 1, none⟩ (.int .u64 a0_0)).heap[gb243]? = some (.cells #[.int .i64 0, .int .u64 0] 33 (0, 0))) := ⟨by (with_reducible repeat (first | refine blk_drewN ?_ _ | refine blk_drew ?_ | refine blk_alloc ?_ _)); refine blk_far ?_ NB243_244.out _; (with_reducible repeat (first | refine blk_drewN ?_ _ | refine blk_drew ?_ | refine blk_alloc ?_ _)); refine blk_far ?_ NB243_244.out _; (with_reducible repeat (first | refine blk_drewN ?_ _ | refine blk_drew ?_ | refine blk_alloc ?_ _)); exact BK243.out⟩
    have n2_ : Aside0 (((w8.setCell ⟨gb244, 0, none⟩ (.int .i64 (wrap64 (a0_1)))).setCell ⟨gb244, 1, none⟩ (.int .u64 a0_0)).heap[gb244]? = some (.cells #[.int .i64 (wrap64 (a0_1)), .int .u64 a0_0] 33 (0, 0))) := ⟨by (with_reducible repeat (first | refine blk_drewN ?_ _ | refine blk_drew ?_ | refine blk_alloc ?_ _)); refine blk_put (cs := #[.int .i64 (wrap64 (a0_1)), .int .u64 0]) ?_ 1 _ rfl; (with_reducible repeat (first | refine blk_drewN ?_ _ | refine blk_drew ?_ | refine blk_alloc ?_ _)); refine blk_put (cs := #[.int .i64 0, .int .u64 0]) ?_ 0 _ rfl; (with_reducible repeat (first | refine blk_drewN ?_ _ | refine blk_drew ?_ | refine blk_alloc ?_ _)); exact BK244.out⟩
    have n3_ : Aside0 (Below w.heap.size w ((w8.setCell ⟨gb244, 0, none⟩ (.int .i64 (wrap64 (a0_1)))).setCell ⟨gb244, 1, none⟩ (.int .u64 a0_0))) := ⟨by repeat (first | (with_reducible first | exact HB.out | apply below_alloc | apply pw_below_drewN | apply below_drew1 | refine below_set ?_ GE242.out | refine below_set ?_ GE243.out | refine below_set ?_ GE244.out) | exact HB.out)⟩
    (try clear BK242)
    (try clear BK243)
    (try clear BK244)
    (try clear HB)
    generalize ((w8.setCell ⟨gb244, 0, none⟩ (.int .i64 (wrap64 (a0_1)))).setCell ⟨gb244, 1, none⟩ (.int .u64 a0_0)) = w12 at n0_ n1_ n2_ n3_ ⊢
    have BK242 := n0_
    have BK243 := n1_
    have BK244 := n2_
    have HB := n3_
    clear n0_ n1_ n2_ n3_
    have n0_ := Aside0.mk (blk_drew BK242.out)
    have n1_ := Aside0.mk (blk_drew BK243.out)
    have n2_ := Aside0.mk (blk_drew BK244.out)
    have n3_ := Aside0.mk (below_drew1 HB.out)
    clear BK242
    clear BK243
    clear BK244
    clear HB
    have BK242 := n0_
    have BK243 := n1_
    have BK244 := n2_
    have HB := n3_
    clear n0_ n1_ n2_ n3_
    refine start_ (n := 4) (S := fun w' => w'.cell? ⟨gb244, 0, none⟩ = some (.int .i64 (wrap64 (a0_1))) ∧ w'.cell? ⟨gb244, 1, none⟩ = some (.int .u64 a0_0) ∧ w'.cell? ⟨gb242, 0, none⟩ = some (.int .u64 a0_0) ∧ w'.cell? ⟨gb242, 1, none⟩ = some (.int .u64 a0_1) ∧ w'.cell? ⟨gb242, 2, none⟩ = some (.int .u64 a0_2) ∧ w'.cell? ⟨gb242, 3, none⟩ = some (.int .u64 a0_3)) (ds := []) #[false, false, false, false] (by kernel_rfl) rfl rfl ⟨(blk_cell BK244.out 0).trans rfl, (blk_cell BK244.out 1).trans rfl, (blk_cell BK242.out 0).trans rfl, (blk_cell BK242.out 1).trans rfl, (blk_cell BK242.out 2).trans rfl, (blk_cell BK242.out 3).trans rfl⟩ (fun hHeld => ?_)
    generalize w12.drew = w13 at BK242 BK243 BK244 HB hHeld ⊢
    refine take_ (i := 0) (N := some 11) (v := ?_) (a' := ?_) #[true, false, false, false] rfl rfl (by kernel_rfl) (fun _ _ _ h => h) (Or.inl ⟨by rfl, ?_⟩) hHeld ?_ ?_
    rotate_left
    · rintro w' ⟨s0, s1, s2, s3, s4, s5⟩
      go_simp
      with_reducible rfl
    rotate_left
    · simp only [Act.put, List.setIfInBounds_toArray, List.set_cons_zero, List.set_cons_succ, i64_w, i32_w]
      rfl
    refine take_ (i := 2) (N := some 13) (v := ?_) (a' := ?_) #[true, false, true, false] rfl rfl (by kernel_rfl) (fun _ _ _ h => h) (Or.inl ⟨by rfl, ?_⟩) hHeld ?_ ?_
    rotate_left
    · rintro w' ⟨s0, s1, s2, s3, s4, s5⟩
      go_simp
      with_reducible rfl
    rotate_left
    · simp only [Act.put, List.setIfInBounds_toArray, List.set_cons_zero, List.set_cons_succ, i64_w, i32_w]
      rfl
    refine one_ (i := 1) (N := some 12) #[true, true, true, false] rfl rfl (by kernel_rfl) (by decide) (fun K hK => ?_)
    refine goes_ Try.func32 (by kernel_rfl) rfl #[.agg #[.int .i64 (wrap64 (a0_1)), .int .u64 a0_0]] (by rfl) rfl rfl (by (try simp only [List.map_toArray, List.map_cons, List.map_nil]); first | done | rfl | (simp only [List.length_drop, List.length_take]; rfl)) ?_
    with_reducible refine (quad_of.calls (wrap64 (a0_1)) a0_0 t245 t246 t247 t248 _ A2.out).mono ?_
    rintro e w14 ⟨rfl, hb⟩
    refine ⟨_, rfl, ?_⟩
    have n0_ := Aside0.mk (blk_below (g := gb242) (o := .cells #[.int .u64 a0_0, .int .u64 a0_1, .int .u64 a0_2, .int .u64 a0_3] 24 (0, 0)) (by (with_reducible repeat (first | refine blk_drewN ?_ _ | refine blk_drew ?_ | refine blk_alloc ?_ _)); exact BK242.out) hb)
    have n1_ := Aside0.mk (blk_below (g := gb243) (o := .cells #[.int .i64 0, .int .u64 0] 33 (0, 0)) (by (with_reducible repeat (first | refine blk_drewN ?_ _ | refine blk_drew ?_ | refine blk_alloc ?_ _)); exact BK243.out) hb)
    have n2_ := Aside0.mk (blk_below (g := gb244) (o := .cells #[.int .i64 (wrap64 (a0_1)), .int .u64 a0_0] 33 (0, 0)) (by (with_reducible repeat (first | refine blk_drewN ?_ _ | refine blk_drew ?_ | refine blk_alloc ?_ _)); exact BK244.out) hb)
    have n3_ := Aside0.mk (below_step (by repeat (first | (with_reducible first | exact HB.out | apply below_alloc | apply pw_below_drewN | apply below_drew1 | refine below_set ?_ GE242.out | refine below_set ?_ GE243.out | refine below_set ?_ GE244.out) | exact HB.out)) hb)
    clear BK242
    clear BK243
    clear BK244
    clear HB
    have BK242 := n0_
    have BK243 := n1_
    have BK244 := n2_
    have HB := n3_
    clear n0_ n1_ n2_ n3_
    (try clear hb)
    (try clear hb2)
    (try clear hk)
    (try clear hi)
    refine hK.out _ _ ⟨(blk_cell BK244.out 0).trans rfl, (blk_cell BK244.out 1).trans rfl, (blk_cell BK242.out 0).trans rfl, (blk_cell BK242.out 1).trans rfl, (blk_cell BK242.out 2).trans rfl, (blk_cell BK242.out 3).trans rfl⟩ (fun hHeld => ?_)
    clear hK K
    refine norm_ (a' := ?_) ?_ ?_
    rotate_left
    · show Act.put _ (some 12) _ = _
      simp only [Act.put, List.setIfInBounds_toArray, List.set_cons_zero, List.set_cons_succ, i64_w, i32_w]
      rfl
    refine pure_ (i := 3) (N := some 14) (v := ?_) (a' := ?_) #[true, true, true, true] rfl rfl (by kernel_rfl) (fun _ _ _ h => h) (Or.inl ⟨by rfl, ?_⟩) ?_ ?_
    rotate_left
    · intro w'
      go_simp
      with_reducible rfl
    rotate_left
    · simp only [Act.put, List.setIfInBounds_toArray, List.set_cons_zero, List.set_cons_succ, i64_w, i32_w]
      rfl
    refine done_ (by kernel_rfl) ?_
    have hcz15_0 : w14.cell? ⟨gb243, 0, none⟩ = some (.int .i64 0) := (blk_cell BK243.out 0).trans rfl
    have hcz15_1 : w14.cell? ⟨gb243, 1, none⟩ = some (.int .u64 0) := (blk_cell BK243.out 1).trans rfl
    have hfz15_0 := blk_frozen BK243.out 0
    have hfz15_1 := blk_frozen BK243.out 1
    try go_wp2
    refine bodyPost_ret (results_ct rfl _ _ gb243 33 #[.int .i64 0, .int .u64 0] (0, 0) _ rfl (by (with_reducible repeat (first | refine blk_drewN ?_ _ | refine blk_drew ?_ | refine blk_alloc ?_ _)); refine blk_put (cs := #[.int .i64 0, .int .u64 0]) ?_ 1 _ rfl; (with_reducible repeat (first | refine blk_drewN ?_ _ | refine blk_drew ?_ | refine blk_alloc ?_ _)); refine blk_put (cs := #[.int .i64 0, .int .u64 0]) ?_ 0 _ rfl; (with_reducible repeat (first | refine blk_drewN ?_ _ | refine blk_drew ?_ | refine blk_alloc ?_ _)); exact BK243.out) Try.underlying33 rfl (by kernel_rfl)) rfl ?_
    exact ⟨by first | rfl | (simp [errW_none, errW_some] <;> rfl) | (simp [*, errW_none, errW_some] <;> rfl), by repeat (first | (with_reducible first | exact HB.out | apply below_alloc | apply pw_below_drewN | apply below_drew1 | refine below_set ?_ GE242.out | refine below_set ?_ GE243.out | refine below_set ?_ GE244.out) | exact HB.out)⟩
  · rw [if_neg c3] at H
    have c3b0 : (!(t245 == a0_0) || (!(t246 == a0_1) || (!(t247 == a0_2) || (!(t248 == a0_3))))) = false := by simpa using c3
    clear c3
    simp only [Option.some.injEq, Prod.mk.injEq] at H
    obtain ⟨rfl, rfl, rfl⟩ := H
    go_enter Try.func23, Try.ntmps23
    try go_wp2_with (first | ((with_reducible refine gate_dst (N := 1) rfl ?_); refine box_event ?hg (N := 1) ?hd (cs := #[.int .u64 a0_0, .int .u64 a0_1, .int .u64 a0_2, .int .u64 a0_3]) (t := 24) ?hr ?_; (case hd => rfl); (case hg => rfl); (case hr => first | (go_simp; done) | (go_simp; rfl)); intro gb242 hg w16 hbox hb; have n0_ := Aside0.mk (below_step (by repeat (first | (with_reducible first | exact HB.out | apply below_alloc | apply pw_below_drewN | apply below_drew1) | exact HB.out)) hb); have n1_ := Aside0.mk (hbox); have n2_ := Aside0.mk ((by rw [hg]; exact (below_size (by repeat (first | (with_reducible first | exact HB.out | apply below_alloc | apply pw_below_drewN | apply below_drew1) | exact HB.out))) : w.heap.size ≤ gb242)); have n3_ := Aside0.mk ((by rw [hg]; exact (below_size (by repeat (first | (with_reducible first | exact HB.out | apply below_alloc | apply pw_below_drewN | apply below_drew1) | exact HB.out))) : w.heap.size ≤ gb242)); clear HB; have HB := n0_; have BK242 := n1_; have GW242 := n2_; have GE242 := n3_; clear n0_ n1_ n2_ n3_; clear hb hbox hg) | ((with_reducible refine gate_dst (N := 2) rfl ?_); refine box_event ?hg (N := 2) ?hd (cs := #[.int .i64 0, .int .u64 0]) (t := 33) ?hr ?_; (case hd => rfl); (case hg => rfl); (case hr => first | (go_simp; done) | (go_simp; rfl)); intro gb243 hg w17 hbox hb; have n0_ := Aside0.mk (blk_below (g := gb242) (o := .cells #[.int .u64 a0_0, .int .u64 a0_1, .int .u64 a0_2, .int .u64 a0_3] 24 (0, 0)) (by (with_reducible repeat (first | refine blk_drewN ?_ _ | refine blk_drew ?_ | refine blk_alloc ?_ _)); exact BK242.out) hb); have n1_ := Aside0.mk (below_step (by repeat (first | (with_reducible first | exact HB.out | apply below_alloc | apply pw_below_drewN | apply below_drew1 | refine below_set ?_ GE242.out) | exact HB.out)) hb); have n2_ := Aside0.mk (hbox); have n3_ := Aside0.mk ((by rw [hg]; exact (below_size (by repeat (first | (with_reducible first | exact HB.out | apply below_alloc | apply pw_below_drewN | apply below_drew1 | refine below_set ?_ GE242.out) | exact HB.out))) : w.heap.size ≤ gb243)); have n4_ := Aside0.mk ((by rw [hg]; exact (below_size (by repeat (first | (with_reducible first | exact HB.out | apply below_alloc | apply pw_below_drewN | apply below_drew1 | refine below_set ?_ GE242.out) | exact HB.out))) : w.heap.size ≤ gb243)); have n5_ := Aside0.mk ((by rw [hg]; exact Nat.ne_of_lt (blk_lt (g := gb242) (o := .cells #[.int .u64 a0_0, .int .u64 a0_1, .int .u64 a0_2, .int .u64 a0_3] 24 (0, 0)) (by (with_reducible repeat (first | refine blk_drewN ?_ _ | refine blk_drew ?_ | refine blk_alloc ?_ _)); exact BK242.out)) : gb242 ≠ gb243)); have n6_ := Aside0.mk ((by rw [hg]; exact Nat.ne_of_gt (blk_lt (g := gb242) (o := .cells #[.int .u64 a0_0, .int .u64 a0_1, .int .u64 a0_2, .int .u64 a0_3] 24 (0, 0)) (by (with_reducible repeat (first | refine blk_drewN ?_ _ | refine blk_drew ?_ | refine blk_alloc ?_ _)); exact BK242.out)) : gb243 ≠ gb242)); clear BK242; clear HB; have BK242 := n0_; have HB := n1_; have BK243 := n2_; have GW243 := n3_; have GE243 := n4_; have NB242_243 := n5_; have NB243_242 := n6_; clear n0_ n1_ n2_ n3_ n4_ n5_ n6_; clear hb hbox hg; have hnb18 := NB242_243.out; have hnc18 := NB243_242.out; have hcz19_0 : w17.cell? ⟨gb242, 0, none⟩ = some (.int .u64 a0_0) := (blk_cell BK242.out 0).trans rfl; have hcz19_1 : w17.cell? ⟨gb242, 1, none⟩ = some (.int .u64 a0_1) := (blk_cell BK242.out 1).trans rfl; have hcz19_2 : w17.cell? ⟨gb242, 2, none⟩ = some (.int .u64 a0_2) := (blk_cell BK242.out 2).trans rfl; have hcz19_3 : w17.cell? ⟨gb242, 3, none⟩ = some (.int .u64 a0_3) := (blk_cell BK242.out 3).trans rfl; have hfz19_0 := blk_frozen BK242.out 0; have hfz19_1 := blk_frozen BK242.out 1; have hfz19_2 := blk_frozen BK242.out 2; have hfz19_3 := blk_frozen BK242.out 3) | ((with_reducible refine gate_dst (N := 4) rfl ?_); refine box_event ?hg (N := 4) ?hd (cs := #[.int .i64 0, .int .u64 0]) (t := 33) ?hr ?_; (case hd => rfl); (case hg => rfl); (case hr => first | (go_simp; done) | (go_simp; rfl)); intro gb244 hg w20 hbox hb; have n0_ := Aside0.mk (blk_below (g := gb242) (o := .cells #[.int .u64 a0_0, .int .u64 a0_1, .int .u64 a0_2, .int .u64 a0_3] 24 (0, 0)) (by (with_reducible repeat (first | refine blk_drewN ?_ _ | refine blk_drew ?_ | refine blk_alloc ?_ _)); exact BK242.out) hb); have n1_ := Aside0.mk (blk_below (g := gb243) (o := .cells #[.int .i64 0, .int .u64 0] 33 (0, 0)) (by (with_reducible repeat (first | refine blk_drewN ?_ _ | refine blk_drew ?_ | refine blk_alloc ?_ _)); exact BK243.out) hb); have n2_ := Aside0.mk (below_step (by repeat (first | (with_reducible first | exact HB.out | apply below_alloc | apply pw_below_drewN | apply below_drew1 | refine below_set ?_ GE242.out | refine below_set ?_ GE243.out) | exact HB.out)) hb); have n3_ := Aside0.mk (hbox); have n4_ := Aside0.mk ((by rw [hg]; exact (below_size (by repeat (first | (with_reducible first | exact HB.out | apply below_alloc | apply pw_below_drewN | apply below_drew1 | refine below_set ?_ GE242.out | refine below_set ?_ GE243.out) | exact HB.out))) : w.heap.size ≤ gb244)); have n5_ := Aside0.mk ((by rw [hg]; exact (below_size (by repeat (first | (with_reducible first | exact HB.out | apply below_alloc | apply pw_below_drewN | apply below_drew1 | refine below_set ?_ GE242.out | refine below_set ?_ GE243.out) | exact HB.out))) : w.heap.size ≤ gb244)); have n6_ := Aside0.mk ((by rw [hg]; exact Nat.ne_of_lt (blk_lt (g := gb242) (o := .cells #[.int .u64 a0_0, .int .u64 a0_1, .int .u64 a0_2, .int .u64 a0_3] 24 (0, 0)) (by (with_reducible repeat (first | refine blk_drewN ?_ _ | refine blk_drew ?_ | refine blk_alloc ?_ _)); exact BK242.out)) : gb242 ≠ gb244)); have n7_ := Aside0.mk ((by rw [hg]; exact Nat.ne_of_gt (blk_lt (g := gb242) (o := .cells #[.int .u64 a0_0, .int .u64 a0_1, .int .u64 a0_2, .int .u64 a0_3] 24 (0, 0)) (by (with_reducible repeat (first | refine blk_drewN ?_ _ | refine blk_drew ?_ | refine blk_alloc ?_ _)); exact BK242.out)) : gb244 ≠ gb242)); have n8_ := Aside0.mk ((by rw [hg]; exact Nat.ne_of_lt (blk_lt (g := gb243) (o := .cells #[.int .i64 0, .int .u64 0] 33 (0, 0)) (by (with_reducible repeat (first | refine blk_drewN ?_ _ | refine blk_drew ?_ | refine blk_alloc ?_ _)); exact BK243.out)) : gb243 ≠ gb244)); have n9_ := Aside0.mk ((by rw [hg]; exact Nat.ne_of_gt (blk_lt (g := gb243) (o := .cells #[.int .i64 0, .int .u64 0] 33 (0, 0)) (by (with_reducible repeat (first | refine blk_drewN ?_ _ | refine blk_drew ?_ | refine blk_alloc ?_ _)); exact BK243.out)) : gb244 ≠ gb243)); clear BK242; clear BK243; clear HB; have BK242 := n0_; have BK243 := n1_; have HB := n2_; have BK244 := n3_; have GW244 := n4_; have GE244 := n5_; have NB242_244 := n6_; have NB244_242 := n7_; have NB243_244 := n8_; have NB244_243 := n9_; clear n0_ n1_ n2_ n3_ n4_ n5_ n6_ n7_ n8_ n9_; clear hb hbox hg; have hnb21 := NB244_242.out; have hnc21 := NB242_244.out; have hnb22 := NB244_243.out; have hnc22 := NB243_244.out; have hcz23_0 : w20.cell? ⟨gb244, 0, none⟩ = some (.int .i64 0) := (blk_cell BK244.out 0).trans rfl; have hcz23_1 : w20.cell? ⟨gb244, 1, none⟩ = some (.int .u64 0) := (blk_cell BK244.out 1).trans rfl; have hfz23_0 := blk_frozen BK244.out 0; have hfz23_1 := blk_frozen BK244.out 1))
    have n0_ : Aside0 (((w20.setCell ⟨gb244, 0, none⟩ (.int .i64 (wrap64 (a0_1)))).setCell ⟨gb244, 1, none⟩ (.int .u64 a0_0)).heap[gb242]? = some (.cells #[.int .u64 a0_0, .int .u64 a0_1, .int .u64 a0_2, .int .u64 a0_3] 24 (0, 0))) := ⟨by (with_reducible repeat (first | refine blk_drewN ?_ _ | refine blk_drew ?_ | refine blk_alloc ?_ _)); refine blk_far ?_ NB242_244.out _; (with_reducible repeat (first | refine blk_drewN ?_ _ | refine blk_drew ?_ | refine blk_alloc ?_ _)); refine blk_far ?_ NB242_244.out _; (with_reducible repeat (first | refine blk_drewN ?_ _ | refine blk_drew ?_ | refine blk_alloc ?_ _)); exact BK242.out⟩
    have n1_ : Aside0 (((w20.setCell ⟨gb244, 0, none⟩ (.int .i64 (wrap64 (a0_1)))).setCell ⟨gb244, 1, none⟩ (.int .u64 a0_0)).heap[gb243]? = some (.cells #[.int .i64 0, .int .u64 0] 33 (0, 0))) := ⟨by (with_reducible repeat (first | refine blk_drewN ?_ _ | refine blk_drew ?_ | refine blk_alloc ?_ _)); refine blk_far ?_ NB243_244.out _; (with_reducible repeat (first | refine blk_drewN ?_ _ | refine blk_drew ?_ | refine blk_alloc ?_ _)); refine blk_far ?_ NB243_244.out _; (with_reducible repeat (first | refine blk_drewN ?_ _ | refine blk_drew ?_ | refine blk_alloc ?_ _)); exact BK243.out⟩
    have n2_ : Aside0 (((w20.setCell ⟨gb244, 0, none⟩ (.int .i64 (wrap64 (a0_1)))).setCell ⟨gb244, 1, none⟩ (.int .u64 a0_0)).heap[gb244]? = some (.cells #[.int .i64 (wrap64 (a0_1)), .int .u64 a0_0] 33 (0, 0))) := ⟨by (with_reducible repeat (first | refine blk_drewN ?_ _ | refine blk_drew ?_ | refine blk_alloc ?_ _)); refine blk_put (cs := #[.int .i64 (wrap64 (a0_1)), .int .u64 0]) ?_ 1 _ rfl; (with_reducible repeat (first | refine blk_drewN ?_ _ | refine blk_drew ?_ | refine blk_alloc ?_ _)); refine blk_put (cs := #[.int .i64 0, .int .u64 0]) ?_ 0 _ rfl; (with_reducible repeat (first | refine blk_drewN ?_ _ | refine blk_drew ?_ | refine blk_alloc ?_ _)); exact BK244.out⟩
    have n3_ : Aside0 (Below w.heap.size w ((w20.setCell ⟨gb244, 0, none⟩ (.int .i64 (wrap64 (a0_1)))).setCell ⟨gb244, 1, none⟩ (.int .u64 a0_0))) := ⟨by repeat (first | (with_reducible first | exact HB.out | apply below_alloc | apply pw_below_drewN | apply below_drew1 | refine below_set ?_ GE242.out | refine below_set ?_ GE243.out | refine below_set ?_ GE244.out) | exact HB.out)⟩
    (try clear BK242)
    (try clear BK243)
    (try clear BK244)
    (try clear HB)
    generalize ((w20.setCell ⟨gb244, 0, none⟩ (.int .i64 (wrap64 (a0_1)))).setCell ⟨gb244, 1, none⟩ (.int .u64 a0_0)) = w24 at n0_ n1_ n2_ n3_ ⊢
    have BK242 := n0_
    have BK243 := n1_
    have BK244 := n2_
    have HB := n3_
    clear n0_ n1_ n2_ n3_
    have n0_ := Aside0.mk (blk_drew BK242.out)
    have n1_ := Aside0.mk (blk_drew BK243.out)
    have n2_ := Aside0.mk (blk_drew BK244.out)
    have n3_ := Aside0.mk (below_drew1 HB.out)
    clear BK242
    clear BK243
    clear BK244
    clear HB
    have BK242 := n0_
    have BK243 := n1_
    have BK244 := n2_
    have HB := n3_
    clear n0_ n1_ n2_ n3_
    refine start_ (n := 4) (S := fun w' => w'.cell? ⟨gb244, 0, none⟩ = some (.int .i64 (wrap64 (a0_1))) ∧ w'.cell? ⟨gb244, 1, none⟩ = some (.int .u64 a0_0) ∧ w'.cell? ⟨gb242, 0, none⟩ = some (.int .u64 a0_0) ∧ w'.cell? ⟨gb242, 1, none⟩ = some (.int .u64 a0_1) ∧ w'.cell? ⟨gb242, 2, none⟩ = some (.int .u64 a0_2) ∧ w'.cell? ⟨gb242, 3, none⟩ = some (.int .u64 a0_3)) (ds := []) #[false, false, false, false] (by kernel_rfl) rfl rfl ⟨(blk_cell BK244.out 0).trans rfl, (blk_cell BK244.out 1).trans rfl, (blk_cell BK242.out 0).trans rfl, (blk_cell BK242.out 1).trans rfl, (blk_cell BK242.out 2).trans rfl, (blk_cell BK242.out 3).trans rfl⟩ (fun hHeld => ?_)
    generalize w24.drew = w25 at BK242 BK243 BK244 HB hHeld ⊢
    refine take_ (i := 0) (N := some 11) (v := ?_) (a' := ?_) #[true, false, false, false] rfl rfl (by kernel_rfl) (fun _ _ _ h => h) (Or.inl ⟨by rfl, ?_⟩) hHeld ?_ ?_
    rotate_left
    · rintro w' ⟨s0, s1, s2, s3, s4, s5⟩
      go_simp
      with_reducible rfl
    rotate_left
    · simp only [Act.put, List.setIfInBounds_toArray, List.set_cons_zero, List.set_cons_succ, i64_w, i32_w]
      rfl
    refine take_ (i := 2) (N := some 13) (v := ?_) (a' := ?_) #[true, false, true, false] rfl rfl (by kernel_rfl) (fun _ _ _ h => h) (Or.inl ⟨by rfl, ?_⟩) hHeld ?_ ?_
    rotate_left
    · rintro w' ⟨s0, s1, s2, s3, s4, s5⟩
      go_simp
      with_reducible rfl
    rotate_left
    · simp only [Act.put, List.setIfInBounds_toArray, List.set_cons_zero, List.set_cons_succ, i64_w, i32_w]
      rfl
    refine one_ (i := 1) (N := some 12) #[true, true, true, false] rfl rfl (by kernel_rfl) (by decide) (fun K hK => ?_)
    refine goes_ Try.func32 (by kernel_rfl) rfl #[.agg #[.int .i64 (wrap64 (a0_1)), .int .u64 a0_0]] (by rfl) rfl rfl (by (try simp only [List.map_toArray, List.map_cons, List.map_nil]); first | done | rfl | (simp only [List.length_drop, List.length_take]; rfl)) ?_
    with_reducible refine (quad_of.calls (wrap64 (a0_1)) a0_0 t245 t246 t247 t248 _ A2.out).mono ?_
    rintro e w26 ⟨rfl, hb⟩
    refine ⟨_, rfl, ?_⟩
    have n0_ := Aside0.mk (blk_below (g := gb242) (o := .cells #[.int .u64 a0_0, .int .u64 a0_1, .int .u64 a0_2, .int .u64 a0_3] 24 (0, 0)) (by (with_reducible repeat (first | refine blk_drewN ?_ _ | refine blk_drew ?_ | refine blk_alloc ?_ _)); exact BK242.out) hb)
    have n1_ := Aside0.mk (blk_below (g := gb243) (o := .cells #[.int .i64 0, .int .u64 0] 33 (0, 0)) (by (with_reducible repeat (first | refine blk_drewN ?_ _ | refine blk_drew ?_ | refine blk_alloc ?_ _)); exact BK243.out) hb)
    have n2_ := Aside0.mk (blk_below (g := gb244) (o := .cells #[.int .i64 (wrap64 (a0_1)), .int .u64 a0_0] 33 (0, 0)) (by (with_reducible repeat (first | refine blk_drewN ?_ _ | refine blk_drew ?_ | refine blk_alloc ?_ _)); exact BK244.out) hb)
    have n3_ := Aside0.mk (below_step (by repeat (first | (with_reducible first | exact HB.out | apply below_alloc | apply pw_below_drewN | apply below_drew1 | refine below_set ?_ GE242.out | refine below_set ?_ GE243.out | refine below_set ?_ GE244.out) | exact HB.out)) hb)
    clear BK242
    clear BK243
    clear BK244
    clear HB
    have BK242 := n0_
    have BK243 := n1_
    have BK244 := n2_
    have HB := n3_
    clear n0_ n1_ n2_ n3_
    (try clear hb)
    (try clear hb2)
    (try clear hk)
    (try clear hi)
    refine hK.out _ _ ⟨(blk_cell BK244.out 0).trans rfl, (blk_cell BK244.out 1).trans rfl, (blk_cell BK242.out 0).trans rfl, (blk_cell BK242.out 1).trans rfl, (blk_cell BK242.out 2).trans rfl, (blk_cell BK242.out 3).trans rfl⟩ (fun hHeld => ?_)
    clear hK K
    refine norm_ (a' := ?_) ?_ ?_
    rotate_left
    · show Act.put _ (some 12) _ = _
      simp only [Act.put, List.setIfInBounds_toArray, List.set_cons_zero, List.set_cons_succ, i64_w, i32_w]
      rfl
    refine pure_ (i := 3) (N := some 14) (v := ?_) (a' := ?_) #[true, true, true, true] rfl rfl (by kernel_rfl) (fun _ _ _ h => h) (Or.inl ⟨by rfl, ?_⟩) ?_ ?_
    rotate_left
    · intro w'
      go_simp
      with_reducible rfl
    rotate_left
    · simp only [Act.put, List.setIfInBounds_toArray, List.set_cons_zero, List.set_cons_succ, i64_w, i32_w]
      rfl
    refine done_ (by kernel_rfl) ?_
    have hcz27_0 : w26.cell? ⟨gb244, 0, none⟩ = some (.int .i64 (wrap64 (a0_1))) := (blk_cell BK244.out 0).trans rfl
    have hcz27_1 : w26.cell? ⟨gb244, 1, none⟩ = some (.int .u64 a0_0) := (blk_cell BK244.out 1).trans rfl
    have hfz27_0 := blk_frozen BK244.out 0
    have hfz27_1 := blk_frozen BK244.out 1
    have hcz28_0 : w26.cell? ⟨gb243, 0, none⟩ = some (.int .i64 0) := (blk_cell BK243.out 0).trans rfl
    have hcz28_1 : w26.cell? ⟨gb243, 1, none⟩ = some (.int .u64 0) := (blk_cell BK243.out 1).trans rfl
    have hfz28_0 := blk_frozen BK243.out 0
    have hfz28_1 := blk_frozen BK243.out 1
    try go_wp2
    refine bodyPost_ret (results_ct rfl _ _ gb243 33 #[.int .i64 (wrap64 (a0_1)), .int .u64 a0_0] (0, 0) _ rfl (by (with_reducible repeat (first | refine blk_drewN ?_ _ | refine blk_drew ?_ | refine blk_alloc ?_ _)); refine blk_put (cs := #[.int .i64 (wrap64 (a0_1)), .int .u64 0]) ?_ 1 _ rfl; (with_reducible repeat (first | refine blk_drewN ?_ _ | refine blk_drew ?_ | refine blk_alloc ?_ _)); refine blk_put (cs := #[.int .i64 0, .int .u64 0]) ?_ 0 _ rfl; (with_reducible repeat (first | refine blk_drewN ?_ _ | refine blk_drew ?_ | refine blk_alloc ?_ _)); exact BK243.out) Try.underlying33 rfl (by kernel_rfl)) rfl ?_
    exact ⟨by first | rfl | (simp [errW_none, errW_some] <;> rfl) | (simp [*, errW_none, errW_some] <;> rfl), by repeat (first | (with_reducible first | exact HB.out | apply below_alloc | apply pw_below_drewN | apply below_drew1 | refine below_set ?_ GE242.out | refine below_set ?_ GE243.out | refine below_set ?_ GE244.out) | exact HB.out)⟩

end Go.Proofs.Ytbmeokhoebjdbaa.F
end

section
/- quad.Small: what it comes to. -/
namespace Go.Proofs.Ytbmeokhoebjdbaa.Qd
open Go Go.RowKit Go.Proofs.YtbmeokhoebjdbaaW.PrintWords Go.Proofs.Ytbmeokhoebjdbaa.F Go.Proofs.Ytbmeokhoebjdbaa.D8
set_option linter.unusedVariables false
attribute [local irreducible] val P
theorem small_of {h l : Int} (ok : WOk h l) : quad_of.f h l = some (qq4 (wv h l)) := by
  obtain ⟨⟨h0, h1⟩, l0, l1⟩ := ok
  unfold quad_of.f qq4
  have e0 : q0 (wv h l) = l := by unfold q0 wv; omega
  have up : (h * 18446744073709551616 + l) / 18446744073709551616 = h := by omega
  have sg : h / 18446744073709551616 = h / 9223372036854775808 ∧ (h / 9223372036854775808 = 0 ∨ h / 9223372036854775808 = -1) := by omega
  have e1 : q1 (wv h l) = IntKind.u64.wrap h := by rw [IntKind.wrap_u64]; unfold q1 wv; omega
  have e2 : q2 (wv h l) = IntKind.u64.wrap (h / 9223372036854775808) := by rw [IntKind.wrap_u64]; unfold q2 wv; rw [up, sg.1]
  have e3 : q3 (wv h l) = IntKind.u64.wrap (h / 9223372036854775808) := by rw [IntKind.wrap_u64]; unfold q3 wv; rw [up, sg.1]; generalize h / 9223372036854775808 = S at sg ⊢; omega
  rw [e0, e1, e2, e3]
theorem w64_ok (b : Int) : -9223372036854775808 ≤ wrap64 b ∧ wrap64 b ≤ 9223372036854775807 := by unfold wrap64; omega
theorem neq4 (x : Int × Int × Int × Int) (a b c d : Int) : (!(x.1 == a) || (!(x.2.1 == b) || (!(x.2.2.1 == c) || (!(x.2.2.2 == d))))) = !(x.1 == a && (x.2.1 == b && (x.2.2.1 == c && (x.2.2.2 == d)))) := by
  simp only [Bool.not_and]
theorem small_f {a b c d : Int} (h : QOk a b c d) : quad_Small.f a b c d = some (if qq4 (wv (wrap64 b) a) = (a, b, c, d) then (wrap64 b, a, true) else (0, 0, false)) := by
  unfold quad_Small.f
  rw [small_of ⟨w64_ok b, h.1⟩, Option.bind_some, neq4]
  generalize qq4 (wv (wrap64 b) a) = x
  obtain ⟨x0, x1, x2, x3⟩ := x
  by_cases e : (x0, x1, x2, x3) = (a, b, c, d)
  · rw [if_pos e]
    obtain ⟨rfl, rfl, rfl, rfl⟩ := Prod.mk.injEq .. ▸ (by simpa only [Prod.mk.injEq] using e : x0 = a ∧ x1 = b ∧ x2 = c ∧ x3 = d)
    simp
  · rw [if_neg e, if_pos]
    simp only [Prod.mk.injEq] at e
    simp only [Bool.not_eq_true', Bool.and_eq_false_iff, beq_eq_false_iff_ne]
    omega
theorem eq4 (x : Int × Int × Int × Int) (a b c d : Int) : (x.1 == a && (x.2.1 == b && (x.2.2.1 == c && (x.2.2.2 == d)))) = decide (x = (a, b, c, d)) := by
  obtain ⟨x0, x1, x2, x3⟩ := x
  rw [Bool.eq_iff_iff]
  simp
end Go.Proofs.Ytbmeokhoebjdbaa.Qd
end

section
/- quad.Cmp in the print's form (printed by wip/gen_qcmp.py). -/
namespace Go.Proofs.Ytbmeokhoebjdbaa.F
open Go Go.RowKit Go.Proofs.YtbmeokhoebjdbaaW.PrintWords Go.Proofs.YtbmeokhoebjdbaaW.PrintLast Go.Proofs.YtbmeokhoebjdbaaW.PrintMore
set_option linter.unusedVariables false
set_option maxHeartbeats 1000000
theorem undrew {w w1 : World} (h : Below w.drew.heap.size w.drew w1) : Below w.heap.size w w1 := ⟨h.os, h.tape, h.output, h.size, h.block⟩
theorem held {w1 : World} {g g' : Nat} {t : TypeId} {v0 v1 v2 v3 u0 u1 u2 u3 : Value} (h : Four w1 g t v0 v1 v2 v3) (h' : Four w1 g' t u0 u1 u2 u3) : w1.cell? ⟨g, 0, none⟩ = some v0 ∧ w1.cell? ⟨g, 1, none⟩ = some v1 ∧ w1.cell? ⟨g, 2, none⟩ = some v2 ∧ w1.cell? ⟨g, 3, none⟩ = some v3 ∧
    w1.cell? ⟨g', 0, none⟩ = some u0 ∧ w1.cell? ⟨g', 1, none⟩ = some u1 ∧ w1.cell? ⟨g', 2, none⟩ = some u2 ∧ w1.cell? ⟨g', 3, none⟩ = some u3 := ⟨h.cells.1.1, h.cells.1.2.1, h.cells.1.2.2.1, h.cells.1.2.2.2, h'.cells.1⟩
theorem q_cmp_nl (a b c d a' b' c' d' : Int) (n m : Bool) (C : Aside0 (∀ w : World, Calls Try.prog 29 #[q4 a b c d] w fun e w' => e = .returned (.bool n) ∧ Below w.heap.size w w')) (C' : Aside0 (∀ w : World, Calls Try.prog 29 #[q4 a' b' c' d'] w fun e w' => e = .returned (.bool m) ∧ Below w.heap.size w w')) (hn : n = true) (hm : m = false) (w : World) : Calls Try.prog 24 #[q4 a b c d, q4 a' b' c' d'] w fun e w' => e = .returned (.int .i64 (-1)) ∧ Below w.heap.size w w' := by
  subst hn hm
  go_enter Try.func24, Try.ntmps24
  go_wp2_with fail
  go_region_held3 (fun w' => w'.cell? ⟨w.heap.size, 0, none⟩ = some (.int .u64 a) ∧ w'.cell? ⟨w.heap.size, 1, none⟩ = some (.int .u64 b) ∧ w'.cell? ⟨w.heap.size, 2, none⟩ = some (.int .u64 c) ∧ w'.cell? ⟨w.heap.size, 3, none⟩ = some (.int .u64 d) ∧ w'.cell? ⟨w.heap.size + 1, 0, none⟩ = some (.int .u64 a') ∧ w'.cell? ⟨w.heap.size + 1, 1, none⟩ = some (.int .u64 b') ∧ w'.cell? ⟨w.heap.size + 1, 2, none⟩ = some (.int .u64 c') ∧ w'.cell? ⟨w.heap.size + 1, 3, none⟩ = some (.int .u64 d')) (first | exact held F2.out G2.out | exact held F.out G.out | exact held (Four.mk (blk_alloc (blk_new w _) _)) (Four.mk (two_new w _ _)) | fail) (first | (go_at_call 29; with_reducible refine (C.out _).mono ?_; rintro e w3 ⟨rfl, hb⟩; (try replace hb := undrew hb); have HB3 := Aside0.mk (below_step HB2.out hb); clear hb) | (go_at_call 29; with_reducible refine (C'.out _).mono ?_; rintro e w2 ⟨rfl, hb⟩; (try replace hb := undrew hb); have F2 := Aside0.mk (Four.mk (blk_below F.out.blk hb)); have G2 := Aside0.mk (Four.mk (blk_below G.out.blk hb)); have HB2 := Aside0.mk (below_step HB.out hb); clear hb z0 z1 z2 z3 f0 f1 f2 f3 y0 y1 y2 y3 g0 g1 g2 g3; obtain ⟨⟨z0, z1, z2, z3⟩, f0, f1, f2, f3⟩ := F2.out.cells; obtain ⟨⟨y0, y1, y2, y3⟩, g0, g1, g2, g3⟩ := G2.out.cells) | (go_at_call 29; with_reducible refine (C.out _).mono ?_; rintro e w1 ⟨rfl, hb⟩; (try replace hb := undrew hb); have F := Aside0.mk (Four.mk (blk_below (blk_alloc (blk_new w _) _) hb)); have G := Aside0.mk (Four.mk (blk_below (two_new w _ _) hb)); have HB := Aside0.mk ((two_all w _ _).trans (hb.mono (by simp; omega))); clear hb; obtain ⟨⟨z0, z1, z2, z3⟩, f0, f1, f2, f3⟩ := F.out.cells; obtain ⟨⟨y0, y1, y2, y3⟩, g0, g1, g2, g3⟩ := G.out.cells) | fail)
  go_wp2_with (first | (go_at_call 29; with_reducible refine (C.out _).mono ?_; rintro e w3 ⟨rfl, hb⟩; (try replace hb := undrew hb); have HB3 := Aside0.mk (below_step HB2.out hb); clear hb) | (go_at_call 29; with_reducible refine (C'.out _).mono ?_; rintro e w2 ⟨rfl, hb⟩; (try replace hb := undrew hb); have F2 := Aside0.mk (Four.mk (blk_below F.out.blk hb)); have G2 := Aside0.mk (Four.mk (blk_below G.out.blk hb)); have HB2 := Aside0.mk (below_step HB.out hb); clear hb z0 z1 z2 z3 f0 f1 f2 f3 y0 y1 y2 y3 g0 g1 g2 g3; obtain ⟨⟨z0, z1, z2, z3⟩, f0, f1, f2, f3⟩ := F2.out.cells; obtain ⟨⟨y0, y1, y2, y3⟩, g0, g1, g2, g3⟩ := G2.out.cells) | (go_at_call 29; with_reducible refine (C.out _).mono ?_; rintro e w1 ⟨rfl, hb⟩; (try replace hb := undrew hb); have F := Aside0.mk (Four.mk (blk_below (blk_alloc (blk_new w _) _) hb)); have G := Aside0.mk (Four.mk (blk_below (two_new w _ _) hb)); have HB := Aside0.mk ((two_all w _ _).trans (hb.mono (by simp; omega))); clear hb; obtain ⟨⟨z0, z1, z2, z3⟩, f0, f1, f2, f3⟩ := F.out.cells; obtain ⟨⟨y0, y1, y2, y3⟩, g0, g1, g2, g3⟩ := G.out.cells) | fail)
  go_ret
  exact ⟨rfl, by repeat (first | exact HB3.out | apply pw_below_drewN | apply below_drew1)⟩
theorem q_cmp_nr (a b c d a' b' c' d' : Int) (n m : Bool) (C : Aside0 (∀ w : World, Calls Try.prog 29 #[q4 a b c d] w fun e w' => e = .returned (.bool n) ∧ Below w.heap.size w w')) (C' : Aside0 (∀ w : World, Calls Try.prog 29 #[q4 a' b' c' d'] w fun e w' => e = .returned (.bool m) ∧ Below w.heap.size w w')) (hn : n = false) (hm : m = true) (w : World) : Calls Try.prog 24 #[q4 a b c d, q4 a' b' c' d'] w fun e w' => e = .returned (.int .i64 1) ∧ Below w.heap.size w w' := by
  subst hn hm
  go_enter Try.func24, Try.ntmps24
  go_wp2_with fail
  go_region_held3 (fun w' => w'.cell? ⟨w.heap.size, 0, none⟩ = some (.int .u64 a) ∧ w'.cell? ⟨w.heap.size, 1, none⟩ = some (.int .u64 b) ∧ w'.cell? ⟨w.heap.size, 2, none⟩ = some (.int .u64 c) ∧ w'.cell? ⟨w.heap.size, 3, none⟩ = some (.int .u64 d) ∧ w'.cell? ⟨w.heap.size + 1, 0, none⟩ = some (.int .u64 a') ∧ w'.cell? ⟨w.heap.size + 1, 1, none⟩ = some (.int .u64 b') ∧ w'.cell? ⟨w.heap.size + 1, 2, none⟩ = some (.int .u64 c') ∧ w'.cell? ⟨w.heap.size + 1, 3, none⟩ = some (.int .u64 d')) (first | exact held F2.out G2.out | exact held F.out G.out | exact held (Four.mk (blk_alloc (blk_new w _) _)) (Four.mk (two_new w _ _)) | fail) (first | (go_at_call 29; with_reducible refine (C.out _).mono ?_; rintro e w3 ⟨rfl, hb⟩; (try replace hb := undrew hb); have HB3 := Aside0.mk (below_step HB2.out hb); clear hb) | (go_at_call 29; with_reducible refine (C'.out _).mono ?_; rintro e w2 ⟨rfl, hb⟩; (try replace hb := undrew hb); have F2 := Aside0.mk (Four.mk (blk_below F.out.blk hb)); have G2 := Aside0.mk (Four.mk (blk_below G.out.blk hb)); have HB2 := Aside0.mk (below_step HB.out hb); clear hb z0 z1 z2 z3 f0 f1 f2 f3 y0 y1 y2 y3 g0 g1 g2 g3; obtain ⟨⟨z0, z1, z2, z3⟩, f0, f1, f2, f3⟩ := F2.out.cells; obtain ⟨⟨y0, y1, y2, y3⟩, g0, g1, g2, g3⟩ := G2.out.cells) | (go_at_call 29; with_reducible refine (C.out _).mono ?_; rintro e w1 ⟨rfl, hb⟩; (try replace hb := undrew hb); have F := Aside0.mk (Four.mk (blk_below (blk_alloc (blk_new w _) _) hb)); have G := Aside0.mk (Four.mk (blk_below (two_new w _ _) hb)); have HB := Aside0.mk ((two_all w _ _).trans (hb.mono (by simp; omega))); clear hb; obtain ⟨⟨z0, z1, z2, z3⟩, f0, f1, f2, f3⟩ := F.out.cells; obtain ⟨⟨y0, y1, y2, y3⟩, g0, g1, g2, g3⟩ := G.out.cells) | fail)
  go_wp2_with (first | (go_at_call 29; with_reducible refine (C.out _).mono ?_; rintro e w3 ⟨rfl, hb⟩; (try replace hb := undrew hb); have HB3 := Aside0.mk (below_step HB2.out hb); clear hb) | (go_at_call 29; with_reducible refine (C'.out _).mono ?_; rintro e w2 ⟨rfl, hb⟩; (try replace hb := undrew hb); have F2 := Aside0.mk (Four.mk (blk_below F.out.blk hb)); have G2 := Aside0.mk (Four.mk (blk_below G.out.blk hb)); have HB2 := Aside0.mk (below_step HB.out hb); clear hb z0 z1 z2 z3 f0 f1 f2 f3 y0 y1 y2 y3 g0 g1 g2 g3; obtain ⟨⟨z0, z1, z2, z3⟩, f0, f1, f2, f3⟩ := F2.out.cells; obtain ⟨⟨y0, y1, y2, y3⟩, g0, g1, g2, g3⟩ := G2.out.cells) | (go_at_call 29; with_reducible refine (C.out _).mono ?_; rintro e w1 ⟨rfl, hb⟩; (try replace hb := undrew hb); have F := Aside0.mk (Four.mk (blk_below (blk_alloc (blk_new w _) _) hb)); have G := Aside0.mk (Four.mk (blk_below (two_new w _ _) hb)); have HB := Aside0.mk ((two_all w _ _).trans (hb.mono (by simp; omega))); clear hb; obtain ⟨⟨z0, z1, z2, z3⟩, f0, f1, f2, f3⟩ := F.out.cells; obtain ⟨⟨y0, y1, y2, y3⟩, g0, g1, g2, g3⟩ := G.out.cells) | fail)
  go_ret
  exact ⟨rfl, by repeat (first | exact HB3.out | apply pw_below_drewN | apply below_drew1)⟩
theorem q_cmp_l0 (a b c d a' b' c' d' : Int) (n m : Bool) (C : Aside0 (∀ w : World, Calls Try.prog 29 #[q4 a b c d] w fun e w' => e = .returned (.bool n) ∧ Below w.heap.size w w')) (C' : Aside0 (∀ w : World, Calls Try.prog 29 #[q4 a' b' c' d'] w fun e w' => e = .returned (.bool m) ∧ Below w.heap.size w w')) (hn : n = m) (e0 : decide (d < d') = true) (w : World) : Calls Try.prog 24 #[q4 a b c d, q4 a' b' c' d'] w fun e w' => e = .returned (.int .i64 (-1)) ∧ Below w.heap.size w w' := by
  subst hn
  cases n
  · go_enter Try.func24, Try.ntmps24
    go_wp2_with fail
    go_region_held3 (fun w' => w'.cell? ⟨w.heap.size, 0, none⟩ = some (.int .u64 a) ∧ w'.cell? ⟨w.heap.size, 1, none⟩ = some (.int .u64 b) ∧ w'.cell? ⟨w.heap.size, 2, none⟩ = some (.int .u64 c) ∧ w'.cell? ⟨w.heap.size, 3, none⟩ = some (.int .u64 d) ∧ w'.cell? ⟨w.heap.size + 1, 0, none⟩ = some (.int .u64 a') ∧ w'.cell? ⟨w.heap.size + 1, 1, none⟩ = some (.int .u64 b') ∧ w'.cell? ⟨w.heap.size + 1, 2, none⟩ = some (.int .u64 c') ∧ w'.cell? ⟨w.heap.size + 1, 3, none⟩ = some (.int .u64 d')) (first | exact held F2.out G2.out | exact held F.out G.out | exact held (Four.mk (blk_alloc (blk_new w _) _)) (Four.mk (two_new w _ _)) | fail) (first | (go_at_call 29; with_reducible refine (C.out _).mono ?_; rintro e w3 ⟨rfl, hb⟩; (try replace hb := undrew hb); have HB3 := Aside0.mk (below_step HB2.out hb); clear hb) | (go_at_call 29; with_reducible refine (C'.out _).mono ?_; rintro e w2 ⟨rfl, hb⟩; (try replace hb := undrew hb); have F2 := Aside0.mk (Four.mk (blk_below F.out.blk hb)); have G2 := Aside0.mk (Four.mk (blk_below G.out.blk hb)); have HB2 := Aside0.mk (below_step HB.out hb); clear hb z0 z1 z2 z3 f0 f1 f2 f3 y0 y1 y2 y3 g0 g1 g2 g3; obtain ⟨⟨z0, z1, z2, z3⟩, f0, f1, f2, f3⟩ := F2.out.cells; obtain ⟨⟨y0, y1, y2, y3⟩, g0, g1, g2, g3⟩ := G2.out.cells) | (go_at_call 29; with_reducible refine (C.out _).mono ?_; rintro e w1 ⟨rfl, hb⟩; (try replace hb := undrew hb); have F := Aside0.mk (Four.mk (blk_below (blk_alloc (blk_new w _) _) hb)); have G := Aside0.mk (Four.mk (blk_below (two_new w _ _) hb)); have HB := Aside0.mk ((two_all w _ _).trans (hb.mono (by simp; omega))); clear hb; obtain ⟨⟨z0, z1, z2, z3⟩, f0, f1, f2, f3⟩ := F.out.cells; obtain ⟨⟨y0, y1, y2, y3⟩, g0, g1, g2, g3⟩ := G.out.cells) | fail)
    go_wp2_with (first | (go_at_call 29; with_reducible refine (C.out _).mono ?_; rintro e w3 ⟨rfl, hb⟩; (try replace hb := undrew hb); have HB3 := Aside0.mk (below_step HB2.out hb); clear hb) | (go_at_call 29; with_reducible refine (C'.out _).mono ?_; rintro e w2 ⟨rfl, hb⟩; (try replace hb := undrew hb); have F2 := Aside0.mk (Four.mk (blk_below F.out.blk hb)); have G2 := Aside0.mk (Four.mk (blk_below G.out.blk hb)); have HB2 := Aside0.mk (below_step HB.out hb); clear hb z0 z1 z2 z3 f0 f1 f2 f3 y0 y1 y2 y3 g0 g1 g2 g3; obtain ⟨⟨z0, z1, z2, z3⟩, f0, f1, f2, f3⟩ := F2.out.cells; obtain ⟨⟨y0, y1, y2, y3⟩, g0, g1, g2, g3⟩ := G2.out.cells) | (go_at_call 29; with_reducible refine (C.out _).mono ?_; rintro e w1 ⟨rfl, hb⟩; (try replace hb := undrew hb); have F := Aside0.mk (Four.mk (blk_below (blk_alloc (blk_new w _) _) hb)); have G := Aside0.mk (Four.mk (blk_below (two_new w _ _) hb)); have HB := Aside0.mk ((two_all w _ _).trans (hb.mono (by simp; omega))); clear hb; obtain ⟨⟨z0, z1, z2, z3⟩, f0, f1, f2, f3⟩ := F.out.cells; obtain ⟨⟨y0, y1, y2, y3⟩, g0, g1, g2, g3⟩ := G.out.cells) | fail)
    refine wp_loop_rounds 5 ?_
    rw [rounds_succ]
    go_wp2
    go_region
    go_wp2
    go_ret
    exact ⟨rfl, by repeat (first | exact HB2.out | apply pw_below_drewN | apply below_drew1)⟩
  · go_enter Try.func24, Try.ntmps24
    go_wp2_with fail
    go_region_held3 (fun w' => w'.cell? ⟨w.heap.size, 0, none⟩ = some (.int .u64 a) ∧ w'.cell? ⟨w.heap.size, 1, none⟩ = some (.int .u64 b) ∧ w'.cell? ⟨w.heap.size, 2, none⟩ = some (.int .u64 c) ∧ w'.cell? ⟨w.heap.size, 3, none⟩ = some (.int .u64 d) ∧ w'.cell? ⟨w.heap.size + 1, 0, none⟩ = some (.int .u64 a') ∧ w'.cell? ⟨w.heap.size + 1, 1, none⟩ = some (.int .u64 b') ∧ w'.cell? ⟨w.heap.size + 1, 2, none⟩ = some (.int .u64 c') ∧ w'.cell? ⟨w.heap.size + 1, 3, none⟩ = some (.int .u64 d')) (first | exact held F2.out G2.out | exact held F.out G.out | exact held (Four.mk (blk_alloc (blk_new w _) _)) (Four.mk (two_new w _ _)) | fail) (first | (go_at_call 29; with_reducible refine (C.out _).mono ?_; rintro e w3 ⟨rfl, hb⟩; (try replace hb := undrew hb); have HB3 := Aside0.mk (below_step HB2.out hb); clear hb) | (go_at_call 29; with_reducible refine (C'.out _).mono ?_; rintro e w2 ⟨rfl, hb⟩; (try replace hb := undrew hb); have F2 := Aside0.mk (Four.mk (blk_below F.out.blk hb)); have G2 := Aside0.mk (Four.mk (blk_below G.out.blk hb)); have HB2 := Aside0.mk (below_step HB.out hb); clear hb z0 z1 z2 z3 f0 f1 f2 f3 y0 y1 y2 y3 g0 g1 g2 g3; obtain ⟨⟨z0, z1, z2, z3⟩, f0, f1, f2, f3⟩ := F2.out.cells; obtain ⟨⟨y0, y1, y2, y3⟩, g0, g1, g2, g3⟩ := G2.out.cells) | (go_at_call 29; with_reducible refine (C.out _).mono ?_; rintro e w1 ⟨rfl, hb⟩; (try replace hb := undrew hb); have F := Aside0.mk (Four.mk (blk_below (blk_alloc (blk_new w _) _) hb)); have G := Aside0.mk (Four.mk (blk_below (two_new w _ _) hb)); have HB := Aside0.mk ((two_all w _ _).trans (hb.mono (by simp; omega))); clear hb; obtain ⟨⟨z0, z1, z2, z3⟩, f0, f1, f2, f3⟩ := F.out.cells; obtain ⟨⟨y0, y1, y2, y3⟩, g0, g1, g2, g3⟩ := G.out.cells) | fail)
    go_wp2_with (first | (go_at_call 29; with_reducible refine (C.out _).mono ?_; rintro e w3 ⟨rfl, hb⟩; (try replace hb := undrew hb); have HB3 := Aside0.mk (below_step HB2.out hb); clear hb) | (go_at_call 29; with_reducible refine (C'.out _).mono ?_; rintro e w2 ⟨rfl, hb⟩; (try replace hb := undrew hb); have F2 := Aside0.mk (Four.mk (blk_below F.out.blk hb)); have G2 := Aside0.mk (Four.mk (blk_below G.out.blk hb)); have HB2 := Aside0.mk (below_step HB.out hb); clear hb z0 z1 z2 z3 f0 f1 f2 f3 y0 y1 y2 y3 g0 g1 g2 g3; obtain ⟨⟨z0, z1, z2, z3⟩, f0, f1, f2, f3⟩ := F2.out.cells; obtain ⟨⟨y0, y1, y2, y3⟩, g0, g1, g2, g3⟩ := G2.out.cells) | (go_at_call 29; with_reducible refine (C.out _).mono ?_; rintro e w1 ⟨rfl, hb⟩; (try replace hb := undrew hb); have F := Aside0.mk (Four.mk (blk_below (blk_alloc (blk_new w _) _) hb)); have G := Aside0.mk (Four.mk (blk_below (two_new w _ _) hb)); have HB := Aside0.mk ((two_all w _ _).trans (hb.mono (by simp; omega))); clear hb; obtain ⟨⟨z0, z1, z2, z3⟩, f0, f1, f2, f3⟩ := F.out.cells; obtain ⟨⟨y0, y1, y2, y3⟩, g0, g1, g2, g3⟩ := G.out.cells) | fail)
    refine wp_loop_rounds 5 ?_
    rw [rounds_succ]
    go_wp2
    go_region
    go_wp2
    go_ret
    exact ⟨rfl, by repeat (first | exact HB2.out | apply pw_below_drewN | apply below_drew1)⟩
theorem q_cmp_g0 (a b c d a' b' c' d' : Int) (n m : Bool) (C : Aside0 (∀ w : World, Calls Try.prog 29 #[q4 a b c d] w fun e w' => e = .returned (.bool n) ∧ Below w.heap.size w w')) (C' : Aside0 (∀ w : World, Calls Try.prog 29 #[q4 a' b' c' d'] w fun e w' => e = .returned (.bool m) ∧ Below w.heap.size w w')) (hn : n = m) (e0 : decide (d < d') = false) (u0 : decide (d' < d) = true) (w : World) : Calls Try.prog 24 #[q4 a b c d, q4 a' b' c' d'] w fun e w' => e = .returned (.int .i64 1) ∧ Below w.heap.size w w' := by
  subst hn
  cases n
  · go_enter Try.func24, Try.ntmps24
    go_wp2_with fail
    go_region_held3 (fun w' => w'.cell? ⟨w.heap.size, 0, none⟩ = some (.int .u64 a) ∧ w'.cell? ⟨w.heap.size, 1, none⟩ = some (.int .u64 b) ∧ w'.cell? ⟨w.heap.size, 2, none⟩ = some (.int .u64 c) ∧ w'.cell? ⟨w.heap.size, 3, none⟩ = some (.int .u64 d) ∧ w'.cell? ⟨w.heap.size + 1, 0, none⟩ = some (.int .u64 a') ∧ w'.cell? ⟨w.heap.size + 1, 1, none⟩ = some (.int .u64 b') ∧ w'.cell? ⟨w.heap.size + 1, 2, none⟩ = some (.int .u64 c') ∧ w'.cell? ⟨w.heap.size + 1, 3, none⟩ = some (.int .u64 d')) (first | exact held F2.out G2.out | exact held F.out G.out | exact held (Four.mk (blk_alloc (blk_new w _) _)) (Four.mk (two_new w _ _)) | fail) (first | (go_at_call 29; with_reducible refine (C.out _).mono ?_; rintro e w3 ⟨rfl, hb⟩; (try replace hb := undrew hb); have HB3 := Aside0.mk (below_step HB2.out hb); clear hb) | (go_at_call 29; with_reducible refine (C'.out _).mono ?_; rintro e w2 ⟨rfl, hb⟩; (try replace hb := undrew hb); have F2 := Aside0.mk (Four.mk (blk_below F.out.blk hb)); have G2 := Aside0.mk (Four.mk (blk_below G.out.blk hb)); have HB2 := Aside0.mk (below_step HB.out hb); clear hb z0 z1 z2 z3 f0 f1 f2 f3 y0 y1 y2 y3 g0 g1 g2 g3; obtain ⟨⟨z0, z1, z2, z3⟩, f0, f1, f2, f3⟩ := F2.out.cells; obtain ⟨⟨y0, y1, y2, y3⟩, g0, g1, g2, g3⟩ := G2.out.cells) | (go_at_call 29; with_reducible refine (C.out _).mono ?_; rintro e w1 ⟨rfl, hb⟩; (try replace hb := undrew hb); have F := Aside0.mk (Four.mk (blk_below (blk_alloc (blk_new w _) _) hb)); have G := Aside0.mk (Four.mk (blk_below (two_new w _ _) hb)); have HB := Aside0.mk ((two_all w _ _).trans (hb.mono (by simp; omega))); clear hb; obtain ⟨⟨z0, z1, z2, z3⟩, f0, f1, f2, f3⟩ := F.out.cells; obtain ⟨⟨y0, y1, y2, y3⟩, g0, g1, g2, g3⟩ := G.out.cells) | fail)
    go_wp2_with (first | (go_at_call 29; with_reducible refine (C.out _).mono ?_; rintro e w3 ⟨rfl, hb⟩; (try replace hb := undrew hb); have HB3 := Aside0.mk (below_step HB2.out hb); clear hb) | (go_at_call 29; with_reducible refine (C'.out _).mono ?_; rintro e w2 ⟨rfl, hb⟩; (try replace hb := undrew hb); have F2 := Aside0.mk (Four.mk (blk_below F.out.blk hb)); have G2 := Aside0.mk (Four.mk (blk_below G.out.blk hb)); have HB2 := Aside0.mk (below_step HB.out hb); clear hb z0 z1 z2 z3 f0 f1 f2 f3 y0 y1 y2 y3 g0 g1 g2 g3; obtain ⟨⟨z0, z1, z2, z3⟩, f0, f1, f2, f3⟩ := F2.out.cells; obtain ⟨⟨y0, y1, y2, y3⟩, g0, g1, g2, g3⟩ := G2.out.cells) | (go_at_call 29; with_reducible refine (C.out _).mono ?_; rintro e w1 ⟨rfl, hb⟩; (try replace hb := undrew hb); have F := Aside0.mk (Four.mk (blk_below (blk_alloc (blk_new w _) _) hb)); have G := Aside0.mk (Four.mk (blk_below (two_new w _ _) hb)); have HB := Aside0.mk ((two_all w _ _).trans (hb.mono (by simp; omega))); clear hb; obtain ⟨⟨z0, z1, z2, z3⟩, f0, f1, f2, f3⟩ := F.out.cells; obtain ⟨⟨y0, y1, y2, y3⟩, g0, g1, g2, g3⟩ := G.out.cells) | fail)
    refine wp_loop_rounds 5 ?_
    rw [rounds_succ]
    go_wp2
    go_region
    go_wp2
    go_region
    go_wp2
    go_ret
    exact ⟨rfl, by repeat (first | exact HB2.out | apply pw_below_drewN | apply below_drew1)⟩
  · go_enter Try.func24, Try.ntmps24
    go_wp2_with fail
    go_region_held3 (fun w' => w'.cell? ⟨w.heap.size, 0, none⟩ = some (.int .u64 a) ∧ w'.cell? ⟨w.heap.size, 1, none⟩ = some (.int .u64 b) ∧ w'.cell? ⟨w.heap.size, 2, none⟩ = some (.int .u64 c) ∧ w'.cell? ⟨w.heap.size, 3, none⟩ = some (.int .u64 d) ∧ w'.cell? ⟨w.heap.size + 1, 0, none⟩ = some (.int .u64 a') ∧ w'.cell? ⟨w.heap.size + 1, 1, none⟩ = some (.int .u64 b') ∧ w'.cell? ⟨w.heap.size + 1, 2, none⟩ = some (.int .u64 c') ∧ w'.cell? ⟨w.heap.size + 1, 3, none⟩ = some (.int .u64 d')) (first | exact held F2.out G2.out | exact held F.out G.out | exact held (Four.mk (blk_alloc (blk_new w _) _)) (Four.mk (two_new w _ _)) | fail) (first | (go_at_call 29; with_reducible refine (C.out _).mono ?_; rintro e w3 ⟨rfl, hb⟩; (try replace hb := undrew hb); have HB3 := Aside0.mk (below_step HB2.out hb); clear hb) | (go_at_call 29; with_reducible refine (C'.out _).mono ?_; rintro e w2 ⟨rfl, hb⟩; (try replace hb := undrew hb); have F2 := Aside0.mk (Four.mk (blk_below F.out.blk hb)); have G2 := Aside0.mk (Four.mk (blk_below G.out.blk hb)); have HB2 := Aside0.mk (below_step HB.out hb); clear hb z0 z1 z2 z3 f0 f1 f2 f3 y0 y1 y2 y3 g0 g1 g2 g3; obtain ⟨⟨z0, z1, z2, z3⟩, f0, f1, f2, f3⟩ := F2.out.cells; obtain ⟨⟨y0, y1, y2, y3⟩, g0, g1, g2, g3⟩ := G2.out.cells) | (go_at_call 29; with_reducible refine (C.out _).mono ?_; rintro e w1 ⟨rfl, hb⟩; (try replace hb := undrew hb); have F := Aside0.mk (Four.mk (blk_below (blk_alloc (blk_new w _) _) hb)); have G := Aside0.mk (Four.mk (blk_below (two_new w _ _) hb)); have HB := Aside0.mk ((two_all w _ _).trans (hb.mono (by simp; omega))); clear hb; obtain ⟨⟨z0, z1, z2, z3⟩, f0, f1, f2, f3⟩ := F.out.cells; obtain ⟨⟨y0, y1, y2, y3⟩, g0, g1, g2, g3⟩ := G.out.cells) | fail)
    go_wp2_with (first | (go_at_call 29; with_reducible refine (C.out _).mono ?_; rintro e w3 ⟨rfl, hb⟩; (try replace hb := undrew hb); have HB3 := Aside0.mk (below_step HB2.out hb); clear hb) | (go_at_call 29; with_reducible refine (C'.out _).mono ?_; rintro e w2 ⟨rfl, hb⟩; (try replace hb := undrew hb); have F2 := Aside0.mk (Four.mk (blk_below F.out.blk hb)); have G2 := Aside0.mk (Four.mk (blk_below G.out.blk hb)); have HB2 := Aside0.mk (below_step HB.out hb); clear hb z0 z1 z2 z3 f0 f1 f2 f3 y0 y1 y2 y3 g0 g1 g2 g3; obtain ⟨⟨z0, z1, z2, z3⟩, f0, f1, f2, f3⟩ := F2.out.cells; obtain ⟨⟨y0, y1, y2, y3⟩, g0, g1, g2, g3⟩ := G2.out.cells) | (go_at_call 29; with_reducible refine (C.out _).mono ?_; rintro e w1 ⟨rfl, hb⟩; (try replace hb := undrew hb); have F := Aside0.mk (Four.mk (blk_below (blk_alloc (blk_new w _) _) hb)); have G := Aside0.mk (Four.mk (blk_below (two_new w _ _) hb)); have HB := Aside0.mk ((two_all w _ _).trans (hb.mono (by simp; omega))); clear hb; obtain ⟨⟨z0, z1, z2, z3⟩, f0, f1, f2, f3⟩ := F.out.cells; obtain ⟨⟨y0, y1, y2, y3⟩, g0, g1, g2, g3⟩ := G.out.cells) | fail)
    refine wp_loop_rounds 5 ?_
    rw [rounds_succ]
    go_wp2
    go_region
    go_wp2
    go_region
    go_wp2
    go_ret
    exact ⟨rfl, by repeat (first | exact HB2.out | apply pw_below_drewN | apply below_drew1)⟩
theorem q_cmp_l1 (a b c d a' b' c' d' : Int) (n m : Bool) (C : Aside0 (∀ w : World, Calls Try.prog 29 #[q4 a b c d] w fun e w' => e = .returned (.bool n) ∧ Below w.heap.size w w')) (C' : Aside0 (∀ w : World, Calls Try.prog 29 #[q4 a' b' c' d'] w fun e w' => e = .returned (.bool m) ∧ Below w.heap.size w w')) (hn : n = m) (e0 : decide (d < d') = false) (u0 : decide (d' < d) = false) (e1 : decide (c < c') = true) (w : World) : Calls Try.prog 24 #[q4 a b c d, q4 a' b' c' d'] w fun e w' => e = .returned (.int .i64 (-1)) ∧ Below w.heap.size w w' := by
  subst hn
  cases n
  · go_enter Try.func24, Try.ntmps24
    go_wp2_with fail
    go_region_held3 (fun w' => w'.cell? ⟨w.heap.size, 0, none⟩ = some (.int .u64 a) ∧ w'.cell? ⟨w.heap.size, 1, none⟩ = some (.int .u64 b) ∧ w'.cell? ⟨w.heap.size, 2, none⟩ = some (.int .u64 c) ∧ w'.cell? ⟨w.heap.size, 3, none⟩ = some (.int .u64 d) ∧ w'.cell? ⟨w.heap.size + 1, 0, none⟩ = some (.int .u64 a') ∧ w'.cell? ⟨w.heap.size + 1, 1, none⟩ = some (.int .u64 b') ∧ w'.cell? ⟨w.heap.size + 1, 2, none⟩ = some (.int .u64 c') ∧ w'.cell? ⟨w.heap.size + 1, 3, none⟩ = some (.int .u64 d')) (first | exact held F2.out G2.out | exact held F.out G.out | exact held (Four.mk (blk_alloc (blk_new w _) _)) (Four.mk (two_new w _ _)) | fail) (first | (go_at_call 29; with_reducible refine (C.out _).mono ?_; rintro e w3 ⟨rfl, hb⟩; (try replace hb := undrew hb); have HB3 := Aside0.mk (below_step HB2.out hb); clear hb) | (go_at_call 29; with_reducible refine (C'.out _).mono ?_; rintro e w2 ⟨rfl, hb⟩; (try replace hb := undrew hb); have F2 := Aside0.mk (Four.mk (blk_below F.out.blk hb)); have G2 := Aside0.mk (Four.mk (blk_below G.out.blk hb)); have HB2 := Aside0.mk (below_step HB.out hb); clear hb z0 z1 z2 z3 f0 f1 f2 f3 y0 y1 y2 y3 g0 g1 g2 g3; obtain ⟨⟨z0, z1, z2, z3⟩, f0, f1, f2, f3⟩ := F2.out.cells; obtain ⟨⟨y0, y1, y2, y3⟩, g0, g1, g2, g3⟩ := G2.out.cells) | (go_at_call 29; with_reducible refine (C.out _).mono ?_; rintro e w1 ⟨rfl, hb⟩; (try replace hb := undrew hb); have F := Aside0.mk (Four.mk (blk_below (blk_alloc (blk_new w _) _) hb)); have G := Aside0.mk (Four.mk (blk_below (two_new w _ _) hb)); have HB := Aside0.mk ((two_all w _ _).trans (hb.mono (by simp; omega))); clear hb; obtain ⟨⟨z0, z1, z2, z3⟩, f0, f1, f2, f3⟩ := F.out.cells; obtain ⟨⟨y0, y1, y2, y3⟩, g0, g1, g2, g3⟩ := G.out.cells) | fail)
    go_wp2_with (first | (go_at_call 29; with_reducible refine (C.out _).mono ?_; rintro e w3 ⟨rfl, hb⟩; (try replace hb := undrew hb); have HB3 := Aside0.mk (below_step HB2.out hb); clear hb) | (go_at_call 29; with_reducible refine (C'.out _).mono ?_; rintro e w2 ⟨rfl, hb⟩; (try replace hb := undrew hb); have F2 := Aside0.mk (Four.mk (blk_below F.out.blk hb)); have G2 := Aside0.mk (Four.mk (blk_below G.out.blk hb)); have HB2 := Aside0.mk (below_step HB.out hb); clear hb z0 z1 z2 z3 f0 f1 f2 f3 y0 y1 y2 y3 g0 g1 g2 g3; obtain ⟨⟨z0, z1, z2, z3⟩, f0, f1, f2, f3⟩ := F2.out.cells; obtain ⟨⟨y0, y1, y2, y3⟩, g0, g1, g2, g3⟩ := G2.out.cells) | (go_at_call 29; with_reducible refine (C.out _).mono ?_; rintro e w1 ⟨rfl, hb⟩; (try replace hb := undrew hb); have F := Aside0.mk (Four.mk (blk_below (blk_alloc (blk_new w _) _) hb)); have G := Aside0.mk (Four.mk (blk_below (two_new w _ _) hb)); have HB := Aside0.mk ((two_all w _ _).trans (hb.mono (by simp; omega))); clear hb; obtain ⟨⟨z0, z1, z2, z3⟩, f0, f1, f2, f3⟩ := F.out.cells; obtain ⟨⟨y0, y1, y2, y3⟩, g0, g1, g2, g3⟩ := G.out.cells) | fail)
    refine wp_loop_rounds 5 ?_
    rw [rounds_succ]
    go_wp2
    go_region
    go_wp2
    go_region
    go_wp2
    rw [rounds_succ]
    go_wp2
    go_region
    go_wp2
    go_ret
    exact ⟨rfl, by repeat (first | exact HB2.out | apply pw_below_drewN | apply below_drew1)⟩
  · go_enter Try.func24, Try.ntmps24
    go_wp2_with fail
    go_region_held3 (fun w' => w'.cell? ⟨w.heap.size, 0, none⟩ = some (.int .u64 a) ∧ w'.cell? ⟨w.heap.size, 1, none⟩ = some (.int .u64 b) ∧ w'.cell? ⟨w.heap.size, 2, none⟩ = some (.int .u64 c) ∧ w'.cell? ⟨w.heap.size, 3, none⟩ = some (.int .u64 d) ∧ w'.cell? ⟨w.heap.size + 1, 0, none⟩ = some (.int .u64 a') ∧ w'.cell? ⟨w.heap.size + 1, 1, none⟩ = some (.int .u64 b') ∧ w'.cell? ⟨w.heap.size + 1, 2, none⟩ = some (.int .u64 c') ∧ w'.cell? ⟨w.heap.size + 1, 3, none⟩ = some (.int .u64 d')) (first | exact held F2.out G2.out | exact held F.out G.out | exact held (Four.mk (blk_alloc (blk_new w _) _)) (Four.mk (two_new w _ _)) | fail) (first | (go_at_call 29; with_reducible refine (C.out _).mono ?_; rintro e w3 ⟨rfl, hb⟩; (try replace hb := undrew hb); have HB3 := Aside0.mk (below_step HB2.out hb); clear hb) | (go_at_call 29; with_reducible refine (C'.out _).mono ?_; rintro e w2 ⟨rfl, hb⟩; (try replace hb := undrew hb); have F2 := Aside0.mk (Four.mk (blk_below F.out.blk hb)); have G2 := Aside0.mk (Four.mk (blk_below G.out.blk hb)); have HB2 := Aside0.mk (below_step HB.out hb); clear hb z0 z1 z2 z3 f0 f1 f2 f3 y0 y1 y2 y3 g0 g1 g2 g3; obtain ⟨⟨z0, z1, z2, z3⟩, f0, f1, f2, f3⟩ := F2.out.cells; obtain ⟨⟨y0, y1, y2, y3⟩, g0, g1, g2, g3⟩ := G2.out.cells) | (go_at_call 29; with_reducible refine (C.out _).mono ?_; rintro e w1 ⟨rfl, hb⟩; (try replace hb := undrew hb); have F := Aside0.mk (Four.mk (blk_below (blk_alloc (blk_new w _) _) hb)); have G := Aside0.mk (Four.mk (blk_below (two_new w _ _) hb)); have HB := Aside0.mk ((two_all w _ _).trans (hb.mono (by simp; omega))); clear hb; obtain ⟨⟨z0, z1, z2, z3⟩, f0, f1, f2, f3⟩ := F.out.cells; obtain ⟨⟨y0, y1, y2, y3⟩, g0, g1, g2, g3⟩ := G.out.cells) | fail)
    go_wp2_with (first | (go_at_call 29; with_reducible refine (C.out _).mono ?_; rintro e w3 ⟨rfl, hb⟩; (try replace hb := undrew hb); have HB3 := Aside0.mk (below_step HB2.out hb); clear hb) | (go_at_call 29; with_reducible refine (C'.out _).mono ?_; rintro e w2 ⟨rfl, hb⟩; (try replace hb := undrew hb); have F2 := Aside0.mk (Four.mk (blk_below F.out.blk hb)); have G2 := Aside0.mk (Four.mk (blk_below G.out.blk hb)); have HB2 := Aside0.mk (below_step HB.out hb); clear hb z0 z1 z2 z3 f0 f1 f2 f3 y0 y1 y2 y3 g0 g1 g2 g3; obtain ⟨⟨z0, z1, z2, z3⟩, f0, f1, f2, f3⟩ := F2.out.cells; obtain ⟨⟨y0, y1, y2, y3⟩, g0, g1, g2, g3⟩ := G2.out.cells) | (go_at_call 29; with_reducible refine (C.out _).mono ?_; rintro e w1 ⟨rfl, hb⟩; (try replace hb := undrew hb); have F := Aside0.mk (Four.mk (blk_below (blk_alloc (blk_new w _) _) hb)); have G := Aside0.mk (Four.mk (blk_below (two_new w _ _) hb)); have HB := Aside0.mk ((two_all w _ _).trans (hb.mono (by simp; omega))); clear hb; obtain ⟨⟨z0, z1, z2, z3⟩, f0, f1, f2, f3⟩ := F.out.cells; obtain ⟨⟨y0, y1, y2, y3⟩, g0, g1, g2, g3⟩ := G.out.cells) | fail)
    refine wp_loop_rounds 5 ?_
    rw [rounds_succ]
    go_wp2
    go_region
    go_wp2
    go_region
    go_wp2
    rw [rounds_succ]
    go_wp2
    go_region
    go_wp2
    go_ret
    exact ⟨rfl, by repeat (first | exact HB2.out | apply pw_below_drewN | apply below_drew1)⟩
theorem q_cmp_g1 (a b c d a' b' c' d' : Int) (n m : Bool) (C : Aside0 (∀ w : World, Calls Try.prog 29 #[q4 a b c d] w fun e w' => e = .returned (.bool n) ∧ Below w.heap.size w w')) (C' : Aside0 (∀ w : World, Calls Try.prog 29 #[q4 a' b' c' d'] w fun e w' => e = .returned (.bool m) ∧ Below w.heap.size w w')) (hn : n = m) (e0 : decide (d < d') = false) (u0 : decide (d' < d) = false) (e1 : decide (c < c') = false) (u1 : decide (c' < c) = true) (w : World) : Calls Try.prog 24 #[q4 a b c d, q4 a' b' c' d'] w fun e w' => e = .returned (.int .i64 1) ∧ Below w.heap.size w w' := by
  subst hn
  cases n
  · go_enter Try.func24, Try.ntmps24
    go_wp2_with fail
    go_region_held3 (fun w' => w'.cell? ⟨w.heap.size, 0, none⟩ = some (.int .u64 a) ∧ w'.cell? ⟨w.heap.size, 1, none⟩ = some (.int .u64 b) ∧ w'.cell? ⟨w.heap.size, 2, none⟩ = some (.int .u64 c) ∧ w'.cell? ⟨w.heap.size, 3, none⟩ = some (.int .u64 d) ∧ w'.cell? ⟨w.heap.size + 1, 0, none⟩ = some (.int .u64 a') ∧ w'.cell? ⟨w.heap.size + 1, 1, none⟩ = some (.int .u64 b') ∧ w'.cell? ⟨w.heap.size + 1, 2, none⟩ = some (.int .u64 c') ∧ w'.cell? ⟨w.heap.size + 1, 3, none⟩ = some (.int .u64 d')) (first | exact held F2.out G2.out | exact held F.out G.out | exact held (Four.mk (blk_alloc (blk_new w _) _)) (Four.mk (two_new w _ _)) | fail) (first | (go_at_call 29; with_reducible refine (C.out _).mono ?_; rintro e w3 ⟨rfl, hb⟩; (try replace hb := undrew hb); have HB3 := Aside0.mk (below_step HB2.out hb); clear hb) | (go_at_call 29; with_reducible refine (C'.out _).mono ?_; rintro e w2 ⟨rfl, hb⟩; (try replace hb := undrew hb); have F2 := Aside0.mk (Four.mk (blk_below F.out.blk hb)); have G2 := Aside0.mk (Four.mk (blk_below G.out.blk hb)); have HB2 := Aside0.mk (below_step HB.out hb); clear hb z0 z1 z2 z3 f0 f1 f2 f3 y0 y1 y2 y3 g0 g1 g2 g3; obtain ⟨⟨z0, z1, z2, z3⟩, f0, f1, f2, f3⟩ := F2.out.cells; obtain ⟨⟨y0, y1, y2, y3⟩, g0, g1, g2, g3⟩ := G2.out.cells) | (go_at_call 29; with_reducible refine (C.out _).mono ?_; rintro e w1 ⟨rfl, hb⟩; (try replace hb := undrew hb); have F := Aside0.mk (Four.mk (blk_below (blk_alloc (blk_new w _) _) hb)); have G := Aside0.mk (Four.mk (blk_below (two_new w _ _) hb)); have HB := Aside0.mk ((two_all w _ _).trans (hb.mono (by simp; omega))); clear hb; obtain ⟨⟨z0, z1, z2, z3⟩, f0, f1, f2, f3⟩ := F.out.cells; obtain ⟨⟨y0, y1, y2, y3⟩, g0, g1, g2, g3⟩ := G.out.cells) | fail)
    go_wp2_with (first | (go_at_call 29; with_reducible refine (C.out _).mono ?_; rintro e w3 ⟨rfl, hb⟩; (try replace hb := undrew hb); have HB3 := Aside0.mk (below_step HB2.out hb); clear hb) | (go_at_call 29; with_reducible refine (C'.out _).mono ?_; rintro e w2 ⟨rfl, hb⟩; (try replace hb := undrew hb); have F2 := Aside0.mk (Four.mk (blk_below F.out.blk hb)); have G2 := Aside0.mk (Four.mk (blk_below G.out.blk hb)); have HB2 := Aside0.mk (below_step HB.out hb); clear hb z0 z1 z2 z3 f0 f1 f2 f3 y0 y1 y2 y3 g0 g1 g2 g3; obtain ⟨⟨z0, z1, z2, z3⟩, f0, f1, f2, f3⟩ := F2.out.cells; obtain ⟨⟨y0, y1, y2, y3⟩, g0, g1, g2, g3⟩ := G2.out.cells) | (go_at_call 29; with_reducible refine (C.out _).mono ?_; rintro e w1 ⟨rfl, hb⟩; (try replace hb := undrew hb); have F := Aside0.mk (Four.mk (blk_below (blk_alloc (blk_new w _) _) hb)); have G := Aside0.mk (Four.mk (blk_below (two_new w _ _) hb)); have HB := Aside0.mk ((two_all w _ _).trans (hb.mono (by simp; omega))); clear hb; obtain ⟨⟨z0, z1, z2, z3⟩, f0, f1, f2, f3⟩ := F.out.cells; obtain ⟨⟨y0, y1, y2, y3⟩, g0, g1, g2, g3⟩ := G.out.cells) | fail)
    refine wp_loop_rounds 5 ?_
    rw [rounds_succ]
    go_wp2
    go_region
    go_wp2
    go_region
    go_wp2
    rw [rounds_succ]
    go_wp2
    go_region
    go_wp2
    go_region
    go_wp2
    go_ret
    exact ⟨rfl, by repeat (first | exact HB2.out | apply pw_below_drewN | apply below_drew1)⟩
  · go_enter Try.func24, Try.ntmps24
    go_wp2_with fail
    go_region_held3 (fun w' => w'.cell? ⟨w.heap.size, 0, none⟩ = some (.int .u64 a) ∧ w'.cell? ⟨w.heap.size, 1, none⟩ = some (.int .u64 b) ∧ w'.cell? ⟨w.heap.size, 2, none⟩ = some (.int .u64 c) ∧ w'.cell? ⟨w.heap.size, 3, none⟩ = some (.int .u64 d) ∧ w'.cell? ⟨w.heap.size + 1, 0, none⟩ = some (.int .u64 a') ∧ w'.cell? ⟨w.heap.size + 1, 1, none⟩ = some (.int .u64 b') ∧ w'.cell? ⟨w.heap.size + 1, 2, none⟩ = some (.int .u64 c') ∧ w'.cell? ⟨w.heap.size + 1, 3, none⟩ = some (.int .u64 d')) (first | exact held F2.out G2.out | exact held F.out G.out | exact held (Four.mk (blk_alloc (blk_new w _) _)) (Four.mk (two_new w _ _)) | fail) (first | (go_at_call 29; with_reducible refine (C.out _).mono ?_; rintro e w3 ⟨rfl, hb⟩; (try replace hb := undrew hb); have HB3 := Aside0.mk (below_step HB2.out hb); clear hb) | (go_at_call 29; with_reducible refine (C'.out _).mono ?_; rintro e w2 ⟨rfl, hb⟩; (try replace hb := undrew hb); have F2 := Aside0.mk (Four.mk (blk_below F.out.blk hb)); have G2 := Aside0.mk (Four.mk (blk_below G.out.blk hb)); have HB2 := Aside0.mk (below_step HB.out hb); clear hb z0 z1 z2 z3 f0 f1 f2 f3 y0 y1 y2 y3 g0 g1 g2 g3; obtain ⟨⟨z0, z1, z2, z3⟩, f0, f1, f2, f3⟩ := F2.out.cells; obtain ⟨⟨y0, y1, y2, y3⟩, g0, g1, g2, g3⟩ := G2.out.cells) | (go_at_call 29; with_reducible refine (C.out _).mono ?_; rintro e w1 ⟨rfl, hb⟩; (try replace hb := undrew hb); have F := Aside0.mk (Four.mk (blk_below (blk_alloc (blk_new w _) _) hb)); have G := Aside0.mk (Four.mk (blk_below (two_new w _ _) hb)); have HB := Aside0.mk ((two_all w _ _).trans (hb.mono (by simp; omega))); clear hb; obtain ⟨⟨z0, z1, z2, z3⟩, f0, f1, f2, f3⟩ := F.out.cells; obtain ⟨⟨y0, y1, y2, y3⟩, g0, g1, g2, g3⟩ := G.out.cells) | fail)
    go_wp2_with (first | (go_at_call 29; with_reducible refine (C.out _).mono ?_; rintro e w3 ⟨rfl, hb⟩; (try replace hb := undrew hb); have HB3 := Aside0.mk (below_step HB2.out hb); clear hb) | (go_at_call 29; with_reducible refine (C'.out _).mono ?_; rintro e w2 ⟨rfl, hb⟩; (try replace hb := undrew hb); have F2 := Aside0.mk (Four.mk (blk_below F.out.blk hb)); have G2 := Aside0.mk (Four.mk (blk_below G.out.blk hb)); have HB2 := Aside0.mk (below_step HB.out hb); clear hb z0 z1 z2 z3 f0 f1 f2 f3 y0 y1 y2 y3 g0 g1 g2 g3; obtain ⟨⟨z0, z1, z2, z3⟩, f0, f1, f2, f3⟩ := F2.out.cells; obtain ⟨⟨y0, y1, y2, y3⟩, g0, g1, g2, g3⟩ := G2.out.cells) | (go_at_call 29; with_reducible refine (C.out _).mono ?_; rintro e w1 ⟨rfl, hb⟩; (try replace hb := undrew hb); have F := Aside0.mk (Four.mk (blk_below (blk_alloc (blk_new w _) _) hb)); have G := Aside0.mk (Four.mk (blk_below (two_new w _ _) hb)); have HB := Aside0.mk ((two_all w _ _).trans (hb.mono (by simp; omega))); clear hb; obtain ⟨⟨z0, z1, z2, z3⟩, f0, f1, f2, f3⟩ := F.out.cells; obtain ⟨⟨y0, y1, y2, y3⟩, g0, g1, g2, g3⟩ := G.out.cells) | fail)
    refine wp_loop_rounds 5 ?_
    rw [rounds_succ]
    go_wp2
    go_region
    go_wp2
    go_region
    go_wp2
    rw [rounds_succ]
    go_wp2
    go_region
    go_wp2
    go_region
    go_wp2
    go_ret
    exact ⟨rfl, by repeat (first | exact HB2.out | apply pw_below_drewN | apply below_drew1)⟩
theorem q_cmp_l2 (a b c d a' b' c' d' : Int) (n m : Bool) (C : Aside0 (∀ w : World, Calls Try.prog 29 #[q4 a b c d] w fun e w' => e = .returned (.bool n) ∧ Below w.heap.size w w')) (C' : Aside0 (∀ w : World, Calls Try.prog 29 #[q4 a' b' c' d'] w fun e w' => e = .returned (.bool m) ∧ Below w.heap.size w w')) (hn : n = m) (e0 : decide (d < d') = false) (u0 : decide (d' < d) = false) (e1 : decide (c < c') = false) (u1 : decide (c' < c) = false) (e2 : decide (b < b') = true) (w : World) : Calls Try.prog 24 #[q4 a b c d, q4 a' b' c' d'] w fun e w' => e = .returned (.int .i64 (-1)) ∧ Below w.heap.size w w' := by
  subst hn
  cases n
  · go_enter Try.func24, Try.ntmps24
    go_wp2_with fail
    go_region_held3 (fun w' => w'.cell? ⟨w.heap.size, 0, none⟩ = some (.int .u64 a) ∧ w'.cell? ⟨w.heap.size, 1, none⟩ = some (.int .u64 b) ∧ w'.cell? ⟨w.heap.size, 2, none⟩ = some (.int .u64 c) ∧ w'.cell? ⟨w.heap.size, 3, none⟩ = some (.int .u64 d) ∧ w'.cell? ⟨w.heap.size + 1, 0, none⟩ = some (.int .u64 a') ∧ w'.cell? ⟨w.heap.size + 1, 1, none⟩ = some (.int .u64 b') ∧ w'.cell? ⟨w.heap.size + 1, 2, none⟩ = some (.int .u64 c') ∧ w'.cell? ⟨w.heap.size + 1, 3, none⟩ = some (.int .u64 d')) (first | exact held F2.out G2.out | exact held F.out G.out | exact held (Four.mk (blk_alloc (blk_new w _) _)) (Four.mk (two_new w _ _)) | fail) (first | (go_at_call 29; with_reducible refine (C.out _).mono ?_; rintro e w3 ⟨rfl, hb⟩; (try replace hb := undrew hb); have HB3 := Aside0.mk (below_step HB2.out hb); clear hb) | (go_at_call 29; with_reducible refine (C'.out _).mono ?_; rintro e w2 ⟨rfl, hb⟩; (try replace hb := undrew hb); have F2 := Aside0.mk (Four.mk (blk_below F.out.blk hb)); have G2 := Aside0.mk (Four.mk (blk_below G.out.blk hb)); have HB2 := Aside0.mk (below_step HB.out hb); clear hb z0 z1 z2 z3 f0 f1 f2 f3 y0 y1 y2 y3 g0 g1 g2 g3; obtain ⟨⟨z0, z1, z2, z3⟩, f0, f1, f2, f3⟩ := F2.out.cells; obtain ⟨⟨y0, y1, y2, y3⟩, g0, g1, g2, g3⟩ := G2.out.cells) | (go_at_call 29; with_reducible refine (C.out _).mono ?_; rintro e w1 ⟨rfl, hb⟩; (try replace hb := undrew hb); have F := Aside0.mk (Four.mk (blk_below (blk_alloc (blk_new w _) _) hb)); have G := Aside0.mk (Four.mk (blk_below (two_new w _ _) hb)); have HB := Aside0.mk ((two_all w _ _).trans (hb.mono (by simp; omega))); clear hb; obtain ⟨⟨z0, z1, z2, z3⟩, f0, f1, f2, f3⟩ := F.out.cells; obtain ⟨⟨y0, y1, y2, y3⟩, g0, g1, g2, g3⟩ := G.out.cells) | fail)
    go_wp2_with (first | (go_at_call 29; with_reducible refine (C.out _).mono ?_; rintro e w3 ⟨rfl, hb⟩; (try replace hb := undrew hb); have HB3 := Aside0.mk (below_step HB2.out hb); clear hb) | (go_at_call 29; with_reducible refine (C'.out _).mono ?_; rintro e w2 ⟨rfl, hb⟩; (try replace hb := undrew hb); have F2 := Aside0.mk (Four.mk (blk_below F.out.blk hb)); have G2 := Aside0.mk (Four.mk (blk_below G.out.blk hb)); have HB2 := Aside0.mk (below_step HB.out hb); clear hb z0 z1 z2 z3 f0 f1 f2 f3 y0 y1 y2 y3 g0 g1 g2 g3; obtain ⟨⟨z0, z1, z2, z3⟩, f0, f1, f2, f3⟩ := F2.out.cells; obtain ⟨⟨y0, y1, y2, y3⟩, g0, g1, g2, g3⟩ := G2.out.cells) | (go_at_call 29; with_reducible refine (C.out _).mono ?_; rintro e w1 ⟨rfl, hb⟩; (try replace hb := undrew hb); have F := Aside0.mk (Four.mk (blk_below (blk_alloc (blk_new w _) _) hb)); have G := Aside0.mk (Four.mk (blk_below (two_new w _ _) hb)); have HB := Aside0.mk ((two_all w _ _).trans (hb.mono (by simp; omega))); clear hb; obtain ⟨⟨z0, z1, z2, z3⟩, f0, f1, f2, f3⟩ := F.out.cells; obtain ⟨⟨y0, y1, y2, y3⟩, g0, g1, g2, g3⟩ := G.out.cells) | fail)
    refine wp_loop_rounds 5 ?_
    rw [rounds_succ]
    go_wp2
    go_region
    go_wp2
    go_region
    go_wp2
    rw [rounds_succ]
    go_wp2
    go_region
    go_wp2
    go_region
    go_wp2
    rw [rounds_succ]
    go_wp2
    go_region
    go_wp2
    go_ret
    exact ⟨rfl, by repeat (first | exact HB2.out | apply pw_below_drewN | apply below_drew1)⟩
  · go_enter Try.func24, Try.ntmps24
    go_wp2_with fail
    go_region_held3 (fun w' => w'.cell? ⟨w.heap.size, 0, none⟩ = some (.int .u64 a) ∧ w'.cell? ⟨w.heap.size, 1, none⟩ = some (.int .u64 b) ∧ w'.cell? ⟨w.heap.size, 2, none⟩ = some (.int .u64 c) ∧ w'.cell? ⟨w.heap.size, 3, none⟩ = some (.int .u64 d) ∧ w'.cell? ⟨w.heap.size + 1, 0, none⟩ = some (.int .u64 a') ∧ w'.cell? ⟨w.heap.size + 1, 1, none⟩ = some (.int .u64 b') ∧ w'.cell? ⟨w.heap.size + 1, 2, none⟩ = some (.int .u64 c') ∧ w'.cell? ⟨w.heap.size + 1, 3, none⟩ = some (.int .u64 d')) (first | exact held F2.out G2.out | exact held F.out G.out | exact held (Four.mk (blk_alloc (blk_new w _) _)) (Four.mk (two_new w _ _)) | fail) (first | (go_at_call 29; with_reducible refine (C.out _).mono ?_; rintro e w3 ⟨rfl, hb⟩; (try replace hb := undrew hb); have HB3 := Aside0.mk (below_step HB2.out hb); clear hb) | (go_at_call 29; with_reducible refine (C'.out _).mono ?_; rintro e w2 ⟨rfl, hb⟩; (try replace hb := undrew hb); have F2 := Aside0.mk (Four.mk (blk_below F.out.blk hb)); have G2 := Aside0.mk (Four.mk (blk_below G.out.blk hb)); have HB2 := Aside0.mk (below_step HB.out hb); clear hb z0 z1 z2 z3 f0 f1 f2 f3 y0 y1 y2 y3 g0 g1 g2 g3; obtain ⟨⟨z0, z1, z2, z3⟩, f0, f1, f2, f3⟩ := F2.out.cells; obtain ⟨⟨y0, y1, y2, y3⟩, g0, g1, g2, g3⟩ := G2.out.cells) | (go_at_call 29; with_reducible refine (C.out _).mono ?_; rintro e w1 ⟨rfl, hb⟩; (try replace hb := undrew hb); have F := Aside0.mk (Four.mk (blk_below (blk_alloc (blk_new w _) _) hb)); have G := Aside0.mk (Four.mk (blk_below (two_new w _ _) hb)); have HB := Aside0.mk ((two_all w _ _).trans (hb.mono (by simp; omega))); clear hb; obtain ⟨⟨z0, z1, z2, z3⟩, f0, f1, f2, f3⟩ := F.out.cells; obtain ⟨⟨y0, y1, y2, y3⟩, g0, g1, g2, g3⟩ := G.out.cells) | fail)
    go_wp2_with (first | (go_at_call 29; with_reducible refine (C.out _).mono ?_; rintro e w3 ⟨rfl, hb⟩; (try replace hb := undrew hb); have HB3 := Aside0.mk (below_step HB2.out hb); clear hb) | (go_at_call 29; with_reducible refine (C'.out _).mono ?_; rintro e w2 ⟨rfl, hb⟩; (try replace hb := undrew hb); have F2 := Aside0.mk (Four.mk (blk_below F.out.blk hb)); have G2 := Aside0.mk (Four.mk (blk_below G.out.blk hb)); have HB2 := Aside0.mk (below_step HB.out hb); clear hb z0 z1 z2 z3 f0 f1 f2 f3 y0 y1 y2 y3 g0 g1 g2 g3; obtain ⟨⟨z0, z1, z2, z3⟩, f0, f1, f2, f3⟩ := F2.out.cells; obtain ⟨⟨y0, y1, y2, y3⟩, g0, g1, g2, g3⟩ := G2.out.cells) | (go_at_call 29; with_reducible refine (C.out _).mono ?_; rintro e w1 ⟨rfl, hb⟩; (try replace hb := undrew hb); have F := Aside0.mk (Four.mk (blk_below (blk_alloc (blk_new w _) _) hb)); have G := Aside0.mk (Four.mk (blk_below (two_new w _ _) hb)); have HB := Aside0.mk ((two_all w _ _).trans (hb.mono (by simp; omega))); clear hb; obtain ⟨⟨z0, z1, z2, z3⟩, f0, f1, f2, f3⟩ := F.out.cells; obtain ⟨⟨y0, y1, y2, y3⟩, g0, g1, g2, g3⟩ := G.out.cells) | fail)
    refine wp_loop_rounds 5 ?_
    rw [rounds_succ]
    go_wp2
    go_region
    go_wp2
    go_region
    go_wp2
    rw [rounds_succ]
    go_wp2
    go_region
    go_wp2
    go_region
    go_wp2
    rw [rounds_succ]
    go_wp2
    go_region
    go_wp2
    go_ret
    exact ⟨rfl, by repeat (first | exact HB2.out | apply pw_below_drewN | apply below_drew1)⟩
theorem q_cmp_g2 (a b c d a' b' c' d' : Int) (n m : Bool) (C : Aside0 (∀ w : World, Calls Try.prog 29 #[q4 a b c d] w fun e w' => e = .returned (.bool n) ∧ Below w.heap.size w w')) (C' : Aside0 (∀ w : World, Calls Try.prog 29 #[q4 a' b' c' d'] w fun e w' => e = .returned (.bool m) ∧ Below w.heap.size w w')) (hn : n = m) (e0 : decide (d < d') = false) (u0 : decide (d' < d) = false) (e1 : decide (c < c') = false) (u1 : decide (c' < c) = false) (e2 : decide (b < b') = false) (u2 : decide (b' < b) = true) (w : World) : Calls Try.prog 24 #[q4 a b c d, q4 a' b' c' d'] w fun e w' => e = .returned (.int .i64 1) ∧ Below w.heap.size w w' := by
  subst hn
  cases n
  · go_enter Try.func24, Try.ntmps24
    go_wp2_with fail
    go_region_held3 (fun w' => w'.cell? ⟨w.heap.size, 0, none⟩ = some (.int .u64 a) ∧ w'.cell? ⟨w.heap.size, 1, none⟩ = some (.int .u64 b) ∧ w'.cell? ⟨w.heap.size, 2, none⟩ = some (.int .u64 c) ∧ w'.cell? ⟨w.heap.size, 3, none⟩ = some (.int .u64 d) ∧ w'.cell? ⟨w.heap.size + 1, 0, none⟩ = some (.int .u64 a') ∧ w'.cell? ⟨w.heap.size + 1, 1, none⟩ = some (.int .u64 b') ∧ w'.cell? ⟨w.heap.size + 1, 2, none⟩ = some (.int .u64 c') ∧ w'.cell? ⟨w.heap.size + 1, 3, none⟩ = some (.int .u64 d')) (first | exact held F2.out G2.out | exact held F.out G.out | exact held (Four.mk (blk_alloc (blk_new w _) _)) (Four.mk (two_new w _ _)) | fail) (first | (go_at_call 29; with_reducible refine (C.out _).mono ?_; rintro e w3 ⟨rfl, hb⟩; (try replace hb := undrew hb); have HB3 := Aside0.mk (below_step HB2.out hb); clear hb) | (go_at_call 29; with_reducible refine (C'.out _).mono ?_; rintro e w2 ⟨rfl, hb⟩; (try replace hb := undrew hb); have F2 := Aside0.mk (Four.mk (blk_below F.out.blk hb)); have G2 := Aside0.mk (Four.mk (blk_below G.out.blk hb)); have HB2 := Aside0.mk (below_step HB.out hb); clear hb z0 z1 z2 z3 f0 f1 f2 f3 y0 y1 y2 y3 g0 g1 g2 g3; obtain ⟨⟨z0, z1, z2, z3⟩, f0, f1, f2, f3⟩ := F2.out.cells; obtain ⟨⟨y0, y1, y2, y3⟩, g0, g1, g2, g3⟩ := G2.out.cells) | (go_at_call 29; with_reducible refine (C.out _).mono ?_; rintro e w1 ⟨rfl, hb⟩; (try replace hb := undrew hb); have F := Aside0.mk (Four.mk (blk_below (blk_alloc (blk_new w _) _) hb)); have G := Aside0.mk (Four.mk (blk_below (two_new w _ _) hb)); have HB := Aside0.mk ((two_all w _ _).trans (hb.mono (by simp; omega))); clear hb; obtain ⟨⟨z0, z1, z2, z3⟩, f0, f1, f2, f3⟩ := F.out.cells; obtain ⟨⟨y0, y1, y2, y3⟩, g0, g1, g2, g3⟩ := G.out.cells) | fail)
    go_wp2_with (first | (go_at_call 29; with_reducible refine (C.out _).mono ?_; rintro e w3 ⟨rfl, hb⟩; (try replace hb := undrew hb); have HB3 := Aside0.mk (below_step HB2.out hb); clear hb) | (go_at_call 29; with_reducible refine (C'.out _).mono ?_; rintro e w2 ⟨rfl, hb⟩; (try replace hb := undrew hb); have F2 := Aside0.mk (Four.mk (blk_below F.out.blk hb)); have G2 := Aside0.mk (Four.mk (blk_below G.out.blk hb)); have HB2 := Aside0.mk (below_step HB.out hb); clear hb z0 z1 z2 z3 f0 f1 f2 f3 y0 y1 y2 y3 g0 g1 g2 g3; obtain ⟨⟨z0, z1, z2, z3⟩, f0, f1, f2, f3⟩ := F2.out.cells; obtain ⟨⟨y0, y1, y2, y3⟩, g0, g1, g2, g3⟩ := G2.out.cells) | (go_at_call 29; with_reducible refine (C.out _).mono ?_; rintro e w1 ⟨rfl, hb⟩; (try replace hb := undrew hb); have F := Aside0.mk (Four.mk (blk_below (blk_alloc (blk_new w _) _) hb)); have G := Aside0.mk (Four.mk (blk_below (two_new w _ _) hb)); have HB := Aside0.mk ((two_all w _ _).trans (hb.mono (by simp; omega))); clear hb; obtain ⟨⟨z0, z1, z2, z3⟩, f0, f1, f2, f3⟩ := F.out.cells; obtain ⟨⟨y0, y1, y2, y3⟩, g0, g1, g2, g3⟩ := G.out.cells) | fail)
    refine wp_loop_rounds 5 ?_
    rw [rounds_succ]
    go_wp2
    go_region
    go_wp2
    go_region
    go_wp2
    rw [rounds_succ]
    go_wp2
    go_region
    go_wp2
    go_region
    go_wp2
    rw [rounds_succ]
    go_wp2
    go_region
    go_wp2
    go_region
    go_wp2
    go_ret
    exact ⟨rfl, by repeat (first | exact HB2.out | apply pw_below_drewN | apply below_drew1)⟩
  · go_enter Try.func24, Try.ntmps24
    go_wp2_with fail
    go_region_held3 (fun w' => w'.cell? ⟨w.heap.size, 0, none⟩ = some (.int .u64 a) ∧ w'.cell? ⟨w.heap.size, 1, none⟩ = some (.int .u64 b) ∧ w'.cell? ⟨w.heap.size, 2, none⟩ = some (.int .u64 c) ∧ w'.cell? ⟨w.heap.size, 3, none⟩ = some (.int .u64 d) ∧ w'.cell? ⟨w.heap.size + 1, 0, none⟩ = some (.int .u64 a') ∧ w'.cell? ⟨w.heap.size + 1, 1, none⟩ = some (.int .u64 b') ∧ w'.cell? ⟨w.heap.size + 1, 2, none⟩ = some (.int .u64 c') ∧ w'.cell? ⟨w.heap.size + 1, 3, none⟩ = some (.int .u64 d')) (first | exact held F2.out G2.out | exact held F.out G.out | exact held (Four.mk (blk_alloc (blk_new w _) _)) (Four.mk (two_new w _ _)) | fail) (first | (go_at_call 29; with_reducible refine (C.out _).mono ?_; rintro e w3 ⟨rfl, hb⟩; (try replace hb := undrew hb); have HB3 := Aside0.mk (below_step HB2.out hb); clear hb) | (go_at_call 29; with_reducible refine (C'.out _).mono ?_; rintro e w2 ⟨rfl, hb⟩; (try replace hb := undrew hb); have F2 := Aside0.mk (Four.mk (blk_below F.out.blk hb)); have G2 := Aside0.mk (Four.mk (blk_below G.out.blk hb)); have HB2 := Aside0.mk (below_step HB.out hb); clear hb z0 z1 z2 z3 f0 f1 f2 f3 y0 y1 y2 y3 g0 g1 g2 g3; obtain ⟨⟨z0, z1, z2, z3⟩, f0, f1, f2, f3⟩ := F2.out.cells; obtain ⟨⟨y0, y1, y2, y3⟩, g0, g1, g2, g3⟩ := G2.out.cells) | (go_at_call 29; with_reducible refine (C.out _).mono ?_; rintro e w1 ⟨rfl, hb⟩; (try replace hb := undrew hb); have F := Aside0.mk (Four.mk (blk_below (blk_alloc (blk_new w _) _) hb)); have G := Aside0.mk (Four.mk (blk_below (two_new w _ _) hb)); have HB := Aside0.mk ((two_all w _ _).trans (hb.mono (by simp; omega))); clear hb; obtain ⟨⟨z0, z1, z2, z3⟩, f0, f1, f2, f3⟩ := F.out.cells; obtain ⟨⟨y0, y1, y2, y3⟩, g0, g1, g2, g3⟩ := G.out.cells) | fail)
    go_wp2_with (first | (go_at_call 29; with_reducible refine (C.out _).mono ?_; rintro e w3 ⟨rfl, hb⟩; (try replace hb := undrew hb); have HB3 := Aside0.mk (below_step HB2.out hb); clear hb) | (go_at_call 29; with_reducible refine (C'.out _).mono ?_; rintro e w2 ⟨rfl, hb⟩; (try replace hb := undrew hb); have F2 := Aside0.mk (Four.mk (blk_below F.out.blk hb)); have G2 := Aside0.mk (Four.mk (blk_below G.out.blk hb)); have HB2 := Aside0.mk (below_step HB.out hb); clear hb z0 z1 z2 z3 f0 f1 f2 f3 y0 y1 y2 y3 g0 g1 g2 g3; obtain ⟨⟨z0, z1, z2, z3⟩, f0, f1, f2, f3⟩ := F2.out.cells; obtain ⟨⟨y0, y1, y2, y3⟩, g0, g1, g2, g3⟩ := G2.out.cells) | (go_at_call 29; with_reducible refine (C.out _).mono ?_; rintro e w1 ⟨rfl, hb⟩; (try replace hb := undrew hb); have F := Aside0.mk (Four.mk (blk_below (blk_alloc (blk_new w _) _) hb)); have G := Aside0.mk (Four.mk (blk_below (two_new w _ _) hb)); have HB := Aside0.mk ((two_all w _ _).trans (hb.mono (by simp; omega))); clear hb; obtain ⟨⟨z0, z1, z2, z3⟩, f0, f1, f2, f3⟩ := F.out.cells; obtain ⟨⟨y0, y1, y2, y3⟩, g0, g1, g2, g3⟩ := G.out.cells) | fail)
    refine wp_loop_rounds 5 ?_
    rw [rounds_succ]
    go_wp2
    go_region
    go_wp2
    go_region
    go_wp2
    rw [rounds_succ]
    go_wp2
    go_region
    go_wp2
    go_region
    go_wp2
    rw [rounds_succ]
    go_wp2
    go_region
    go_wp2
    go_region
    go_wp2
    go_ret
    exact ⟨rfl, by repeat (first | exact HB2.out | apply pw_below_drewN | apply below_drew1)⟩
theorem q_cmp_l3 (a b c d a' b' c' d' : Int) (n m : Bool) (C : Aside0 (∀ w : World, Calls Try.prog 29 #[q4 a b c d] w fun e w' => e = .returned (.bool n) ∧ Below w.heap.size w w')) (C' : Aside0 (∀ w : World, Calls Try.prog 29 #[q4 a' b' c' d'] w fun e w' => e = .returned (.bool m) ∧ Below w.heap.size w w')) (hn : n = m) (e0 : decide (d < d') = false) (u0 : decide (d' < d) = false) (e1 : decide (c < c') = false) (u1 : decide (c' < c) = false) (e2 : decide (b < b') = false) (u2 : decide (b' < b) = false) (e3 : decide (a < a') = true) (w : World) : Calls Try.prog 24 #[q4 a b c d, q4 a' b' c' d'] w fun e w' => e = .returned (.int .i64 (-1)) ∧ Below w.heap.size w w' := by
  subst hn
  cases n
  · go_enter Try.func24, Try.ntmps24
    go_wp2_with fail
    go_region_held3 (fun w' => w'.cell? ⟨w.heap.size, 0, none⟩ = some (.int .u64 a) ∧ w'.cell? ⟨w.heap.size, 1, none⟩ = some (.int .u64 b) ∧ w'.cell? ⟨w.heap.size, 2, none⟩ = some (.int .u64 c) ∧ w'.cell? ⟨w.heap.size, 3, none⟩ = some (.int .u64 d) ∧ w'.cell? ⟨w.heap.size + 1, 0, none⟩ = some (.int .u64 a') ∧ w'.cell? ⟨w.heap.size + 1, 1, none⟩ = some (.int .u64 b') ∧ w'.cell? ⟨w.heap.size + 1, 2, none⟩ = some (.int .u64 c') ∧ w'.cell? ⟨w.heap.size + 1, 3, none⟩ = some (.int .u64 d')) (first | exact held F2.out G2.out | exact held F.out G.out | exact held (Four.mk (blk_alloc (blk_new w _) _)) (Four.mk (two_new w _ _)) | fail) (first | (go_at_call 29; with_reducible refine (C.out _).mono ?_; rintro e w3 ⟨rfl, hb⟩; (try replace hb := undrew hb); have HB3 := Aside0.mk (below_step HB2.out hb); clear hb) | (go_at_call 29; with_reducible refine (C'.out _).mono ?_; rintro e w2 ⟨rfl, hb⟩; (try replace hb := undrew hb); have F2 := Aside0.mk (Four.mk (blk_below F.out.blk hb)); have G2 := Aside0.mk (Four.mk (blk_below G.out.blk hb)); have HB2 := Aside0.mk (below_step HB.out hb); clear hb z0 z1 z2 z3 f0 f1 f2 f3 y0 y1 y2 y3 g0 g1 g2 g3; obtain ⟨⟨z0, z1, z2, z3⟩, f0, f1, f2, f3⟩ := F2.out.cells; obtain ⟨⟨y0, y1, y2, y3⟩, g0, g1, g2, g3⟩ := G2.out.cells) | (go_at_call 29; with_reducible refine (C.out _).mono ?_; rintro e w1 ⟨rfl, hb⟩; (try replace hb := undrew hb); have F := Aside0.mk (Four.mk (blk_below (blk_alloc (blk_new w _) _) hb)); have G := Aside0.mk (Four.mk (blk_below (two_new w _ _) hb)); have HB := Aside0.mk ((two_all w _ _).trans (hb.mono (by simp; omega))); clear hb; obtain ⟨⟨z0, z1, z2, z3⟩, f0, f1, f2, f3⟩ := F.out.cells; obtain ⟨⟨y0, y1, y2, y3⟩, g0, g1, g2, g3⟩ := G.out.cells) | fail)
    go_wp2_with (first | (go_at_call 29; with_reducible refine (C.out _).mono ?_; rintro e w3 ⟨rfl, hb⟩; (try replace hb := undrew hb); have HB3 := Aside0.mk (below_step HB2.out hb); clear hb) | (go_at_call 29; with_reducible refine (C'.out _).mono ?_; rintro e w2 ⟨rfl, hb⟩; (try replace hb := undrew hb); have F2 := Aside0.mk (Four.mk (blk_below F.out.blk hb)); have G2 := Aside0.mk (Four.mk (blk_below G.out.blk hb)); have HB2 := Aside0.mk (below_step HB.out hb); clear hb z0 z1 z2 z3 f0 f1 f2 f3 y0 y1 y2 y3 g0 g1 g2 g3; obtain ⟨⟨z0, z1, z2, z3⟩, f0, f1, f2, f3⟩ := F2.out.cells; obtain ⟨⟨y0, y1, y2, y3⟩, g0, g1, g2, g3⟩ := G2.out.cells) | (go_at_call 29; with_reducible refine (C.out _).mono ?_; rintro e w1 ⟨rfl, hb⟩; (try replace hb := undrew hb); have F := Aside0.mk (Four.mk (blk_below (blk_alloc (blk_new w _) _) hb)); have G := Aside0.mk (Four.mk (blk_below (two_new w _ _) hb)); have HB := Aside0.mk ((two_all w _ _).trans (hb.mono (by simp; omega))); clear hb; obtain ⟨⟨z0, z1, z2, z3⟩, f0, f1, f2, f3⟩ := F.out.cells; obtain ⟨⟨y0, y1, y2, y3⟩, g0, g1, g2, g3⟩ := G.out.cells) | fail)
    refine wp_loop_rounds 5 ?_
    rw [rounds_succ]
    go_wp2
    go_region
    go_wp2
    go_region
    go_wp2
    rw [rounds_succ]
    go_wp2
    go_region
    go_wp2
    go_region
    go_wp2
    rw [rounds_succ]
    go_wp2
    go_region
    go_wp2
    go_region
    go_wp2
    rw [rounds_succ]
    go_wp2
    go_region
    go_wp2
    go_ret
    exact ⟨rfl, by repeat (first | exact HB2.out | apply pw_below_drewN | apply below_drew1)⟩
  · go_enter Try.func24, Try.ntmps24
    go_wp2_with fail
    go_region_held3 (fun w' => w'.cell? ⟨w.heap.size, 0, none⟩ = some (.int .u64 a) ∧ w'.cell? ⟨w.heap.size, 1, none⟩ = some (.int .u64 b) ∧ w'.cell? ⟨w.heap.size, 2, none⟩ = some (.int .u64 c) ∧ w'.cell? ⟨w.heap.size, 3, none⟩ = some (.int .u64 d) ∧ w'.cell? ⟨w.heap.size + 1, 0, none⟩ = some (.int .u64 a') ∧ w'.cell? ⟨w.heap.size + 1, 1, none⟩ = some (.int .u64 b') ∧ w'.cell? ⟨w.heap.size + 1, 2, none⟩ = some (.int .u64 c') ∧ w'.cell? ⟨w.heap.size + 1, 3, none⟩ = some (.int .u64 d')) (first | exact held F2.out G2.out | exact held F.out G.out | exact held (Four.mk (blk_alloc (blk_new w _) _)) (Four.mk (two_new w _ _)) | fail) (first | (go_at_call 29; with_reducible refine (C.out _).mono ?_; rintro e w3 ⟨rfl, hb⟩; (try replace hb := undrew hb); have HB3 := Aside0.mk (below_step HB2.out hb); clear hb) | (go_at_call 29; with_reducible refine (C'.out _).mono ?_; rintro e w2 ⟨rfl, hb⟩; (try replace hb := undrew hb); have F2 := Aside0.mk (Four.mk (blk_below F.out.blk hb)); have G2 := Aside0.mk (Four.mk (blk_below G.out.blk hb)); have HB2 := Aside0.mk (below_step HB.out hb); clear hb z0 z1 z2 z3 f0 f1 f2 f3 y0 y1 y2 y3 g0 g1 g2 g3; obtain ⟨⟨z0, z1, z2, z3⟩, f0, f1, f2, f3⟩ := F2.out.cells; obtain ⟨⟨y0, y1, y2, y3⟩, g0, g1, g2, g3⟩ := G2.out.cells) | (go_at_call 29; with_reducible refine (C.out _).mono ?_; rintro e w1 ⟨rfl, hb⟩; (try replace hb := undrew hb); have F := Aside0.mk (Four.mk (blk_below (blk_alloc (blk_new w _) _) hb)); have G := Aside0.mk (Four.mk (blk_below (two_new w _ _) hb)); have HB := Aside0.mk ((two_all w _ _).trans (hb.mono (by simp; omega))); clear hb; obtain ⟨⟨z0, z1, z2, z3⟩, f0, f1, f2, f3⟩ := F.out.cells; obtain ⟨⟨y0, y1, y2, y3⟩, g0, g1, g2, g3⟩ := G.out.cells) | fail)
    go_wp2_with (first | (go_at_call 29; with_reducible refine (C.out _).mono ?_; rintro e w3 ⟨rfl, hb⟩; (try replace hb := undrew hb); have HB3 := Aside0.mk (below_step HB2.out hb); clear hb) | (go_at_call 29; with_reducible refine (C'.out _).mono ?_; rintro e w2 ⟨rfl, hb⟩; (try replace hb := undrew hb); have F2 := Aside0.mk (Four.mk (blk_below F.out.blk hb)); have G2 := Aside0.mk (Four.mk (blk_below G.out.blk hb)); have HB2 := Aside0.mk (below_step HB.out hb); clear hb z0 z1 z2 z3 f0 f1 f2 f3 y0 y1 y2 y3 g0 g1 g2 g3; obtain ⟨⟨z0, z1, z2, z3⟩, f0, f1, f2, f3⟩ := F2.out.cells; obtain ⟨⟨y0, y1, y2, y3⟩, g0, g1, g2, g3⟩ := G2.out.cells) | (go_at_call 29; with_reducible refine (C.out _).mono ?_; rintro e w1 ⟨rfl, hb⟩; (try replace hb := undrew hb); have F := Aside0.mk (Four.mk (blk_below (blk_alloc (blk_new w _) _) hb)); have G := Aside0.mk (Four.mk (blk_below (two_new w _ _) hb)); have HB := Aside0.mk ((two_all w _ _).trans (hb.mono (by simp; omega))); clear hb; obtain ⟨⟨z0, z1, z2, z3⟩, f0, f1, f2, f3⟩ := F.out.cells; obtain ⟨⟨y0, y1, y2, y3⟩, g0, g1, g2, g3⟩ := G.out.cells) | fail)
    refine wp_loop_rounds 5 ?_
    rw [rounds_succ]
    go_wp2
    go_region
    go_wp2
    go_region
    go_wp2
    rw [rounds_succ]
    go_wp2
    go_region
    go_wp2
    go_region
    go_wp2
    rw [rounds_succ]
    go_wp2
    go_region
    go_wp2
    go_region
    go_wp2
    rw [rounds_succ]
    go_wp2
    go_region
    go_wp2
    go_ret
    exact ⟨rfl, by repeat (first | exact HB2.out | apply pw_below_drewN | apply below_drew1)⟩
theorem q_cmp_g3 (a b c d a' b' c' d' : Int) (n m : Bool) (C : Aside0 (∀ w : World, Calls Try.prog 29 #[q4 a b c d] w fun e w' => e = .returned (.bool n) ∧ Below w.heap.size w w')) (C' : Aside0 (∀ w : World, Calls Try.prog 29 #[q4 a' b' c' d'] w fun e w' => e = .returned (.bool m) ∧ Below w.heap.size w w')) (hn : n = m) (e0 : decide (d < d') = false) (u0 : decide (d' < d) = false) (e1 : decide (c < c') = false) (u1 : decide (c' < c) = false) (e2 : decide (b < b') = false) (u2 : decide (b' < b) = false) (e3 : decide (a < a') = false) (u3 : decide (a' < a) = true) (w : World) : Calls Try.prog 24 #[q4 a b c d, q4 a' b' c' d'] w fun e w' => e = .returned (.int .i64 1) ∧ Below w.heap.size w w' := by
  subst hn
  cases n
  · go_enter Try.func24, Try.ntmps24
    go_wp2_with fail
    go_region_held3 (fun w' => w'.cell? ⟨w.heap.size, 0, none⟩ = some (.int .u64 a) ∧ w'.cell? ⟨w.heap.size, 1, none⟩ = some (.int .u64 b) ∧ w'.cell? ⟨w.heap.size, 2, none⟩ = some (.int .u64 c) ∧ w'.cell? ⟨w.heap.size, 3, none⟩ = some (.int .u64 d) ∧ w'.cell? ⟨w.heap.size + 1, 0, none⟩ = some (.int .u64 a') ∧ w'.cell? ⟨w.heap.size + 1, 1, none⟩ = some (.int .u64 b') ∧ w'.cell? ⟨w.heap.size + 1, 2, none⟩ = some (.int .u64 c') ∧ w'.cell? ⟨w.heap.size + 1, 3, none⟩ = some (.int .u64 d')) (first | exact held F2.out G2.out | exact held F.out G.out | exact held (Four.mk (blk_alloc (blk_new w _) _)) (Four.mk (two_new w _ _)) | fail) (first | (go_at_call 29; with_reducible refine (C.out _).mono ?_; rintro e w3 ⟨rfl, hb⟩; (try replace hb := undrew hb); have HB3 := Aside0.mk (below_step HB2.out hb); clear hb) | (go_at_call 29; with_reducible refine (C'.out _).mono ?_; rintro e w2 ⟨rfl, hb⟩; (try replace hb := undrew hb); have F2 := Aside0.mk (Four.mk (blk_below F.out.blk hb)); have G2 := Aside0.mk (Four.mk (blk_below G.out.blk hb)); have HB2 := Aside0.mk (below_step HB.out hb); clear hb z0 z1 z2 z3 f0 f1 f2 f3 y0 y1 y2 y3 g0 g1 g2 g3; obtain ⟨⟨z0, z1, z2, z3⟩, f0, f1, f2, f3⟩ := F2.out.cells; obtain ⟨⟨y0, y1, y2, y3⟩, g0, g1, g2, g3⟩ := G2.out.cells) | (go_at_call 29; with_reducible refine (C.out _).mono ?_; rintro e w1 ⟨rfl, hb⟩; (try replace hb := undrew hb); have F := Aside0.mk (Four.mk (blk_below (blk_alloc (blk_new w _) _) hb)); have G := Aside0.mk (Four.mk (blk_below (two_new w _ _) hb)); have HB := Aside0.mk ((two_all w _ _).trans (hb.mono (by simp; omega))); clear hb; obtain ⟨⟨z0, z1, z2, z3⟩, f0, f1, f2, f3⟩ := F.out.cells; obtain ⟨⟨y0, y1, y2, y3⟩, g0, g1, g2, g3⟩ := G.out.cells) | fail)
    go_wp2_with (first | (go_at_call 29; with_reducible refine (C.out _).mono ?_; rintro e w3 ⟨rfl, hb⟩; (try replace hb := undrew hb); have HB3 := Aside0.mk (below_step HB2.out hb); clear hb) | (go_at_call 29; with_reducible refine (C'.out _).mono ?_; rintro e w2 ⟨rfl, hb⟩; (try replace hb := undrew hb); have F2 := Aside0.mk (Four.mk (blk_below F.out.blk hb)); have G2 := Aside0.mk (Four.mk (blk_below G.out.blk hb)); have HB2 := Aside0.mk (below_step HB.out hb); clear hb z0 z1 z2 z3 f0 f1 f2 f3 y0 y1 y2 y3 g0 g1 g2 g3; obtain ⟨⟨z0, z1, z2, z3⟩, f0, f1, f2, f3⟩ := F2.out.cells; obtain ⟨⟨y0, y1, y2, y3⟩, g0, g1, g2, g3⟩ := G2.out.cells) | (go_at_call 29; with_reducible refine (C.out _).mono ?_; rintro e w1 ⟨rfl, hb⟩; (try replace hb := undrew hb); have F := Aside0.mk (Four.mk (blk_below (blk_alloc (blk_new w _) _) hb)); have G := Aside0.mk (Four.mk (blk_below (two_new w _ _) hb)); have HB := Aside0.mk ((two_all w _ _).trans (hb.mono (by simp; omega))); clear hb; obtain ⟨⟨z0, z1, z2, z3⟩, f0, f1, f2, f3⟩ := F.out.cells; obtain ⟨⟨y0, y1, y2, y3⟩, g0, g1, g2, g3⟩ := G.out.cells) | fail)
    refine wp_loop_rounds 5 ?_
    rw [rounds_succ]
    go_wp2
    go_region
    go_wp2
    go_region
    go_wp2
    rw [rounds_succ]
    go_wp2
    go_region
    go_wp2
    go_region
    go_wp2
    rw [rounds_succ]
    go_wp2
    go_region
    go_wp2
    go_region
    go_wp2
    rw [rounds_succ]
    go_wp2
    go_region
    go_wp2
    go_region
    go_wp2
    go_ret
    exact ⟨rfl, by repeat (first | exact HB2.out | apply pw_below_drewN | apply below_drew1)⟩
  · go_enter Try.func24, Try.ntmps24
    go_wp2_with fail
    go_region_held3 (fun w' => w'.cell? ⟨w.heap.size, 0, none⟩ = some (.int .u64 a) ∧ w'.cell? ⟨w.heap.size, 1, none⟩ = some (.int .u64 b) ∧ w'.cell? ⟨w.heap.size, 2, none⟩ = some (.int .u64 c) ∧ w'.cell? ⟨w.heap.size, 3, none⟩ = some (.int .u64 d) ∧ w'.cell? ⟨w.heap.size + 1, 0, none⟩ = some (.int .u64 a') ∧ w'.cell? ⟨w.heap.size + 1, 1, none⟩ = some (.int .u64 b') ∧ w'.cell? ⟨w.heap.size + 1, 2, none⟩ = some (.int .u64 c') ∧ w'.cell? ⟨w.heap.size + 1, 3, none⟩ = some (.int .u64 d')) (first | exact held F2.out G2.out | exact held F.out G.out | exact held (Four.mk (blk_alloc (blk_new w _) _)) (Four.mk (two_new w _ _)) | fail) (first | (go_at_call 29; with_reducible refine (C.out _).mono ?_; rintro e w3 ⟨rfl, hb⟩; (try replace hb := undrew hb); have HB3 := Aside0.mk (below_step HB2.out hb); clear hb) | (go_at_call 29; with_reducible refine (C'.out _).mono ?_; rintro e w2 ⟨rfl, hb⟩; (try replace hb := undrew hb); have F2 := Aside0.mk (Four.mk (blk_below F.out.blk hb)); have G2 := Aside0.mk (Four.mk (blk_below G.out.blk hb)); have HB2 := Aside0.mk (below_step HB.out hb); clear hb z0 z1 z2 z3 f0 f1 f2 f3 y0 y1 y2 y3 g0 g1 g2 g3; obtain ⟨⟨z0, z1, z2, z3⟩, f0, f1, f2, f3⟩ := F2.out.cells; obtain ⟨⟨y0, y1, y2, y3⟩, g0, g1, g2, g3⟩ := G2.out.cells) | (go_at_call 29; with_reducible refine (C.out _).mono ?_; rintro e w1 ⟨rfl, hb⟩; (try replace hb := undrew hb); have F := Aside0.mk (Four.mk (blk_below (blk_alloc (blk_new w _) _) hb)); have G := Aside0.mk (Four.mk (blk_below (two_new w _ _) hb)); have HB := Aside0.mk ((two_all w _ _).trans (hb.mono (by simp; omega))); clear hb; obtain ⟨⟨z0, z1, z2, z3⟩, f0, f1, f2, f3⟩ := F.out.cells; obtain ⟨⟨y0, y1, y2, y3⟩, g0, g1, g2, g3⟩ := G.out.cells) | fail)
    go_wp2_with (first | (go_at_call 29; with_reducible refine (C.out _).mono ?_; rintro e w3 ⟨rfl, hb⟩; (try replace hb := undrew hb); have HB3 := Aside0.mk (below_step HB2.out hb); clear hb) | (go_at_call 29; with_reducible refine (C'.out _).mono ?_; rintro e w2 ⟨rfl, hb⟩; (try replace hb := undrew hb); have F2 := Aside0.mk (Four.mk (blk_below F.out.blk hb)); have G2 := Aside0.mk (Four.mk (blk_below G.out.blk hb)); have HB2 := Aside0.mk (below_step HB.out hb); clear hb z0 z1 z2 z3 f0 f1 f2 f3 y0 y1 y2 y3 g0 g1 g2 g3; obtain ⟨⟨z0, z1, z2, z3⟩, f0, f1, f2, f3⟩ := F2.out.cells; obtain ⟨⟨y0, y1, y2, y3⟩, g0, g1, g2, g3⟩ := G2.out.cells) | (go_at_call 29; with_reducible refine (C.out _).mono ?_; rintro e w1 ⟨rfl, hb⟩; (try replace hb := undrew hb); have F := Aside0.mk (Four.mk (blk_below (blk_alloc (blk_new w _) _) hb)); have G := Aside0.mk (Four.mk (blk_below (two_new w _ _) hb)); have HB := Aside0.mk ((two_all w _ _).trans (hb.mono (by simp; omega))); clear hb; obtain ⟨⟨z0, z1, z2, z3⟩, f0, f1, f2, f3⟩ := F.out.cells; obtain ⟨⟨y0, y1, y2, y3⟩, g0, g1, g2, g3⟩ := G.out.cells) | fail)
    refine wp_loop_rounds 5 ?_
    rw [rounds_succ]
    go_wp2
    go_region
    go_wp2
    go_region
    go_wp2
    rw [rounds_succ]
    go_wp2
    go_region
    go_wp2
    go_region
    go_wp2
    rw [rounds_succ]
    go_wp2
    go_region
    go_wp2
    go_region
    go_wp2
    rw [rounds_succ]
    go_wp2
    go_region
    go_wp2
    go_region
    go_wp2
    go_ret
    exact ⟨rfl, by repeat (first | exact HB2.out | apply pw_below_drewN | apply below_drew1)⟩
theorem q_cmp_e4 (a b c d a' b' c' d' : Int) (n m : Bool) (C : Aside0 (∀ w : World, Calls Try.prog 29 #[q4 a b c d] w fun e w' => e = .returned (.bool n) ∧ Below w.heap.size w w')) (C' : Aside0 (∀ w : World, Calls Try.prog 29 #[q4 a' b' c' d'] w fun e w' => e = .returned (.bool m) ∧ Below w.heap.size w w')) (hn : n = m) (e0 : decide (d < d') = false) (u0 : decide (d' < d) = false) (e1 : decide (c < c') = false) (u1 : decide (c' < c) = false) (e2 : decide (b < b') = false) (u2 : decide (b' < b) = false) (e3 : decide (a < a') = false) (u3 : decide (a' < a) = false) (w : World) : Calls Try.prog 24 #[q4 a b c d, q4 a' b' c' d'] w fun e w' => e = .returned (.int .i64 0) ∧ Below w.heap.size w w' := by
  subst hn
  cases n
  · go_enter Try.func24, Try.ntmps24
    go_wp2_with fail
    go_region_held3 (fun w' => w'.cell? ⟨w.heap.size, 0, none⟩ = some (.int .u64 a) ∧ w'.cell? ⟨w.heap.size, 1, none⟩ = some (.int .u64 b) ∧ w'.cell? ⟨w.heap.size, 2, none⟩ = some (.int .u64 c) ∧ w'.cell? ⟨w.heap.size, 3, none⟩ = some (.int .u64 d) ∧ w'.cell? ⟨w.heap.size + 1, 0, none⟩ = some (.int .u64 a') ∧ w'.cell? ⟨w.heap.size + 1, 1, none⟩ = some (.int .u64 b') ∧ w'.cell? ⟨w.heap.size + 1, 2, none⟩ = some (.int .u64 c') ∧ w'.cell? ⟨w.heap.size + 1, 3, none⟩ = some (.int .u64 d')) (first | exact held F2.out G2.out | exact held F.out G.out | exact held (Four.mk (blk_alloc (blk_new w _) _)) (Four.mk (two_new w _ _)) | fail) (first | (go_at_call 29; with_reducible refine (C.out _).mono ?_; rintro e w3 ⟨rfl, hb⟩; (try replace hb := undrew hb); have HB3 := Aside0.mk (below_step HB2.out hb); clear hb) | (go_at_call 29; with_reducible refine (C'.out _).mono ?_; rintro e w2 ⟨rfl, hb⟩; (try replace hb := undrew hb); have F2 := Aside0.mk (Four.mk (blk_below F.out.blk hb)); have G2 := Aside0.mk (Four.mk (blk_below G.out.blk hb)); have HB2 := Aside0.mk (below_step HB.out hb); clear hb z0 z1 z2 z3 f0 f1 f2 f3 y0 y1 y2 y3 g0 g1 g2 g3; obtain ⟨⟨z0, z1, z2, z3⟩, f0, f1, f2, f3⟩ := F2.out.cells; obtain ⟨⟨y0, y1, y2, y3⟩, g0, g1, g2, g3⟩ := G2.out.cells) | (go_at_call 29; with_reducible refine (C.out _).mono ?_; rintro e w1 ⟨rfl, hb⟩; (try replace hb := undrew hb); have F := Aside0.mk (Four.mk (blk_below (blk_alloc (blk_new w _) _) hb)); have G := Aside0.mk (Four.mk (blk_below (two_new w _ _) hb)); have HB := Aside0.mk ((two_all w _ _).trans (hb.mono (by simp; omega))); clear hb; obtain ⟨⟨z0, z1, z2, z3⟩, f0, f1, f2, f3⟩ := F.out.cells; obtain ⟨⟨y0, y1, y2, y3⟩, g0, g1, g2, g3⟩ := G.out.cells) | fail)
    go_wp2_with (first | (go_at_call 29; with_reducible refine (C.out _).mono ?_; rintro e w3 ⟨rfl, hb⟩; (try replace hb := undrew hb); have HB3 := Aside0.mk (below_step HB2.out hb); clear hb) | (go_at_call 29; with_reducible refine (C'.out _).mono ?_; rintro e w2 ⟨rfl, hb⟩; (try replace hb := undrew hb); have F2 := Aside0.mk (Four.mk (blk_below F.out.blk hb)); have G2 := Aside0.mk (Four.mk (blk_below G.out.blk hb)); have HB2 := Aside0.mk (below_step HB.out hb); clear hb z0 z1 z2 z3 f0 f1 f2 f3 y0 y1 y2 y3 g0 g1 g2 g3; obtain ⟨⟨z0, z1, z2, z3⟩, f0, f1, f2, f3⟩ := F2.out.cells; obtain ⟨⟨y0, y1, y2, y3⟩, g0, g1, g2, g3⟩ := G2.out.cells) | (go_at_call 29; with_reducible refine (C.out _).mono ?_; rintro e w1 ⟨rfl, hb⟩; (try replace hb := undrew hb); have F := Aside0.mk (Four.mk (blk_below (blk_alloc (blk_new w _) _) hb)); have G := Aside0.mk (Four.mk (blk_below (two_new w _ _) hb)); have HB := Aside0.mk ((two_all w _ _).trans (hb.mono (by simp; omega))); clear hb; obtain ⟨⟨z0, z1, z2, z3⟩, f0, f1, f2, f3⟩ := F.out.cells; obtain ⟨⟨y0, y1, y2, y3⟩, g0, g1, g2, g3⟩ := G.out.cells) | fail)
    refine wp_loop_rounds 5 ?_
    rw [rounds_succ]
    go_wp2
    go_region
    go_wp2
    go_region
    go_wp2
    rw [rounds_succ]
    go_wp2
    go_region
    go_wp2
    go_region
    go_wp2
    rw [rounds_succ]
    go_wp2
    go_region
    go_wp2
    go_region
    go_wp2
    rw [rounds_succ]
    go_wp2
    go_region
    go_wp2
    go_region
    go_wp2
    rw [rounds_succ]
    go_wp2
    go_ret
    exact ⟨rfl, by repeat (first | exact HB2.out | apply pw_below_drewN | apply below_drew1)⟩
  · go_enter Try.func24, Try.ntmps24
    go_wp2_with fail
    go_region_held3 (fun w' => w'.cell? ⟨w.heap.size, 0, none⟩ = some (.int .u64 a) ∧ w'.cell? ⟨w.heap.size, 1, none⟩ = some (.int .u64 b) ∧ w'.cell? ⟨w.heap.size, 2, none⟩ = some (.int .u64 c) ∧ w'.cell? ⟨w.heap.size, 3, none⟩ = some (.int .u64 d) ∧ w'.cell? ⟨w.heap.size + 1, 0, none⟩ = some (.int .u64 a') ∧ w'.cell? ⟨w.heap.size + 1, 1, none⟩ = some (.int .u64 b') ∧ w'.cell? ⟨w.heap.size + 1, 2, none⟩ = some (.int .u64 c') ∧ w'.cell? ⟨w.heap.size + 1, 3, none⟩ = some (.int .u64 d')) (first | exact held F2.out G2.out | exact held F.out G.out | exact held (Four.mk (blk_alloc (blk_new w _) _)) (Four.mk (two_new w _ _)) | fail) (first | (go_at_call 29; with_reducible refine (C.out _).mono ?_; rintro e w3 ⟨rfl, hb⟩; (try replace hb := undrew hb); have HB3 := Aside0.mk (below_step HB2.out hb); clear hb) | (go_at_call 29; with_reducible refine (C'.out _).mono ?_; rintro e w2 ⟨rfl, hb⟩; (try replace hb := undrew hb); have F2 := Aside0.mk (Four.mk (blk_below F.out.blk hb)); have G2 := Aside0.mk (Four.mk (blk_below G.out.blk hb)); have HB2 := Aside0.mk (below_step HB.out hb); clear hb z0 z1 z2 z3 f0 f1 f2 f3 y0 y1 y2 y3 g0 g1 g2 g3; obtain ⟨⟨z0, z1, z2, z3⟩, f0, f1, f2, f3⟩ := F2.out.cells; obtain ⟨⟨y0, y1, y2, y3⟩, g0, g1, g2, g3⟩ := G2.out.cells) | (go_at_call 29; with_reducible refine (C.out _).mono ?_; rintro e w1 ⟨rfl, hb⟩; (try replace hb := undrew hb); have F := Aside0.mk (Four.mk (blk_below (blk_alloc (blk_new w _) _) hb)); have G := Aside0.mk (Four.mk (blk_below (two_new w _ _) hb)); have HB := Aside0.mk ((two_all w _ _).trans (hb.mono (by simp; omega))); clear hb; obtain ⟨⟨z0, z1, z2, z3⟩, f0, f1, f2, f3⟩ := F.out.cells; obtain ⟨⟨y0, y1, y2, y3⟩, g0, g1, g2, g3⟩ := G.out.cells) | fail)
    go_wp2_with (first | (go_at_call 29; with_reducible refine (C.out _).mono ?_; rintro e w3 ⟨rfl, hb⟩; (try replace hb := undrew hb); have HB3 := Aside0.mk (below_step HB2.out hb); clear hb) | (go_at_call 29; with_reducible refine (C'.out _).mono ?_; rintro e w2 ⟨rfl, hb⟩; (try replace hb := undrew hb); have F2 := Aside0.mk (Four.mk (blk_below F.out.blk hb)); have G2 := Aside0.mk (Four.mk (blk_below G.out.blk hb)); have HB2 := Aside0.mk (below_step HB.out hb); clear hb z0 z1 z2 z3 f0 f1 f2 f3 y0 y1 y2 y3 g0 g1 g2 g3; obtain ⟨⟨z0, z1, z2, z3⟩, f0, f1, f2, f3⟩ := F2.out.cells; obtain ⟨⟨y0, y1, y2, y3⟩, g0, g1, g2, g3⟩ := G2.out.cells) | (go_at_call 29; with_reducible refine (C.out _).mono ?_; rintro e w1 ⟨rfl, hb⟩; (try replace hb := undrew hb); have F := Aside0.mk (Four.mk (blk_below (blk_alloc (blk_new w _) _) hb)); have G := Aside0.mk (Four.mk (blk_below (two_new w _ _) hb)); have HB := Aside0.mk ((two_all w _ _).trans (hb.mono (by simp; omega))); clear hb; obtain ⟨⟨z0, z1, z2, z3⟩, f0, f1, f2, f3⟩ := F.out.cells; obtain ⟨⟨y0, y1, y2, y3⟩, g0, g1, g2, g3⟩ := G.out.cells) | fail)
    refine wp_loop_rounds 5 ?_
    rw [rounds_succ]
    go_wp2
    go_region
    go_wp2
    go_region
    go_wp2
    rw [rounds_succ]
    go_wp2
    go_region
    go_wp2
    go_region
    go_wp2
    rw [rounds_succ]
    go_wp2
    go_region
    go_wp2
    go_region
    go_wp2
    rw [rounds_succ]
    go_wp2
    go_region
    go_wp2
    go_region
    go_wp2
    rw [rounds_succ]
    go_wp2
    go_ret
    exact ⟨rfl, by repeat (first | exact HB2.out | apply pw_below_drewN | apply below_drew1)⟩
def quad_Cmp.f (a0_0 a0_1 a0_2 a0_3 a1_0 a1_1 a1_2 a1_3 : Int) : Option Int := if QOk a0_0 a0_1 a0_2 a0_3 ∧ QOk a1_0 a1_1 a1_2 a1_3 then some (if qs (qv a0_0 a0_1 a0_2 a0_3) < qs (qv a1_0 a1_1 a1_2 a1_3) then -1 else if qs (qv a1_0 a1_1 a1_2 a1_3) < qs (qv a0_0 a0_1 a0_2 a0_3) then 1 else 0) else none
theorem qs_val {a b c d : Int} (h : QOk a b c d) : qs (qv a b c d) = if 9223372036854775808 ≤ d then qv a b c d - 115792089237316195423570985008687907853269984665640564039457584007913129639936 else qv a b c d := by
  obtain ⟨⟨a0, a1⟩, ⟨b0, b1⟩, ⟨c0, c1⟩, ⟨d0, d1⟩⟩ := h
  unfold qs qv
  split <;> split <;> omega
theorem quad_Cmp.calls (a0_0 a0_1 a0_2 a0_3 a1_0 a1_1 a1_2 a1_3 r : Int) (w : World) (h : quad_Cmp.f a0_0 a0_1 a0_2 a0_3 a1_0 a1_1 a1_2 a1_3 = some r) :
    Calls Try.prog 24 #[.agg #[.int .u64 a0_0, .int .u64 a0_1, .int .u64 a0_2, .int .u64 a0_3], .agg #[.int .u64 a1_0, .int .u64 a1_1, .int .u64 a1_2, .int .u64 a1_3]] w fun e w' => e = .returned (.int .i64 r) ∧ Below w.heap.size w w' := by
  unfold quad_Cmp.f at h
  by_cases hb : QOk a0_0 a0_1 a0_2 a0_3 ∧ QOk a1_0 a1_1 a1_2 a1_3
  · rw [if_pos hb, qs_val hb.1, qs_val hb.2] at h
    have C := Aside0.mk (q_below_c (a := a0_0) (b := a0_1) (c := a0_2) hb.1.2.2.2)
    have C' := Aside0.mk (q_below_c (a := a1_0) (b := a1_1) (c := a1_2) hb.2.2.2.2)
    obtain ⟨⟨⟨p0, p0'⟩, ⟨p1, p1'⟩, ⟨p2, p2'⟩, p3, p3'⟩, ⟨s0, s0'⟩, ⟨s1, s1'⟩, ⟨s2, s2'⟩, s3, s3'⟩ := hb
    have h := (Option.some.inj h).symm
    unfold qv at h
    by_cases n : 9223372036854775808 ≤ a0_3
    · by_cases m : 9223372036854775808 ≤ a1_3
      · rw [if_pos n, if_pos m] at h
        have hnm : decide (9223372036854775808 ≤ a0_3) = decide (9223372036854775808 ≤ a1_3) := by rw [decide_eq_true n, decide_eq_true m]
        by_cases l0 : a0_3 < a1_3
        · rw [if_pos (by omega)] at h
          subst h
          exact q_cmp_l0 _ _ _ _ _ _ _ _ _ _ C C' hnm  (decide_eq_true l0) w
        · by_cases g0 : a1_3 < a0_3
          · rw [if_neg (by omega), if_pos (by omega)] at h
            subst h
            exact q_cmp_g0 _ _ _ _ _ _ _ _ _ _ C C' hnm  (decide_eq_false l0) (decide_eq_true g0) w
          · by_cases l1 : a0_2 < a1_2
            · rw [if_pos (by omega)] at h
              subst h
              exact q_cmp_l1 _ _ _ _ _ _ _ _ _ _ C C' hnm (decide_eq_false l0) (decide_eq_false g0) (decide_eq_true l1) w
            · by_cases g1 : a1_2 < a0_2
              · rw [if_neg (by omega), if_pos (by omega)] at h
                subst h
                exact q_cmp_g1 _ _ _ _ _ _ _ _ _ _ C C' hnm (decide_eq_false l0) (decide_eq_false g0) (decide_eq_false l1) (decide_eq_true g1) w
              · by_cases l2 : a0_1 < a1_1
                · rw [if_pos (by omega)] at h
                  subst h
                  exact q_cmp_l2 _ _ _ _ _ _ _ _ _ _ C C' hnm (decide_eq_false l0) (decide_eq_false g0) (decide_eq_false l1) (decide_eq_false g1) (decide_eq_true l2) w
                · by_cases g2 : a1_1 < a0_1
                  · rw [if_neg (by omega), if_pos (by omega)] at h
                    subst h
                    exact q_cmp_g2 _ _ _ _ _ _ _ _ _ _ C C' hnm (decide_eq_false l0) (decide_eq_false g0) (decide_eq_false l1) (decide_eq_false g1) (decide_eq_false l2) (decide_eq_true g2) w
                  · by_cases l3 : a0_0 < a1_0
                    · rw [if_pos (by omega)] at h
                      subst h
                      exact q_cmp_l3 _ _ _ _ _ _ _ _ _ _ C C' hnm (decide_eq_false l0) (decide_eq_false g0) (decide_eq_false l1) (decide_eq_false g1) (decide_eq_false l2) (decide_eq_false g2) (decide_eq_true l3) w
                    · by_cases g3 : a1_0 < a0_0
                      · rw [if_neg (by omega), if_pos (by omega)] at h
                        subst h
                        exact q_cmp_g3 _ _ _ _ _ _ _ _ _ _ C C' hnm (decide_eq_false l0) (decide_eq_false g0) (decide_eq_false l1) (decide_eq_false g1) (decide_eq_false l2) (decide_eq_false g2) (decide_eq_false l3) (decide_eq_true g3) w
                      · rw [if_neg (by omega), if_neg (by omega)] at h
                        subst h
                        exact q_cmp_e4 _ _ _ _ _ _ _ _ _ _ C C' hnm (decide_eq_false l0) (decide_eq_false g0) (decide_eq_false l1) (decide_eq_false g1) (decide_eq_false l2) (decide_eq_false g2) (decide_eq_false l3) (decide_eq_false g3) w
      · rw [if_pos n, if_neg m, if_pos (by omega)] at h
        subst h
        exact q_cmp_nl _ _ _ _ _ _ _ _ _ _ C C' (decide_eq_true n) (decide_eq_false m) w
    · by_cases m : 9223372036854775808 ≤ a1_3
      · rw [if_neg n, if_pos m, if_neg (by omega), if_pos (by omega)] at h
        subst h
        exact q_cmp_nr _ _ _ _ _ _ _ _ _ _ C C' (decide_eq_false n) (decide_eq_true m) w
      · rw [if_neg n, if_neg m] at h
        have hnm : decide (9223372036854775808 ≤ a0_3) = decide (9223372036854775808 ≤ a1_3) := by rw [decide_eq_false n, decide_eq_false m]
        by_cases l0 : a0_3 < a1_3
        · rw [if_pos (by omega)] at h
          subst h
          exact q_cmp_l0 _ _ _ _ _ _ _ _ _ _ C C' hnm  (decide_eq_true l0) w
        · by_cases g0 : a1_3 < a0_3
          · rw [if_neg (by omega), if_pos (by omega)] at h
            subst h
            exact q_cmp_g0 _ _ _ _ _ _ _ _ _ _ C C' hnm  (decide_eq_false l0) (decide_eq_true g0) w
          · by_cases l1 : a0_2 < a1_2
            · rw [if_pos (by omega)] at h
              subst h
              exact q_cmp_l1 _ _ _ _ _ _ _ _ _ _ C C' hnm (decide_eq_false l0) (decide_eq_false g0) (decide_eq_true l1) w
            · by_cases g1 : a1_2 < a0_2
              · rw [if_neg (by omega), if_pos (by omega)] at h
                subst h
                exact q_cmp_g1 _ _ _ _ _ _ _ _ _ _ C C' hnm (decide_eq_false l0) (decide_eq_false g0) (decide_eq_false l1) (decide_eq_true g1) w
              · by_cases l2 : a0_1 < a1_1
                · rw [if_pos (by omega)] at h
                  subst h
                  exact q_cmp_l2 _ _ _ _ _ _ _ _ _ _ C C' hnm (decide_eq_false l0) (decide_eq_false g0) (decide_eq_false l1) (decide_eq_false g1) (decide_eq_true l2) w
                · by_cases g2 : a1_1 < a0_1
                  · rw [if_neg (by omega), if_pos (by omega)] at h
                    subst h
                    exact q_cmp_g2 _ _ _ _ _ _ _ _ _ _ C C' hnm (decide_eq_false l0) (decide_eq_false g0) (decide_eq_false l1) (decide_eq_false g1) (decide_eq_false l2) (decide_eq_true g2) w
                  · by_cases l3 : a0_0 < a1_0
                    · rw [if_pos (by omega)] at h
                      subst h
                      exact q_cmp_l3 _ _ _ _ _ _ _ _ _ _ C C' hnm (decide_eq_false l0) (decide_eq_false g0) (decide_eq_false l1) (decide_eq_false g1) (decide_eq_false l2) (decide_eq_false g2) (decide_eq_true l3) w
                    · by_cases g3 : a1_0 < a0_0
                      · rw [if_neg (by omega), if_pos (by omega)] at h
                        subst h
                        exact q_cmp_g3 _ _ _ _ _ _ _ _ _ _ C C' hnm (decide_eq_false l0) (decide_eq_false g0) (decide_eq_false l1) (decide_eq_false g1) (decide_eq_false l2) (decide_eq_false g2) (decide_eq_false l3) (decide_eq_true g3) w
                      · rw [if_neg (by omega), if_neg (by omega)] at h
                        subst h
                        exact q_cmp_e4 _ _ _ _ _ _ _ _ _ _ C C' hnm (decide_eq_false l0) (decide_eq_false g0) (decide_eq_false l1) (decide_eq_false g1) (decide_eq_false l2) (decide_eq_false g2) (decide_eq_false l3) (decide_eq_false g3) w
  · rw [if_neg hb] at h
    cases h
end Go.Proofs.Ytbmeokhoebjdbaa.F
end

section
namespace Go.Proofs.Ytbmeokhoebjdbaa.F
open Go.RowKit Go.Proofs.YtbmeokhoebjdbaaW.PrintWords Go.Proofs.YtbmeokhoebjdbaaW.PrintLast Go.Proofs.YtbmeokhoebjdbaaW.PrintMore
attribute [local go_sem] max2_int min2_int max_two min_two max_three min_three max_four min_four   -- for this text's walks alone
set_option linter.unusedVariables false
set_option linter.unusedSimpArgs false

theorem eqA33 (d : Nat) (w : World) (x0 y0 : Int) (x1 y1 : Int) :
    (Op.equalIn (d + 2) 33 (.agg #[.int .i64 x0, .int .u64 x1]) (.agg #[.int .i64 y0, .int .u64 y1])).run Try.prog w = .ok (x0 == y0 && (x1 == y1)) w := by
  refine eqA_of Try.underlying33 (by kernel_rfl) ?_
  refine eqf_cons (by rfl) (by go_simp; rfl) (by go_simp; rfl) (by go_simp) ?_
  exact eqf_last (by rfl) (by go_simp; rfl) (by go_simp; rfl) (by go_simp)
end Go.Proofs.Ytbmeokhoebjdbaa.F
end

section
/- quad.Of: see FquadAdd. -/
end
