/- LiftHomes: own texts in one (part 4 of 4): contracts of the functions that the law reaches. -/
import Derived.Test.YtgjpemfjccajkaaBLiftHomesc
import Derived.Deep.DeepCutAuto

section
/- The reference's whole numbers, what the printed functions come to (Add, Sub, Mul, Long, Floor): plain; and Floor's contract of a number just made. -/
namespace Go.Proofs.Ytgjpemfjccajkaa.Whole
open Go Go.RowKit Go.Proofs.YtgjpemfjccajkaaW.PrintWords Go.Proofs.YtgjpemfjccajkaaW.PrintLast Go.Proofs.YtgjpemfjccajkaaW.PrintMore Go.Proofs.Ytgjpemfjccajkaa.F Go.Proofs.Ytgjpemfjccajkaa.Dig
set_option linter.unusedVariables false
theorem make1_p {s : Int} {n : Nat} : zelligeref04_make1.f s (dig n) = some (if n = 0 then 0 else s, dig n) := by
  unfold zelligeref04_make1.f
  by_cases h : n = 0
  · subst h; rw [dig_zero, if_pos (by simp), if_pos rfl]
  · have h1 : (dig n).length ≠ 0 := fun e => h (dig_nil.1 (List.length_eq_zero_iff.1 e))
    rw [if_neg (by omega), if_neg h]
theorem neg_p (n : Int) (l : List Int) : zelligeref04_Neg.f n.sign l = some ((-n).sign, l) := by
  unfold zelligeref04_Neg.f
  rw [Int.sign_neg, w64 (by rw [sign_eq]; omega) (by rw [sign_eq]; omega)]
theorem add_p (n m : Int) (hn : Sm n) (hm : Sm m) {k : Nat} (hk : 50000 ≤ k) : zelligeref04_Add.f k n.sign (dig n.natAbs) m.sign (dig m.natAbs) = some ((n + m).sign, dig (n + m).natAbs) := by
  unfold Sm at hn hm
  unfold zelligeref04_Add.f
  by_cases n0 : n = 0
  · subst n0; rw [Int.sign_zero, if_pos rfl, Int.zero_add]
  have s0 : n.sign ≠ 0 := fun e => n0 (Int.sign_eq_zero_iff_zero.1 e)
  by_cases m0 : m = 0
  · subst m0; rw [if_neg s0, Int.sign_zero, if_pos rfl, Int.add_zero]
  have t0 : m.sign ≠ 0 := fun e => m0 (Int.sign_eq_zero_iff_zero.1 e)
  rw [if_neg s0, if_neg t0]
  by_cases st : n.sign = m.sign
  · rw [if_pos st, add_f n.natAbs m.natAbs (by omega) (by omega) (by omega), Option.bind_some]
    rw [sign_eq, sign_eq] at st
    rw [show n.natAbs + m.natAbs = (n + m).natAbs by omega, show n.sign = (n + m).sign by rw [sign_eq, sign_eq]; omega]
  · rw [if_neg st, cmp_f n.natAbs m.natAbs (by omega) (by omega), Option.bind_some]
    rw [sign_eq, sign_eq] at st
    by_cases hlt : n.natAbs < m.natAbs
    · rw [if_pos hlt, if_neg (by decide), sub_f m.natAbs n.natAbs (by omega) (by omega) (by omega), Option.bind_some, make1_p, Option.bind_some]
      rw [show m.natAbs - n.natAbs = (n + m).natAbs by omega, if_neg (by omega), show m.sign = (n + m).sign by rw [sign_eq, sign_eq]; omega]
    · rw [if_neg hlt, if_pos (by split <;> decide), sub_f n.natAbs m.natAbs (by omega) (by omega) (by omega), Option.bind_some, make1_p, Option.bind_some]
      rw [show n.natAbs - m.natAbs = (n + m).natAbs by omega]
      by_cases he : n.natAbs = m.natAbs
      · rw [if_pos (by omega), show (n + m).sign = 0 by rw [sign_eq]; omega]
      · rw [if_neg (by omega), show n.sign = (n + m).sign by rw [sign_eq, sign_eq]; omega]
theorem sub_p (n m : Int) (hn : Sm n) (hm : Sm m) {k : Nat} (hk : 50000 ≤ k) : zelligeref04_Sub.f k n.sign (dig n.natAbs) m.sign (dig m.natAbs) = some ((n - m).sign, dig (n - m).natAbs) := by
  unfold zelligeref04_Sub.f
  have hm' : Sm (-m) := by unfold Sm; rw [Int.natAbs_neg]; exact hm
  have := add_p n (-m) hn hm' hk
  rw [Int.natAbs_neg, ← Int.sub_eq_add_neg] at this
  rw [neg_p, Option.bind_some, this, Option.bind_some]
theorem mul_p (n m : Int) (hn : Sm n) (hm : Sm m) {k : Nat} (hk : 20000001 ≤ k) : zelligeref04_Mul.f k n.sign (dig n.natAbs) m.sign (dig m.natAbs) = some ((n * m).sign, dig (n * m).natAbs) := by
  unfold Sm at hn hm
  have hs : wrap64 (n.sign * m.sign) = (n * m).sign := by
    rw [Int.sign_mul]
    have h1 : -1 ≤ n.sign ∧ n.sign ≤ 1 := by rw [sign_eq]; omega
    have h2 : -1 ≤ m.sign ∧ m.sign ≤ 1 := by rw [sign_eq]; omega
    have h3 : n.sign = -1 ∨ n.sign = 0 ∨ n.sign = 1 := by omega
    rcases h3 with h3 | h3 | h3 <;> rw [h3] <;> exact w64 (by omega) (by omega)
  unfold zelligeref04_Mul.f
  rw [mul_f n.natAbs m.natAbs (by omega) (by omega) (by omega), Option.bind_some, hs, make1_p, Option.bind_some, Int.natAbs_mul]
  by_cases h0 : n.natAbs * m.natAbs = 0
  · have hz : n * m = 0 := Int.natAbs_eq_zero.1 (by rw [Int.natAbs_mul]; exact h0)
    rw [if_pos h0, hz]; rfl
  · rw [if_neg h0]
theorem wrap_u {x : Int} : IntKind.u64.wrap x = x % 18446744073709551616 := by rw [IntKind.wrap_u64]
theorem long_p (n : Int) (h : -9223372036854775808 ≤ n ∧ n ≤ 9223372036854775807) {k : Nat} (hk : 21 ≤ k) : zelligeref04_Long.f k n = some (n.sign, dig n.natAbs) := by
  unfold zelligeref04_Long.f
  by_cases h0 : n = 0
  · subst h0; rw [if_pos rfl, Int.natAbs_zero, dig_zero]; rfl
  · rw [if_neg h0]
    by_cases h1 : n < 0
    · have e : IntKind.u64.wrap (-IntKind.u64.wrap n) = -n := by rw [wrap_u, wrap_u]; omega
      rw [if_pos h1, e, of_two _ _ (by omega) (by omega) (by omega) (by omega) (by omega), Option.bind_some, Int.sign_eq_neg_one_of_neg h1, show (-n % 4294967296 + 4294967296 * (-n / 4294967296 % 4294967296)).toNat = n.natAbs by clear e; omega]
    · have e : IntKind.u64.wrap n = n := by rw [wrap_u]; omega
      rw [if_neg h1, e, of_two _ _ (by omega) (by omega) (by omega) (by omega) (by omega), Option.bind_some, Int.sign_eq_one_of_pos (by omega), show (n % 4294967296 + 4294967296 * (n / 4294967296 % 4294967296)).toNat = n.natAbs by clear e; omega]
theorem mul_small {a b : Int} {n : Int} (h : a * b = n) (h1 : -9223372036854775808 ≤ n ∧ n ≤ 9223372036854775807) : -9223372036854775808 ≤ a * b ∧ a * b ≤ 9223372036854775807 := by rw [h]; exact h1
theorem sgn_neg {p : Nat} (hp : 0 < p) (q : Nat) : (if q = 0 then 0 else (-(p : Int)).sign) = (-(q : Int)).sign := by
  rw [sign_eq, sign_eq]; split <;> omega
theorem sgn_pos {p q : Nat} (hp : q ≤ p) : (if q = 0 then 0 else ((p : Int)).sign) = ((q : Int)).sign := by
  rw [sign_eq, sign_eq]; split <;> omega
/-- Floor: the quotient below, and the rest. -/
theorem floor_p (n m : Int) (hm : 1 ≤ m ∧ m ≤ 1099511627776) (hn : -1099511627776 ≤ n ∧ n ≤ 1099511627776) : zelligeref04_Floor.f 30000000 n.sign (dig n.natAbs) m.sign (dig m.natAbs) = some ((n / m).sign, dig (n / m).natAbs, (n % m).sign, dig (n % m).natAbs) := by
  have sn : Sm n := Sm.of (by omega) (by omega)
  have sm : Sm m := Sm.of (by omega) (by omega)
  have ln : (dig n.natAbs).length ≤ 3000 := by have := sn; unfold Sm at this; omega
  have lm : (dig m.natAbs).length ≤ 3000 := by have := sm; unfold Sm at this; omega
  have e0 := Int.mul_ediv_add_emod n m
  have e1 := Int.emod_nonneg n (show m ≠ 0 by omega)
  have e2 := Int.emod_lt_of_pos n (show 0 < m by omega)
  have q1 : -1099511627776 ≤ n / m ∧ n / m ≤ 1099511627776 := by
    constructor
    · exact Int.le_ediv_of_mul_le (by omega) (by omega)
    · rcases Int.lt_or_le n 0 with h | h
      · have := Int.ediv_neg_of_neg_of_pos h (show 0 < m by omega); omega
      · have := Int.ediv_le_self m h; omega
  have hrest : n - n / m * m = n % m := by rw [Int.mul_comm]; omega
  have sq : Sm (n / m) := Sm.of (by omega) (by omega)
  have sqm : Sm (n / m * m) := Sm.of (by omega) (by omega)
  have ms : m.sign = 1 := Int.sign_eq_one_of_pos (by omega)
  have hw : wrap64 (n.sign * m.sign) = n.sign := by rw [ms, Int.mul_one]; exact w64 (by rw [sign_eq]; omega) (by rw [sign_eq]; omega)
  have tail : ∀ q : Int, q = n / m → ((zelligeref04_Mul.f 29999999 q.sign (dig q.natAbs) m.sign (dig m.natAbs)).bind fun bt345 => ((zelligeref04_Sub.f 29999999 n.sign (dig n.natAbs) bt345.1 bt345.2).bind fun bt349 => (some (q.sign, dig q.natAbs, bt349.1, bt349.2)))) =
      some ((n / m).sign, dig (n / m).natAbs, (n % m).sign, dig (n % m).natAbs) := by
    rintro q rfl
    rw [mul_p _ _ sq sm (by omega), Option.bind_some, sub_p _ _ sn sqm (by omega), Option.bind_some, hrest]
  unfold zelligeref04_Floor.f
  rw [divmod_f n.natAbs m.natAbs (by omega) ln lm (by omega), Option.bind_some, hw, make1_p, Option.bind_some]
  by_cases h1 : n < 0
  · have ns : n.sign = -1 := Int.sign_eq_neg_one_of_neg h1
    obtain ⟨p, rfl⟩ : ∃ p : Nat, n = -(p : Int) := ⟨n.natAbs, by omega⟩
    obtain ⟨c, rfl⟩ : ∃ c : Nat, m = (c : Int) := ⟨m.toNat, by omega⟩
    rw [if_pos (by rw [ns]; decide), Int.natAbs_neg, Int.natAbs_natCast, Int.natAbs_natCast]
    rw [Int.natAbs_neg, Int.natAbs_natCast, Int.natAbs_natCast] at tail
    have d0 := Nat.div_add_mod p c
    have d1 := Nat.mod_lt p (show 0 < c by omega)
    have d0' : (c : Int) * ((p / c : Nat) : Int) + ((p % c : Nat) : Int) = (p : Int) := by rw [← Int.natCast_mul, ← Int.natCast_add, d0]
    by_cases h2 : p % c = 0
    · have hq : -(p : Int) / (c : Int) = -((p / c : Nat) : Int) := by
        apply Int.ediv_eq_of_eq_mul_left (by omega)
        rw [Int.neg_mul, Int.mul_comm]; omega
      have hs : (if p / c = 0 then 0 else (-(p : Int)).sign) = (-((p / c : Nat) : Int)).sign := sgn_neg (by omega) _
      rw [h2, dig_zero, show (decide ((([] : List Int).length : Int) > 0)) = false from rfl, zelligeref04_Floor.j0, if_neg (by decide), hs]
      have t := tail (-((p / c : Nat) : Int)) hq.symm
      rw [Int.natAbs_neg, Int.natAbs_natCast] at t
      exact t
    · have hl : (dig (p % c)).length ≠ 0 := fun e => h2 (dig_nil.1 (List.length_eq_zero_iff.1 e))
      have hq : -(p : Int) / (c : Int) = -((p / c : Nat) : Int) - 1 := by
        have u1 : (c : Int) * (-((p / c : Nat) : Int) - 1) = -((c : Int) * ((p / c : Nat) : Int)) - c := by rw [Int.mul_sub, Int.mul_neg, Int.mul_one]
        have := Int.ediv_emod_unique (a := -(p : Int)) (b := (c : Int)) (r := (c : Int) - ((p % c : Nat) : Int)) (q := -((p / c : Nat) : Int) - 1) (by omega)
        exact (this.2 ⟨by omega, by omega, by omega⟩).1
      have hs : (if p / c = 0 then 0 else (-(p : Int)).sign) = (-((p / c : Nat) : Int)).sign := sgn_neg (by omega) _
      have b1 : ((p / c : Nat) : Int) ≤ p := by have := Nat.div_le_self p c; omega
      have hsub := sub_p (-((p / c : Nat) : Int)) 1 (Sm.of (by omega) (by omega)) (Sm.of (by omega) (by omega)) (k := 29999999) (by omega)
      rw [Int.natAbs_neg, Int.natAbs_natCast] at hsub
      rw [decide_eq_true (show ((dig (p % c)).length : Int) > 0 by omega), zelligeref04_Floor.j0, if_pos rfl, long_p 1 (by omega) (by omega), Option.bind_some, hs, hsub, Option.bind_some]
      exact tail _ hq.symm
  · obtain ⟨p, rfl⟩ : ∃ p : Nat, n = (p : Int) := ⟨n.toNat, by omega⟩
    obtain ⟨c, rfl⟩ : ∃ c : Nat, m = (c : Int) := ⟨m.toNat, by omega⟩
    have hs : (if p / c = 0 then 0 else ((p : Int)).sign) = (((p / c : Nat) : Int)).sign := sgn_pos (Nat.div_le_self p c)
    rw [if_neg (by rw [sign_eq]; omega), Int.natAbs_natCast, Int.natAbs_natCast, zelligeref04_Floor.j0, if_neg (by decide), hs]
    have t := tail ((p / c : Nat) : Int) (Int.natCast_ediv p c)
    rw [Int.natAbs_natCast, Int.natAbs_natCast, Int.natAbs_natCast] at t
    exact t
/-- A number that was made since: its digits' block is among those of P. -/
structure MI (w0 w : World) (P : Nat → Prop) (v : Value) (n : Int) : Prop where
  out : ∃ (u : Value), v = .agg #[.int .i64 n.sign, u] ∧ Kd.R (Kd.int .i64) 3 w w0.heap.size P u (dig n.natAbs)
theorem MI.ni {w0 w : World} {P : Nat → Prop} {v : Value} {n : Int} (h : MI w0 w P v n) : NI w v n := by
  obtain ⟨u, rfl, hR⟩ := h
  obtain ⟨A, c, rfl, hc, hC⟩ := (RV.of_R hR).form
  exact ⟨A, _, c, rfl, RV.of_R hR⟩
theorem MI.below {w0 w w' : World} {P : Nat → Prop} {v : Value} {n : Int} (h : MI w0 w P v n) (hb : Below w.heap.size w w') : MI w0 w' P v n := by
  obtain ⟨u, rfl, hR⟩ := h
  exact ⟨u, rfl, Kd.R_below hR hb⟩
theorem long_m (n : Int) (h : -9223372036854775808 ≤ n ∧ n ≤ 9223372036854775807) (w : World) :
    Calls Try.prog 27 #[.int .i64 n] w fun e w' => ∃ v, e = .returned v ∧ MI w w' (fun k => w.heap.size ≤ k ∧ k < w'.heap.size) v n ∧ Below w.heap.size w w' :=
  (zelligeref04_Long.calls 100 n _ _ w (long_p n h (by omega))).mono fun e w' ⟨v, he, hR, hb⟩ => ⟨_, he, ⟨v, rfl, Kd.R_mono (Kd.R_bound hR) (fun k hk => ⟨hk.2.1, hk.2.2.1⟩)⟩, hb⟩
/-- Floor of two numbers made one behind the other. -/
theorem floor_m (n m : Int) (hm : 1 ≤ m ∧ m ≤ 1099511627776) (hn : -1099511627776 ≤ n ∧ n ≤ 1099511627776) (w0 w1 w : World) (v u : Value) (hB : Below w0.heap.size w0 w1) (hB' : Below w1.heap.size w1 w) (h : MI w0 w1 (fun k => w0.heap.size ≤ k ∧ k < w1.heap.size) v n) (h' : MI w1 w (fun k => w1.heap.size ≤ k ∧ k < w.heap.size) u m) :
    Calls Try.prog 26 #[v, u] w fun e w' => ∃ r s, e = .returned (.tuple #[r, s]) ∧ NI w' r (n / m) ∧ NI w' s (n % m) ∧ Below w0.heap.size w0 w' := by
  obtain ⟨a, rfl, ha⟩ := h.below hB'
  obtain ⟨b, rfl, hb⟩ := h'
  obtain ⟨A, c, rfl, hc, hC⟩ := Kd.R_reads hb
  refine (zelligeref04_Floor.calls 30000000 n.sign (fun k => w0.heap.size ≤ k ∧ k < w1.heap.size) a (dig n.natAbs) m.sign A c (dig m.natAbs) _ _ _ _ w0 w (below_then hB hB.size hB') ha ?_ hc (floor_p n m hm hn)).mono ?_
  · intro W hK
    have hb2 := Kd.R_step hb (w1 := W) (fun k hk hlt => hK.2 k hlt (fun hk2 => by omega))
    exact (Kd.R_reads' hb2).2.2
  · rintro e w' ⟨v1, v3, he, h1, h3, hbel, _⟩
    have k1 := RV.of_R h1
    have k3 := RV.of_R h3
    obtain ⟨A1, c1, rfl, _, _⟩ := k1.form
    obtain ⟨A3, c3, rfl, _, _⟩ := k3.form
    exact ⟨_, _, he, ⟨A1, _, c1, rfl, k1⟩, ⟨A3, _, c3, rfl, k3⟩, hbel⟩
end Go.Proofs.Ytgjpemfjccajkaa.Whole
end

section
/- The reference's Can (which points can be), in the print's form. -/
namespace Go.Proofs.Ytgjpemfjccajkaa.Whole
open Go Go.RowKit Go.Proofs.YtgjpemfjccajkaaW.PrintWords Go.Proofs.YtgjpemfjccajkaaW.PrintLast Go.Proofs.YtgjpemfjccajkaaW.PrintMore Go.Proofs.Ytgjpemfjccajkaa.F Go.Proofs.Ytgjpemfjccajkaa.Dig
set_option linter.unusedVariables false
set_option maxHeartbeats 1000000 in
theorem can_no (a b : Int) (ha : (Lit.int .i64 a).wf = true) (ha' : Sm a) (hq : Aside0 (decide (-1099511627776 ≤ a ∧ a ≤ 1099511627776) = false)) (w : World) :
    Calls Try.prog 16 #[.agg #[.int .i64 a, .int .i64 b]] w fun e w' => e = .returned (.bool false) ∧ Below w.heap.size w w' := by
  have HA := Aside0.mk ha
  have HM := Aside0.mk ha'
  clear ha ha'
  go_enter Try.func16, Try.ntmps16
  go_wp2_with fail
  obtain ⟨n0, bw⟩ := one_new w (.cells #[.int .i64 a, .int .i64 b] 28)
  generalize (w.alloc (.cells #[.int .i64 a, .int .i64 b] 28)) = W at n0 bw ⊢
  have Hb := Aside0.mk bw
  have d0 : W.cell? ⟨w.heap.size, 0, none⟩ = some (.int .i64 a) := (blk_cell n0 0).trans rfl
  have d1 : W.cell? ⟨w.heap.size, 1, none⟩ = some (.int .i64 b) := (blk_cell n0 1).trans rfl
  clear n0 bw
  go_wp2_with (first | (go_at_call 27; refine (long_c _ HA.out _).mono ?_; rintro e w1 ⟨v, rfl, hN, hb⟩; have HN := Aside0.mk hN; clear hN; obtain ⟨s1, A1, l1, cc1, rfl⟩ := HN.out.shape; have d0 := pw_cell_below hb d0; have d1 := pw_cell_below hb d1; have Hb := Aside0.mk (bthen hb Hb.out); clear hb) | (go_at_call 32; refine (in_c _ a HM.out _ HN.out).mono ?_; rw [hq.out]; rintro e w1 ⟨rfl, hb⟩; have d0 := pw_cell_below hb d0; have d1 := pw_cell_below hb d1; have Hb := Aside0.mk (bthen hb Hb.out); clear hb))
  go_ret
  exact ⟨rfl, Hb.out⟩
set_option maxHeartbeats 1000000 in
theorem can_yes (a b : Int) (ha : (Lit.int .i64 a).wf = true) (ha' : Sm a) (hb' : (Lit.int .i64 b).wf = true) (hb2 : Sm b) (hq : Aside0 (decide (-1099511627776 ≤ a ∧ a ≤ 1099511627776) = true)) (r : Bool) (hr : Aside0 (decide (-1099511627776 ≤ b ∧ b ≤ 1099511627776) = r)) (w : World) :
    Calls Try.prog 16 #[.agg #[.int .i64 a, .int .i64 b]] w fun e w' => e = .returned (.bool r) ∧ Below w.heap.size w w' := by
  have HA := Aside0.mk ha
  have HM := Aside0.mk ha'
  have HA2 := Aside0.mk hb'
  have HM2 := Aside0.mk hb2
  clear ha ha' hb' hb2
  go_enter Try.func16, Try.ntmps16
  go_wp2_with fail
  obtain ⟨n0, bw⟩ := one_new w (.cells #[.int .i64 a, .int .i64 b] 28)
  generalize (w.alloc (.cells #[.int .i64 a, .int .i64 b] 28)) = W at n0 bw ⊢
  have Hb := Aside0.mk bw
  have d0 : W.cell? ⟨w.heap.size, 0, none⟩ = some (.int .i64 a) := (blk_cell n0 0).trans rfl
  have d1 : W.cell? ⟨w.heap.size, 1, none⟩ = some (.int .i64 b) := (blk_cell n0 1).trans rfl
  clear n0 bw
  go_wp2_with fail
  refine (long_c _ HA.out _).mono ?_
  rintro e w1 ⟨v, rfl, hN, hb⟩
  have HN := Aside0.mk hN; clear hN; obtain ⟨s1, A1, l1, cc1, rfl⟩ := HN.out.shape
  have d0 := pw_cell_below hb d0; have d1 := pw_cell_below hb d1; have Hb := Aside0.mk (bthen hb Hb.out); clear hb
  go_wp2_with fail
  refine (in_c _ a HM.out _ HN.out).mono ?_
  rw [hq.out]
  rintro e w2 ⟨rfl, hb⟩
  have d0 := pw_cell_below hb d0; have d1 := pw_cell_below hb d1; have Hb := Aside0.mk (bthen hb Hb.out); clear hb
  go_wp2_with fail
  refine (long_c _ HA2.out _).mono ?_
  rintro e w3 ⟨v, rfl, hN, hb⟩
  have HN := Aside0.mk hN; clear hN; obtain ⟨s2, A2, l2, cc2, rfl⟩ := HN.out.shape
  have d0 := pw_cell_below hb d0; have d1 := pw_cell_below hb d1; have Hb := Aside0.mk (bthen hb Hb.out); clear hb
  go_wp2_with fail
  refine (in_c _ b HM2.out _ HN.out).mono ?_
  rw [hr.out]
  rintro e w4 ⟨rfl, hb⟩
  have Hb := Aside0.mk (bthen hb Hb.out); clear hb
  go_wp2
  go_ret
  exact ⟨rfl, Hb.out⟩
theorem Sm.i64 {n : Int} (h : -9223372036854775808 ≤ n ∧ n ≤ 9223372036854775807) : Sm n := Sm.of (by omega) (by omega)
theorem wf_of {n : Int} (h : -9223372036854775808 ≤ n ∧ n ≤ 9223372036854775807) : (Lit.int .i64 n).wf = true := WalkArith.wf_i64 (by omega)
end Go.Proofs.Ytgjpemfjccajkaa.Whole
namespace Go.Proofs.Ytgjpemfjccajkaa.F
open Go Go.RowKit Go.Proofs.YtgjpemfjccajkaaW.PrintWords Go.Proofs.YtgjpemfjccajkaaW.PrintLast Go.Proofs.YtgjpemfjccajkaaW.PrintMore Go.Proofs.Ytgjpemfjccajkaa.Whole
/-- Numbers of 64 bits. -/
abbrev I64 (n : Int) : Prop := -9223372036854775808 ≤ n ∧ n ≤ 9223372036854775807
abbrev InC (n : Int) : Prop := -1099511627776 ≤ n ∧ n ≤ 1099511627776
def zelligeref06_Can.f (a0_0 : Int) (a0_1 : Int) : Option Bool := if I64 a0_0 ∧ I64 a0_1 then some (decide (InC a0_0 ∧ InC a0_1)) else none
theorem zelligeref06_Can.calls (a0_0 : Int) (a0_1 : Int) (r : Bool) (w : World) (h : zelligeref06_Can.f a0_0 a0_1 = some r) :
    Calls Try.prog 16 #[.agg #[.int .i64 a0_0, .int .i64 a0_1]] w fun e w' => e = .returned (.bool r) ∧ Below w.heap.size w w' := by
  unfold zelligeref06_Can.f at h
  by_cases hb : I64 a0_0 ∧ I64 a0_1
  · rw [if_pos hb] at h
    obtain rfl := Option.some.inj h
    by_cases h1 : InC a0_0
    · refine can_yes a0_0 a0_1 (wf_of hb.1) (Sm.i64 hb.1) (wf_of hb.2) (Sm.i64 hb.2) ⟨decide_eq_true h1⟩ _ ⟨?_⟩ w
      rw [decide_eq_decide]
      exact ⟨fun h => ⟨h1, h⟩, fun h => h.2⟩
    · rw [show decide (InC a0_0 ∧ InC a0_1) = false from decide_eq_false (fun h => h1 h.1)]
      exact can_no a0_0 a0_1 (wf_of hb.1) (Sm.i64 hb.1) ⟨decide_eq_false h1⟩ w
  · rw [if_neg hb] at h
    cases h
end Go.Proofs.Ytgjpemfjccajkaa.F
end

section
namespace Go.Proofs.Ytgjpemfjccajkaa.F
open Go.RowKit Go.Proofs.YtgjpemfjccajkaaW.PrintWords Go.Proofs.YtgjpemfjccajkaaW.PrintLast Go.Proofs.YtgjpemfjccajkaaW.PrintMore
attribute [local go_sem] max2_int min2_int max_two min_two max_three min_three max_four min_four   -- for this text's walks alone
set_option linter.unusedVariables false
set_option linter.unusedSimpArgs false

/-! ### zelligeref06_Torus: function 25 -/
def zelligeref06_Torus.f (a0 : Int) : Option (Bool) := if a0 ≥ 1 then (some (decide (a0 ≤ 1099511627776))) else (some false)
set_option maxHeartbeats 8000000 in
set_option maxRecDepth 100000 in
theorem zelligeref06_Torus.calls (a0 : Int) (r : Bool) (w : World) (h : zelligeref06_Torus.f a0 = some r) :
    Calls Try.prog 25 #[.int .i64 a0] w fun e w' => e = .returned (.bool r) ∧ Drawn0 w w' := by
  have H : (if a0 ≥ 1 then (some (decide (a0 ≤ 1099511627776))) else (some false)) = some r := h
  clear h
  by_cases c2 : a0 ≥ 1
  · rw [if_pos c2] at H
    have c2b0 : decide (1 ≤ a0) = true := decide_eq_true c2
    clear c2
    obtain rfl := Option.some.inj H
    go_enter Try.func25, Try.ntmps25
    go_wp2
    go_ret
    exact ⟨by first | rfl | (simp; done) | (simp [*]; done), by repeat (first | exact Drawn0.refl _ | apply Drawn0.step)⟩
  · rw [if_neg c2] at H
    have c2b0 : decide (1 ≤ a0) = false := decide_eq_false c2
    clear c2
    obtain rfl := Option.some.inj H
    go_enter Try.func25, Try.ntmps25
    go_wp2
    go_ret
    exact ⟨by first | rfl | (simp; done) | (simp [*]; done), by repeat (first | exact Drawn0.refl _ | apply Drawn0.step)⟩

end Go.Proofs.Ytgjpemfjccajkaa.F
end

section
/- The reference's Home (a point in the first square), in the print's form. -/
namespace Go.Proofs.Ytgjpemfjccajkaa.Whole
open Go Go.RowKit Go.Proofs.YtgjpemfjccajkaaW.PrintWords Go.Proofs.YtgjpemfjccajkaaW.PrintLast Go.Proofs.YtgjpemfjccajkaaW.PrintMore Go.Proofs.Ytgjpemfjccajkaa.F Go.Proofs.Ytgjpemfjccajkaa.Dig
set_option linter.unusedVariables false
theorem far_two {W : World} {b g t : Nat} {cs : Array Value} {u v : Value} (h : W.heap[b]? = some (.cells cs t (0, 0))) (hne : b ≠ g) : ((W.setCell ⟨g, 0, none⟩ u).setCell ⟨g, 1, none⟩ v).heap[b]? = some (.cells cs t (0, 0)) := blk_far (p := ⟨g, 1, none⟩) (blk_far (p := ⟨g, 0, none⟩) h (by simp only []; first | exact hne | exact hne.symm) _) (by simp only []; first | exact hne | exact hne.symm) _
theorem torus_is (s : Int) : zelligeref06_Torus.f s = some (decide (1 ≤ s ∧ s ≤ 1099511627776)) := by
  unfold zelligeref06_Torus.f
  by_cases h : s ≥ 1
  · rw [if_pos h]
    congr 1
    rw [decide_eq_decide]
    exact ⟨fun k => ⟨h, k⟩, fun k => k.2⟩
  · rw [if_neg h, decide_eq_false (fun k => h k.1)]
/-- A box that holds the number n. -/
structure BX (w wx : World) (v : Value) (n : Int) : Prop where
  out : ∃ (g : Nat) (s : Int) (A : Option Addr) (l c : Nat), v = .pointer (some ⟨g, 0, none⟩) ∧ w.heap.size + 1 + 1 < g ∧ wx.heap[g]? = some (.cells #[.int .i64 s, .slice A l c] 48 (0, 0)) ∧ NI wx (.agg #[.int .i64 s, .slice A l c]) n
theorem BX.below {w wx wy : World} {v : Value} {n : Int} (h : BX w wx v n) (hb : Below wx.heap.size wx wy) : BX w wy v n := by
  obtain ⟨g, s, A, l, c, rfl, h1, h2, h3⟩ := h
  exact ⟨g, s, A, l, c, rfl, h1, blk_below h2 hb, h3.below hb⟩
/-- What stands behind the test: the point, the results' places. -/
structure HS (w : World) (x y : Int) (wx : World) : Prop where
  p : wx.heap[w.heap.size]? = some (.cells #[.int .i64 x, .int .i64 y] 28 (0, 0))
  r : wx.heap[w.heap.size + 1]? = some (.cells #[.int .i64 0, .int .i64 0] 28 (0, 0))
  o : wx.heap[w.heap.size + 1 + 1]? = some (.cells #[.int .i64 0, .int .i64 0] 23 (0, 0))
  b : Below w.heap.size w wx
theorem HS.below {w wx wy : World} {x y : Int} (h : HS w x y wx) (hb : Below wx.heap.size wx wy) : HS w x y wy :=
  ⟨blk_below h.p hb, blk_below h.r hb, blk_below h.o hb, bthen hb h.b⟩
theorem HS.cells {w wx : World} {x y : Int} (h : HS w x y wx) : wx.cell? ⟨w.heap.size, 0, none⟩ = some (.int .i64 x) ∧ wx.cell? ⟨w.heap.size, 1, none⟩ = some (.int .i64 y) := ⟨(blk_cell h.p 0).trans rfl, (blk_cell h.p 1).trans rfl⟩
theorem HS.put {w wx : World} {x y : Int} (h : HS w x y wx) (a b c d : Value) :
    ((((wx.setCell ⟨w.heap.size + 1, 0, none⟩ a).setCell ⟨w.heap.size + 1, 1, none⟩ b).setCell ⟨w.heap.size + 1 + 1, 0, none⟩ c).setCell ⟨w.heap.size + 1 + 1, 1, none⟩ d).heap[w.heap.size + 1]? = some (.cells #[a, b] 28 (0, 0)) ∧
    ((((wx.setCell ⟨w.heap.size + 1, 0, none⟩ a).setCell ⟨w.heap.size + 1, 1, none⟩ b).setCell ⟨w.heap.size + 1 + 1, 0, none⟩ c).setCell ⟨w.heap.size + 1 + 1, 1, none⟩ d).heap[w.heap.size + 1 + 1]? = some (.cells #[c, d] 23 (0, 0)) ∧
    Below w.heap.size w ((((wx.setCell ⟨w.heap.size + 1, 0, none⟩ a).setCell ⟨w.heap.size + 1, 1, none⟩ b).setCell ⟨w.heap.size + 1 + 1, 0, none⟩ c).setCell ⟨w.heap.size + 1 + 1, 1, none⟩ d) := by
  refine ⟨?_, ?_, below_set2 (below_set2 h.b (by omega) _ _ _ _) (by omega) _ _ _ _⟩
  · refine far_two ?_ (by omega)
    exact blk_put (cs := #[a, .int .i64 0]) (blk_put (cs := #[.int .i64 0, .int .i64 0]) h.r 0 _ rfl) 1 _ rfl
  · refine blk_put (cs := #[c, .int .i64 0]) (blk_put (cs := #[.int .i64 0, .int .i64 0]) ?_ 0 _ rfl) 1 _ rfl
    exact far_two h.o (by omega)
theorem HS.rest {w wx : World} {x y : Int} (h : HS w x y wx) : (wx.cell? ⟨w.heap.size + 1, 0, none⟩ = some (.int .i64 0) ∧ wx.cell? ⟨w.heap.size + 1, 1, none⟩ = some (.int .i64 0) ∧ wx.cell? ⟨w.heap.size + 1 + 1, 0, none⟩ = some (.int .i64 0) ∧ wx.cell? ⟨w.heap.size + 1 + 1, 1, none⟩ = some (.int .i64 0)) ∧
    (wx.frozen? ⟨w.heap.size + 1, 0, none⟩ = false ∧ wx.frozen? ⟨w.heap.size + 1, 1, none⟩ = false ∧ wx.frozen? ⟨w.heap.size + 1 + 1, 0, none⟩ = false ∧ wx.frozen? ⟨w.heap.size + 1 + 1, 1, none⟩ = false) :=
  ⟨⟨(blk_cell h.r 0).trans rfl, (blk_cell h.r 1).trans rfl, (blk_cell h.o 0).trans rfl, (blk_cell h.o 1).trans rfl⟩, blk_frozen h.r 0, blk_frozen h.r 1, blk_frozen h.o 0, blk_frozen h.o 1⟩
theorem BX.two {w wx : World} {s t : Int} {A B : Option Addr} {l c m d : Nat} {n k : Int} (hz : w.heap.size + 1 + 1 < wx.heap.size) (h : NI wx (.agg #[.int .i64 s, .slice A l c]) n) (h' : NI wx (.agg #[.int .i64 t, .slice B m d]) k) :
    BX w ((wx.alloc (.cells #[.int .i64 s, .slice A l c] 48)).alloc (.cells #[.int .i64 t, .slice B m d] 48)) (.pointer (some ⟨wx.heap.size, 0, none⟩)) n ∧
    BX w ((wx.alloc (.cells #[.int .i64 s, .slice A l c] 48)).alloc (.cells #[.int .i64 t, .slice B m d] 48)) (.pointer (some ⟨wx.heap.size + 1, 0, none⟩)) k := by
  obtain ⟨n0, n1, bw, _⟩ := two_new wx (.cells #[.int .i64 s, .slice A l c] 48) (.cells #[.int .i64 t, .slice B m d] 48)
  exact ⟨⟨_, s, A, l, c, rfl, hz, n0, h.below bw⟩, ⟨_, t, B, m, d, rfl, by omega, n1, h'.below bw⟩⟩
theorem two_below (w : World) (o0 o1 : Obj) : Below w.heap.size w ((w.alloc o0).alloc o1) := (two_new w o0 o1).2.2.1
/-- A box, its place known. -/
structure BC (w wx : World) (g : Nat) (s : Int) (A : Option Addr) (l c : Nat) (n : Int) : Prop where
  z : w.heap.size + 1 + 1 < g
  h : wx.heap[g]? = some (.cells #[.int .i64 s, .slice A l c] 48 (0, 0))
  k : NI wx (.agg #[.int .i64 s, .slice A l c]) n
theorem BC.below {w wx wy : World} {g : Nat} {s : Int} {A : Option Addr} {l c : Nat} {n : Int} (h : BC w wx g s A l c n) (hb : Below wx.heap.size wx wy) : BC w wy g s A l c n := ⟨h.z, blk_below h.h hb, h.k.below hb⟩
theorem BC.cells {w wx : World} {g : Nat} {s : Int} {A : Option Addr} {l c : Nat} {n : Int} (h : BC w wx g s A l c n) : wx.cell? ⟨g, 0, none⟩ = some (.int .i64 s) ∧ wx.cell? ⟨g, 1, none⟩ = some (.slice A l c) := ⟨(blk_cell h.h 0).trans rfl, (blk_cell h.h 1).trans rfl⟩
structure H1 (w : World) (x y n m : Int) (a b : Value) (wx : World) : Prop where
  s : Aside0 (HS w x y wx)
  i : Aside0 (BX w wx a n)
  k : Aside0 (BX w wx b m)
structure H2 (w : World) (x y : Int) (g1 : Nat) (s1 : Int) (A1 : Option Addr) (l1 c1 : Nat) (n : Int) (g2 : Nat) (s2 : Int) (A2 : Option Addr) (l2 c2 : Nat) (m : Int) (n' m' : Int) (a b : Value) (wx : World) : Prop where
  s : Aside0 (HS w x y wx)
  u : Aside0 (BC w wx g1 s1 A1 l1 c1 n)
  v : Aside0 (BC w wx g2 s2 A2 l2 c2 m)
  i : Aside0 (BX w wx a n')
  k : Aside0 (BX w wx b m')
set_option maxHeartbeats 4000000 in
theorem home_walk (x y sd : Int) (Hx : Aside0 (I64 x)) (Hy : Aside0 (I64 y)) (Hsd : Aside0 (I64 sd)) (t c : Bool) (ht : Aside0 (zelligeref06_Torus.f sd = some t)) (hc : Aside0 (zelligeref06_Can.f x y = some c))
    (hl : Aside0 ((t && c) = true → (1 ≤ sd ∧ sd ≤ 1099511627776) ∧ (-1099511627776 ≤ x ∧ x ≤ 1099511627776) ∧ (-1099511627776 ≤ y ∧ y ≤ 1099511627776) ∧ I64 (x / sd) ∧ I64 (x % sd) ∧ I64 (y / sd) ∧ I64 (y % sd)))
    (v : Value) (hr : Aside0 ((if (t && c) = true then Value.tuple #[.agg #[.int .i64 (x % sd), .int .i64 (y % sd)], .agg #[.int .i64 (x / sd), .int .i64 (y / sd)], .bool true] else Value.tuple #[.agg #[.int .i64 0, .int .i64 0], .agg #[.int .i64 0, .int .i64 0], .bool false]) = v)) (w : World) :
    Calls Try.prog 12 #[.agg #[.int .i64 x, .int .i64 y], .int .i64 sd] w fun e w' => e = .returned v ∧ Below w.heap.size w w' := by
  go_enter Try.func12, Try.ntmps12
  go_wp2_with fail
  obtain ⟨n0, n1, n2, bw, nw⟩ := three_new w (.cells #[.int .i64 x, .int .i64 y] 28) (.cells #[.int .i64 0, .int .i64 0] 28) (.cells #[.int .i64 0, .int .i64 0] 23)
  generalize (((w.alloc (.cells #[.int .i64 x, .int .i64 y] 28)).alloc (.cells #[.int .i64 0, .int .i64 0] 28)).alloc (.cells #[.int .i64 0, .int .i64 0] 23)) = W at n0 n1 n2 bw nw ⊢
  have S := Aside0.mk (HS.mk n0 n1 n2 bw)
  clear n0 n1 n2 bw nw
  cases t
  · have hr := hr.out; subst hr
    obtain ⟨d0, d1⟩ := S.out.cells
    go_wp2_with (go_at_call 25; refine (zelligeref06_Torus.calls _ _ _ ht.out).mono ?_; rintro e v1 ⟨rfl, hb⟩; have hb := hb.below; have S := Aside0.mk (S.out.below hb); clear hb d0 d1; obtain ⟨d0, d1⟩ := S.out.cells; obtain ⟨⟨r0, r1, o0, o1⟩, rf0, rf1, of0, of1⟩ := S.out.rest)
    obtain ⟨h1, h2, h3⟩ := S.out.put (.int .i64 0) (.int .i64 0) (.int .i64 0) (.int .i64 0)
    refine bodyPost_ret (results_list (rs := [.cell 4 28, .cell 5 23, .tmp 6]) rfl (by simp) (.cell (w.heap.size + 1) 28 #[.int .i64 0, .int .i64 0] (0, 0) _ rfl h1 Try.underlying28 rfl (by kernel_rfl) (.cell (w.heap.size + 1 + 1) 23 #[.int .i64 0, .int .i64 0] (0, 0) _ rfl h2 Try.underlying23 rfl (by kernel_rfl) (.tmp .nil)))) rfl ?_
    exact ⟨rfl, h3⟩
  cases c
  · have hr := hr.out; subst hr
    obtain ⟨d0, d1⟩ := S.out.cells
    go_wp2_with (first | (go_at_call 25; refine (zelligeref06_Torus.calls _ _ _ ht.out).mono ?_; rintro e v1 ⟨rfl, hb⟩; have hb := hb.below; have S := Aside0.mk (S.out.below hb); clear hb d0 d1; obtain ⟨d0, d1⟩ := S.out.cells; obtain ⟨⟨r0, r1, o0, o1⟩, rf0, rf1, of0, of1⟩ := S.out.rest) | (go_at_call 16; refine (zelligeref06_Can.calls _ _ _ _ hc.out).mono ?_; rintro e v2 ⟨rfl, hb⟩; clear r0 r1 o0 o1 rf0 rf1 of0 of1; have S := Aside0.mk (S.out.below hb); clear hb d0 d1; obtain ⟨d0, d1⟩ := S.out.cells; obtain ⟨⟨r0, r1, o0, o1⟩, rf0, rf1, of0, of1⟩ := S.out.rest))
    obtain ⟨h1, h2, h3⟩ := S.out.put (.int .i64 0) (.int .i64 0) (.int .i64 0) (.int .i64 0)
    refine bodyPost_ret (results_list (rs := [.cell 4 28, .cell 5 23, .tmp 6]) rfl (by simp) (.cell (w.heap.size + 1) 28 #[.int .i64 0, .int .i64 0] (0, 0) _ rfl h1 Try.underlying28 rfl (by kernel_rfl) (.cell (w.heap.size + 1 + 1) 23 #[.int .i64 0, .int .i64 0] (0, 0) _ rfl h2 Try.underlying23 rfl (by kernel_rfl) (.tmp .nil)))) rfl ?_
    exact ⟨rfl, h3⟩
  have hl := hl.out rfl; have hr := hr.out; subst hr
  obtain ⟨l1, l2, l3, l4, l5, l6, l7⟩ := hl
  have L1 := Aside0.mk l1; have L2 := Aside0.mk l2; have L3 := Aside0.mk l3; have L4 := Aside0.mk l4; have L5 := Aside0.mk l5; have L6 := Aside0.mk l6; have L7 := Aside0.mk l7; clear l1 l2 l3 l4 l5 l6 l7
  obtain ⟨d0, d1⟩ := S.out.cells
  go_upto_region 3 with (first | (go_at_call 25; refine (zelligeref06_Torus.calls _ _ _ ht.out).mono ?_; rintro e v1 ⟨rfl, hb⟩; have hb := hb.below; have S := Aside0.mk (S.out.below hb); clear hb d0 d1; obtain ⟨d0, d1⟩ := S.out.cells; obtain ⟨⟨r0, r1, o0, o1⟩, rf0, rf1, of0, of1⟩ := S.out.rest) | (go_at_call 16; refine (zelligeref06_Can.calls _ _ _ _ hc.out).mono ?_; rintro e v2 ⟨rfl, hb⟩; clear r0 r1 o0 o1 rf0 rf1 of0 of1; have S := Aside0.mk (S.out.below hb); clear hb d0 d1; obtain ⟨d0, d1⟩ := S.out.cells; obtain ⟨⟨r0, r1, o0, o1⟩, rf0, rf1, of0, of1⟩ := S.out.rest))
  clear r0 r1 o0 o1 rf0 rf1 of0 of1
  go_cut [7, 8] (fun a b wx => H1 w x y (x / sd) (x % sd) a b wx)
  case first =>
    go_wp2_with fail
    refine (long_m x Hx.out _).mono ?_
    have S0 := S
    rintro e w1 ⟨u1, rfl, m1, hb⟩
    have M1 := Aside0.mk m1; have B1 := Aside0.mk hb; have S := Aside0.mk (S.out.below hb); clear m1 hb d0 d1
    go_wp2_with fail
    refine (long_m sd Hsd.out _).mono ?_
    rintro e w2 ⟨u2, rfl, m2, hb⟩
    have M2 := Aside0.mk m2; have B2 := Aside0.mk hb; have S := Aside0.mk (S.out.below hb); clear m2 hb
    go_wp2_with fail
    refine (floor_m x sd L1.out L2.out _ _ _ _ _ B1.out B2.out M1.out M2.out).mono ?_
    rintro e w3 ⟨u3, u4, rfl, n3, n4, hb⟩
    obtain ⟨s3, A3, l3, c3, rfl⟩ := n3.shape
    obtain ⟨s4, A4, l4, c4, rfl⟩ := n4.shape
    have N3 := Aside0.mk n3; have N4 := Aside0.mk n4; clear n3 n4 S; have S := Aside0.mk (S0.out.below hb); clear S0 hb
    go_wp2_with fail
    go_meet
    obtain ⟨b1, b2⟩ := BX.two (w := w) (blk_lt S.out.o) N3.out N4.out
    exact ⟨⟨S.out.below (two_below _ _ _)⟩, ⟨b1⟩, ⟨b2⟩⟩
  case rest =>
  obtain ⟨S, P1, P2⟩ := hcut
  obtain ⟨g1, s1, A1, l1, c1, rfl, z1, h1, k1⟩ := P1.out
  obtain ⟨g2, s2, A2, l2, c2, rfl, z2, h2, k2⟩ := P2.out
  have I1 := Aside0.mk (BC.mk z1 h1 k1); have K1 := Aside0.mk (BC.mk z2 h2 k2)
  clear P1 P2 z1 z2 h1 h2 k1 k2
  clear d0 d1
  obtain ⟨d0, d1⟩ := S.out.cells
  go_upto_region 4 with fail
  go_cut [9, 10] (fun a b wx => H2 w x y g1 s1 A1 l1 c1 (x / sd) g2 s2 A2 l2 c2 (x % sd) (y / sd) (y % sd) a b wx)
  case first =>
    go_wp2_with fail
    refine (long_m y Hy.out _).mono ?_
    have S0 := S; have I0 := I1; have K0 := K1
    rintro e w1 ⟨u1, rfl, m1, hb⟩
    have M1 := Aside0.mk m1; have B1 := Aside0.mk hb; have S := Aside0.mk (S.out.below hb); clear m1 hb d0 d1
    go_wp2_with fail
    refine (long_m sd Hsd.out _).mono ?_
    rintro e w2 ⟨u2, rfl, m2, hb⟩
    have M2 := Aside0.mk m2; have B2 := Aside0.mk hb; clear m2 hb
    go_wp2_with fail
    refine (floor_m y sd L1.out L3.out _ _ _ _ _ B1.out B2.out M1.out M2.out).mono ?_
    rintro e w3 ⟨u3, u4, rfl, n3, n4, hb⟩
    obtain ⟨s3, A3, l3, c3, rfl⟩ := n3.shape
    obtain ⟨s4, A4, l4, c4, rfl⟩ := n4.shape
    have N3 := Aside0.mk n3; have N4 := Aside0.mk n4; clear n3 n4 S; have S := Aside0.mk (S0.out.below hb); have I := Aside0.mk (I0.out.below hb); have K := Aside0.mk (K0.out.below hb); clear S0 I0 K0 I1 K1 hb
    go_wp2_with fail
    go_meet
    obtain ⟨b1, b2⟩ := BX.two (w := w) (blk_lt S.out.o) N3.out N4.out
    exact ⟨⟨S.out.below (two_below _ _ _)⟩, ⟨I.out.below (two_below _ _ _)⟩, ⟨K.out.below (two_below _ _ _)⟩, ⟨b1⟩, ⟨b2⟩⟩
  case rest =>
  clear I1 K1
  obtain ⟨S, Q1, Q2, P3, P4⟩ := hcut
  obtain ⟨g3, s3, A3, l3, c3, rfl, z3, h3, k3⟩ := P3.out
  obtain ⟨g4, s4, A4, l4, c4, rfl, z4, h4, k4⟩ := P4.out
  have Q3 := Aside0.mk (BC.mk z3 h3 k3); have Q4 := Aside0.mk (BC.mk z4 h4 k4)
  clear P3 P4 z3 z4 h3 h4 k3 k4 d0 d1
  obtain ⟨e20, e21⟩ := Q2.out.cells
  go_wp2_with fail
  refine (small_c _ (x % sd) L5.out _ Q2.out.k).mono ?_
  rintro e w1 ⟨rfl, hb⟩
  have S := Aside0.mk (S.out.below hb); have Q1 := Aside0.mk (Q1.out.below hb); have Q3 := Aside0.mk (Q3.out.below hb); have Q4 := Aside0.mk (Q4.out.below hb); clear hb Q2 e20 e21
  obtain ⟨e40, e41⟩ := Q4.out.cells
  go_wp2_with fail
  refine (small_c _ (y % sd) L7.out _ Q4.out.k).mono ?_
  rintro e w2 ⟨rfl, hb⟩
  have S := Aside0.mk (S.out.below hb); have Q1 := Aside0.mk (Q1.out.below hb); have Q3 := Aside0.mk (Q3.out.below hb); clear hb Q4 e40 e41
  obtain ⟨e10, e11⟩ := Q1.out.cells
  go_wp2_with fail
  refine (small_c _ (x / sd) L4.out _ Q1.out.k).mono ?_
  rintro e w3 ⟨rfl, hb⟩
  have S := Aside0.mk (S.out.below hb); have Q3 := Aside0.mk (Q3.out.below hb); clear hb Q1 e10 e11
  obtain ⟨e30, e31⟩ := Q3.out.cells
  go_wp2_with fail
  refine (small_c _ (y / sd) L6.out _ Q3.out.k).mono ?_
  rintro e w4 ⟨rfl, hb⟩
  have S := Aside0.mk (S.out.below hb); clear hb Q3 e30 e31
  obtain ⟨⟨r0, r1, o0, o1⟩, rf0, rf1, of0, of1⟩ := S.out.rest
  go_wp2
  obtain ⟨h1, h2, h3⟩ := S.out.put (.int .i64 (x % sd)) (.int .i64 (y % sd)) (.int .i64 (x / sd)) (.int .i64 (y / sd))
  refine bodyPost_ret (results_list (rs := [.cell 4 28, .cell 5 23, .tmp 6]) rfl (by simp) (.cell (w.heap.size + 1) 28 #[.int .i64 (x % sd), .int .i64 (y % sd)] (0, 0) _ rfl h1 Try.underlying28 rfl (by kernel_rfl) (.cell (w.heap.size + 1 + 1) 23 #[.int .i64 (x / sd), .int .i64 (y / sd)] (0, 0) _ rfl h2 Try.underlying23 rfl (by kernel_rfl) (.tmp .nil)))) rfl ?_
  exact ⟨rfl, h3⟩
end Go.Proofs.Ytgjpemfjccajkaa.Whole
namespace Go.Proofs.Ytgjpemfjccajkaa.F
open Go Go.RowKit Go.Proofs.YtgjpemfjccajkaaW.PrintWords Go.Proofs.YtgjpemfjccajkaaW.PrintLast Go.Proofs.YtgjpemfjccajkaaW.PrintMore Go.Proofs.Ytgjpemfjccajkaa.Whole
/-- What has a place in the first square: the side, the point. -/
abbrev HomeOk (x y s : Int) : Prop := (1 ≤ s ∧ s ≤ 1099511627776) ∧ (InC x ∧ InC y)
def zelligeref06_Home.f (a0_0 : Int) (a0_1 : Int) (a1 : Int) : Option (Int × Int × Int × Int × Bool) :=
  if I64 a0_0 ∧ I64 a0_1 ∧ I64 a1 then some (if HomeOk a0_0 a0_1 a1 then (a0_0 % a1, a0_1 % a1, a0_0 / a1, a0_1 / a1, true) else (0, 0, 0, 0, false)) else none
theorem divs {n m : Int} (hm : 1 ≤ m ∧ m ≤ 1099511627776) (hn : InC n) : (-1099511627776 ≤ n / m ∧ n / m ≤ 1099511627776) ∧ 0 ≤ n % m ∧ n % m < m := by
  refine ⟨⟨Int.le_ediv_of_mul_le (by omega) (by omega), ?_⟩, Int.emod_nonneg n (by omega), Int.emod_lt_of_pos n (by omega)⟩
  rcases Int.lt_or_le n 0 with h | h
  · have := Int.ediv_neg_of_neg_of_pos h (show 0 < m by omega); omega
  · have := Int.ediv_le_self m h; omega
theorem zelligeref06_Home.calls (a0_0 : Int) (a0_1 : Int) (a1 : Int) (r1 r2 r3 r4 : Int) (r5 : Bool) (w : World) (h : zelligeref06_Home.f a0_0 a0_1 a1 = some (r1, r2, r3, r4, r5)) :
    Calls Try.prog 12 #[.agg #[.int .i64 a0_0, .int .i64 a0_1], .int .i64 a1] w fun e w' => e = .returned (.tuple #[.agg #[.int .i64 r1, .int .i64 r2], .agg #[.int .i64 r3, .int .i64 r4], .bool r5]) ∧ Below w.heap.size w w' := by
  unfold zelligeref06_Home.f at h
  by_cases hb : I64 a0_0 ∧ I64 a0_1 ∧ I64 a1
  · rw [if_pos hb] at h
    have h := Option.some.inj h
    obtain ⟨b1, b2, b3⟩ := hb
    have hcan : zelligeref06_Can.f a0_0 a0_1 = some (decide (InC a0_0 ∧ InC a0_1)) := if_pos ⟨b1, b2⟩
    refine home_walk a0_0 a0_1 a1 ⟨b1⟩ ⟨b2⟩ ⟨b3⟩ _ _ ⟨torus_is a1⟩ ⟨hcan⟩ ⟨?_⟩ _ ⟨?_⟩ w
    · intro hk
      simp only [Bool.and_eq_true, decide_eq_true_eq] at hk
      obtain ⟨h1, h2, h3⟩ := hk
      have d1 := divs h1 h2
      have d2 := divs h1 h3
      exact ⟨h1, h2, h3, ⟨by omega, by omega⟩, ⟨by omega, by omega⟩, ⟨by omega, by omega⟩, ⟨by omega, by omega⟩⟩
    · by_cases ok : HomeOk a0_0 a0_1 a1
      · rw [if_pos ok] at h
        injection h with h1 h
        injection h with h2 h
        injection h with h3 h
        injection h with h4 h5
        subst h1 h2 h3 h4 h5
        rw [if_pos]
        rw [decide_eq_true ok.1, decide_eq_true ok.2]
        rfl
      · rw [if_neg ok] at h
        injection h with h1 h
        injection h with h2 h
        injection h with h3 h
        injection h with h4 h5
        subst h1 h2 h3 h4 h5
        rw [if_neg]
        intro hk
        simp only [Bool.and_eq_true, decide_eq_true_eq] at hk
        exact ok ⟨hk.1, hk.2⟩
  · rw [if_neg hb] at h
    cases h
end Go.Proofs.Ytgjpemfjccajkaa.F
end

section
namespace Go.Proofs.Ytgjpemfjccajkaa.F
open Go.RowKit Go.Proofs.YtgjpemfjccajkaaW.PrintWords Go.Proofs.YtgjpemfjccajkaaW.PrintLast Go.Proofs.YtgjpemfjccajkaaW.PrintMore
attribute [local go_sem] max2_int min2_int max_two min_two max_three min_three max_four min_four   -- for this text's walks alone
set_option linter.unusedVariables false
set_option linter.unusedSimpArgs false

attribute [local go_sem high] eqA23 eqA28
/-! ### zelligelaw06_LiftHomes: function 4 -/
def zelligelaw06_LiftHomes.j0 : Nat → Int → Bool → Bool → Int → Int → Int → Int → Int → Int → Option (Bool)
  | 0, _, _, _, _, _, _, _, _, _ => none
  | k + 1, x1, x7, x39, x380000, x380001, x386000, x386001, x387000, x387001 => if x39 = true then (some false) else (if x7 = true then ((lift_At.f k x386000 x386001 x387000 x387001 x1).bind fun bt394 => (if (bt394.1 == x380000 && (bt394.2.1 == x380001)) = true then (if bt394.2.2 = true then (if x386000 ≥ 0 then (if x386000 < x1 then (if x386001 ≥ 0 then (if x386001 < x1 then ((zelligelaw06_lives.f k).bind fun t398 => (some t398)) else (some false)) else (some false)) else (some false)) else (some false)) else (some false)) else (some false))) else ((zelligelaw06_lives.f k).bind fun t399 => (some t399)))
def zelligelaw06_LiftHomes.f (k : Nat) (a0_0 : Int) (a0_1 : Int) (a1 : Int) : Option (Bool) := (lift_Home.f k a0_0 a0_1 a1).bind fun bt380 => ((zelligeref06_Home.f a0_0 a0_1 a1).bind fun bt387 => (if (!(bt380.1 == bt387.1) || (!(bt380.2.1 == bt387.2.1))) = true then (zelligelaw06_LiftHomes.j0 k a1 bt380.2.2.2.2 true a0_0 a0_1 bt380.1 bt380.2.1 bt380.2.2.1 bt380.2.2.2.1) else (if (!(bt380.2.2.1 == bt387.2.2.1) || (!(bt380.2.2.2.1 == bt387.2.2.2.1))) = true then (zelligelaw06_LiftHomes.j0 k a1 bt380.2.2.2.2 true a0_0 a0_1 bt380.1 bt380.2.1 bt380.2.2.1 bt380.2.2.2.1) else (zelligelaw06_LiftHomes.j0 k a1 bt380.2.2.2.2 (bt380.2.2.2.2 != bt387.2.2.2.2) a0_0 a0_1 bt380.1 bt380.2.1 bt380.2.2.1 bt380.2.2.2.1))))
theorem zelligelaw06_LiftHomes.mono_l : ∀ k, (∀ y0 y1 y2 y3 y4 y5 y6 y7 y8, LeO (zelligelaw06_LiftHomes.j0 k y0 y1 y2 y3 y4 y5 y6 y7 y8) (zelligelaw06_LiftHomes.j0 (k + 1) y0 y1 y2 y3 y4 y5 y6 y7 y8))
  | 0 => fun _ _ _ _ _ _ _ _ _ r h => by simp [zelligelaw06_LiftHomes.j0] at h
  | k + 1 => by
    have ih0 := zelligelaw06_LiftHomes.mono_l k
    · intro y0 y1 y2 y3 y4 y5 y6 y7 y8
      unfold zelligelaw06_LiftHomes.j0
      repeat' first
      | (with_reducible exact ih0 _ _ _ _ _ _ _ _ _)
      | (with_reducible exact lift_At.mono _ _ _ _ _ _)
      | (with_reducible exact lift_Home.mono _ _ _ _)
      | (with_reducible exact zelligelaw06_lives.mono _)
      | (with_reducible exact LeO.refl _)
      | (with_reducible exact LeO.none _)
      | (with_reducible refine LeO.ite ?_ ?_)
      | (with_reducible refine LeO.bind ?_ (fun _ => ?_))
      | exact ih0 _ _ _ _ _ _ _ _ _
      | exact lift_At.mono _ _ _ _ _ _
      | exact lift_Home.mono _ _ _ _
      | exact zelligelaw06_lives.mono _
      | exact LeO.none _
      | refine LeO.ite ?_ ?_
      | refine LeO.bind ?_ (fun _ => ?_)
theorem zelligelaw06_LiftHomes.mono : ∀ a0 a1 a2 k, LeO (zelligelaw06_LiftHomes.f k a0 a1 a2) (zelligelaw06_LiftHomes.f (k + 1) a0 a1 a2) := by
  intro a0 a1 a2 k
  have ih0 := zelligelaw06_LiftHomes.mono_l k
  unfold zelligelaw06_LiftHomes.f
  repeat' first
      | (with_reducible exact ih0 _ _ _ _ _ _ _ _ _)
      | (with_reducible exact lift_At.mono _ _ _ _ _ _)
      | (with_reducible exact lift_Home.mono _ _ _ _)
      | (with_reducible exact zelligelaw06_lives.mono _)
      | (with_reducible exact LeO.refl _)
      | (with_reducible exact LeO.none _)
      | (with_reducible refine LeO.ite ?_ ?_)
      | (with_reducible refine LeO.bind ?_ (fun _ => ?_))
      | exact ih0 _ _ _ _ _ _ _ _ _
      | exact lift_At.mono _ _ _ _ _ _
      | exact lift_Home.mono _ _ _ _
      | exact zelligelaw06_lives.mono _
      | exact LeO.none _
      | refine LeO.ite ?_ ?_
      | refine LeO.bind ?_ (fun _ => ?_)
set_option maxHeartbeats 8000000 in
set_option maxRecDepth 100000 in
theorem zelligelaw06_LiftHomes.calls (k : Nat) (a0_0 : Int) (a0_1 : Int) (a1 : Int) (r : Bool) (w : World) (h : zelligelaw06_LiftHomes.f k a0_0 a0_1 a1 = some r) :
    Calls Try.prog 4 #[.agg #[.int .i64 a0_0, .int .i64 a0_1], .int .i64 a1] w fun e w' => e = .returned (.bool r) ∧ Below w.heap.size w w' := by
  have hu28 := Try.underlying28
  have hu23 := Try.underlying23
  have HB := Aside0.mk (Below.refl w.heap.size w)
  have H : ((lift_Home.f k a0_0 a0_1 a1).bind fun bt380 => ((zelligeref06_Home.f a0_0 a0_1 a1).bind fun bt387 => (if (!(bt380.1 == bt387.1) || (!(bt380.2.1 == bt387.2.1))) = true then (zelligelaw06_LiftHomes.j0 k a1 bt380.2.2.2.2 true a0_0 a0_1 bt380.1 bt380.2.1 bt380.2.2.1 bt380.2.2.2.1) else (if (!(bt380.2.2.1 == bt387.2.2.1) || (!(bt380.2.2.2.1 == bt387.2.2.2.1))) = true then (zelligelaw06_LiftHomes.j0 k a1 bt380.2.2.2.2 true a0_0 a0_1 bt380.1 bt380.2.1 bt380.2.2.1 bt380.2.2.2.1) else (zelligelaw06_LiftHomes.j0 k a1 bt380.2.2.2.2 (bt380.2.2.2.2 != bt387.2.2.2.2) a0_0 a0_1 bt380.1 bt380.2.1 bt380.2.2.1 bt380.2.2.2.1))))) = some r := h
  clear h
  replace H := Option.bind_eq_some_iff.mp H
  obtain ⟨⟨t380, t381, t382, t383, t384⟩, A30, H⟩ := H
  replace H : ((zelligeref06_Home.f a0_0 a0_1 a1).bind fun bt387 => (if (!(t380 == bt387.1) || (!(t381 == bt387.2.1))) = true then (zelligelaw06_LiftHomes.j0 k a1 t384 true a0_0 a0_1 t380 t381 t382 t383) else (if (!(t382 == bt387.2.2.1) || (!(t383 == bt387.2.2.2.1))) = true then (zelligelaw06_LiftHomes.j0 k a1 t384 true a0_0 a0_1 t380 t381 t382 t383) else (zelligelaw06_LiftHomes.j0 k a1 t384 (t384 != bt387.2.2.2.2) a0_0 a0_1 t380 t381 t382 t383)))) = some r := H
  have A3 := Aside0.mk A30
  clear A30
  replace H := Option.bind_eq_some_iff.mp H
  obtain ⟨⟨t387, t388, t389, t390, t391⟩, A40, H⟩ := H
  replace H : (if (!(t380 == t387) || (!(t381 == t388))) = true then (zelligelaw06_LiftHomes.j0 k a1 t384 true a0_0 a0_1 t380 t381 t382 t383) else (if (!(t382 == t389) || (!(t383 == t390))) = true then (zelligelaw06_LiftHomes.j0 k a1 t384 true a0_0 a0_1 t380 t381 t382 t383) else (zelligelaw06_LiftHomes.j0 k a1 t384 (t384 != t391) a0_0 a0_1 t380 t381 t382 t383))) = some r := H
  have A4 := Aside0.mk A40
  clear A40
  have HC5 := Aside0.mk H
  clear H
  go_enter Try.func4, Try.ntmps4
  go_upto_region 3 with (first | ((with_reducible refine gate_dst (N := 2) rfl ?_); refine box_event ?hg (N := 2) ?hd (cs := #[.int .i64 a0_0, .int .i64 a0_1]) (t := 28) ?hr ?_; (case hd => rfl); (case hg => rfl); (case hr => first | (go_simp; done) | (go_simp; rfl)); intro gb379 hg w6 hbox hb; have n0_ := Aside0.mk (below_step (by repeat (first | (with_reducible first | exact HB.out | apply below_alloc | apply pw_below_drewN | apply below_drew1) | exact HB.out)) hb); have n1_ := Aside0.mk (hbox); have n2_ := Aside0.mk ((by rw [hg]; exact (below_size (by repeat (first | (with_reducible first | exact HB.out | apply below_alloc | apply pw_below_drewN | apply below_drew1) | exact HB.out))) : w.heap.size ≤ gb379)); have n3_ := Aside0.mk ((by rw [hg]; exact (below_size (by repeat (first | (with_reducible first | exact HB.out | apply below_alloc | apply pw_below_drewN | apply below_drew1) | exact HB.out))) : w.heap.size ≤ gb379)); clear HB; have HB := n0_; have BK379 := n1_; have GW379 := n2_; have GE379 := n3_; clear n0_ n1_ n2_ n3_; clear hb hbox hg; have hcz7_0 : w6.cell? ⟨gb379, 0, none⟩ = some (.int .i64 a0_0) := (blk_cell BK379.out 0).trans rfl; have hcz7_1 : w6.cell? ⟨gb379, 1, none⟩ = some (.int .i64 a0_1) := (blk_cell BK379.out 1).trans rfl; have hfz7_0 := blk_frozen BK379.out 0; have hfz7_1 := blk_frozen BK379.out 1) | ((with_reducible refine gate_callee (f := 11) rfl ?_); refine goesL_ (some 16) rfl rfl Try.func11 (by kernel_rfl) rfl #[.agg #[.int .i64 a0_0, .int .i64 a0_1], .int .i64 a1] rfl (by (try simp only [List.map_toArray, List.map_cons, List.map_nil]); first | done | rfl | (simp only [List.length_drop, List.length_take]; rfl)) ?_; (with_reducible refine (lift_Home.calls k a0_0 a0_1 a1 t380 t381 t382 t383 t384 _ A3.out).mono ?_); rintro e w8 ⟨rfl, hb⟩; refine ⟨_, rfl, ?_⟩; have n0_ := Aside0.mk (blk_below (g := gb379) (o := .cells #[.int .i64 a0_0, .int .i64 a0_1] 28 (0, 0)) (by (with_reducible repeat (first | refine blk_drewN ?_ _ | refine blk_drew ?_ | refine blk_alloc ?_ _)); exact BK379.out) hb); have n1_ := Aside0.mk (below_step (by repeat (first | (with_reducible first | exact HB.out | apply below_alloc | apply pw_below_drewN | apply below_drew1 | refine below_set ?_ GE379.out) | exact HB.out)) hb); clear BK379; clear HB; have BK379 := n0_; have HB := n1_; clear n0_ n1_; (try clear hb); (try clear hb2); (try clear hk); (try clear hi)) | ((with_reducible refine gate_dst (N := 5) rfl ?_); refine box_event ?hg (N := 5) ?hd (cs := #[.int .i64 0, .int .i64 0]) (t := 28) ?hr ?_; (case hd => rfl); (case hg => rfl); (case hr => first | (go_simp; done) | (go_simp; rfl)); intro gb385 hg w9 hbox hb; have n0_ := Aside0.mk (blk_below (g := gb379) (o := .cells #[.int .i64 a0_0, .int .i64 a0_1] 28 (0, 0)) (by (with_reducible repeat (first | refine blk_drewN ?_ _ | refine blk_drew ?_ | refine blk_alloc ?_ _)); exact BK379.out) hb); have n1_ := Aside0.mk (below_step (by repeat (first | (with_reducible first | exact HB.out | apply below_alloc | apply pw_below_drewN | apply below_drew1 | refine below_set ?_ GE379.out) | exact HB.out)) hb); have n2_ := Aside0.mk (hbox); have n3_ := Aside0.mk ((by rw [hg]; exact (below_size (by repeat (first | (with_reducible first | exact HB.out | apply below_alloc | apply pw_below_drewN | apply below_drew1 | refine below_set ?_ GE379.out) | exact HB.out))) : w.heap.size ≤ gb385)); have n4_ := Aside0.mk ((by rw [hg]; exact (below_size (by repeat (first | (with_reducible first | exact HB.out | apply below_alloc | apply pw_below_drewN | apply below_drew1 | refine below_set ?_ GE379.out) | exact HB.out))) : w.heap.size ≤ gb385)); have n5_ := Aside0.mk ((by rw [hg]; exact Nat.ne_of_lt (blk_lt (g := gb379) (o := .cells #[.int .i64 a0_0, .int .i64 a0_1] 28 (0, 0)) (by (with_reducible repeat (first | refine blk_drewN ?_ _ | refine blk_drew ?_ | refine blk_alloc ?_ _)); exact BK379.out)) : gb379 ≠ gb385)); have n6_ := Aside0.mk ((by rw [hg]; exact Nat.ne_of_gt (blk_lt (g := gb379) (o := .cells #[.int .i64 a0_0, .int .i64 a0_1] 28 (0, 0)) (by (with_reducible repeat (first | refine blk_drewN ?_ _ | refine blk_drew ?_ | refine blk_alloc ?_ _)); exact BK379.out)) : gb385 ≠ gb379)); clear BK379; clear HB; have BK379 := n0_; have HB := n1_; have BK385 := n2_; have GW385 := n3_; have GE385 := n4_; have NB379_385 := n5_; have NB385_379 := n6_; clear n0_ n1_ n2_ n3_ n4_ n5_ n6_; clear hb hbox hg) | ((with_reducible refine gate_dst (N := 6) rfl ?_); refine box_event ?hg (N := 6) ?hd (cs := #[.int .i64 0, .int .i64 0]) (t := 23) ?hr ?_; (case hd => rfl); (case hg => rfl); (case hr => first | (go_simp; done) | (go_simp; rfl)); intro gb386 hg w10 hbox hb; have n0_ := Aside0.mk (blk_below (g := gb379) (o := .cells #[.int .i64 a0_0, .int .i64 a0_1] 28 (0, 0)) (by (with_reducible repeat (first | refine blk_drewN ?_ _ | refine blk_drew ?_ | refine blk_alloc ?_ _)); exact BK379.out) hb); have n1_ := Aside0.mk (blk_below (g := gb385) (o := .cells #[.int .i64 0, .int .i64 0] 28 (0, 0)) (by (with_reducible repeat (first | refine blk_drewN ?_ _ | refine blk_drew ?_ | refine blk_alloc ?_ _)); exact BK385.out) hb); have n2_ := Aside0.mk (below_step (by repeat (first | (with_reducible first | exact HB.out | apply below_alloc | apply pw_below_drewN | apply below_drew1 | refine below_set ?_ GE379.out | refine below_set ?_ GE385.out) | exact HB.out)) hb); have n3_ := Aside0.mk (hbox); have n4_ := Aside0.mk ((by rw [hg]; exact (below_size (by repeat (first | (with_reducible first | exact HB.out | apply below_alloc | apply pw_below_drewN | apply below_drew1 | refine below_set ?_ GE379.out | refine below_set ?_ GE385.out) | exact HB.out))) : w.heap.size ≤ gb386)); have n5_ := Aside0.mk ((by rw [hg]; exact (below_size (by repeat (first | (with_reducible first | exact HB.out | apply below_alloc | apply pw_below_drewN | apply below_drew1 | refine below_set ?_ GE379.out | refine below_set ?_ GE385.out) | exact HB.out))) : w.heap.size ≤ gb386)); have n6_ := Aside0.mk ((by rw [hg]; exact Nat.ne_of_lt (blk_lt (g := gb379) (o := .cells #[.int .i64 a0_0, .int .i64 a0_1] 28 (0, 0)) (by (with_reducible repeat (first | refine blk_drewN ?_ _ | refine blk_drew ?_ | refine blk_alloc ?_ _)); exact BK379.out)) : gb379 ≠ gb386)); have n7_ := Aside0.mk ((by rw [hg]; exact Nat.ne_of_gt (blk_lt (g := gb379) (o := .cells #[.int .i64 a0_0, .int .i64 a0_1] 28 (0, 0)) (by (with_reducible repeat (first | refine blk_drewN ?_ _ | refine blk_drew ?_ | refine blk_alloc ?_ _)); exact BK379.out)) : gb386 ≠ gb379)); have n8_ := Aside0.mk ((by rw [hg]; exact Nat.ne_of_lt (blk_lt (g := gb385) (o := .cells #[.int .i64 0, .int .i64 0] 28 (0, 0)) (by (with_reducible repeat (first | refine blk_drewN ?_ _ | refine blk_drew ?_ | refine blk_alloc ?_ _)); exact BK385.out)) : gb385 ≠ gb386)); have n9_ := Aside0.mk ((by rw [hg]; exact Nat.ne_of_gt (blk_lt (g := gb385) (o := .cells #[.int .i64 0, .int .i64 0] 28 (0, 0)) (by (with_reducible repeat (first | refine blk_drewN ?_ _ | refine blk_drew ?_ | refine blk_alloc ?_ _)); exact BK385.out)) : gb386 ≠ gb385)); clear BK379; clear BK385; clear HB; have BK379 := n0_; have BK385 := n1_; have HB := n2_; have BK386 := n3_; have GW386 := n4_; have GE386 := n5_; have NB379_386 := n6_; have NB386_379 := n7_; have NB385_386 := n8_; have NB386_385 := n9_; clear n0_ n1_ n2_ n3_ n4_ n5_ n6_ n7_ n8_ n9_; clear hb hbox hg; have hnb11 := NB385_379.out; have hnc11 := NB379_385.out; have hnb12 := NB385_386.out; have hnc12 := NB386_385.out; have hcz13_0 : w10.cell? ⟨gb385, 0, none⟩ = some (.int .i64 0) := (blk_cell BK385.out 0).trans rfl; have hcz13_1 : w10.cell? ⟨gb385, 1, none⟩ = some (.int .i64 0) := (blk_cell BK385.out 1).trans rfl; have hfz13_0 := blk_frozen BK385.out 0; have hfz13_1 := blk_frozen BK385.out 1; have hnb14 := NB386_379.out; have hnc14 := NB379_386.out; have hcz15_0 : w10.cell? ⟨gb386, 0, none⟩ = some (.int .i64 0) := (blk_cell BK386.out 0).trans rfl; have hcz15_1 : w10.cell? ⟨gb386, 1, none⟩ = some (.int .i64 0) := (blk_cell BK386.out 1).trans rfl; have hfz15_0 := blk_frozen BK386.out 0; have hfz15_1 := blk_frozen BK386.out 1; have hcz16_0 : w10.cell? ⟨gb379, 0, none⟩ = some (.int .i64 a0_0) := (blk_cell BK379.out 0).trans rfl; have hcz16_1 : w10.cell? ⟨gb379, 1, none⟩ = some (.int .i64 a0_1) := (blk_cell BK379.out 1).trans rfl; have hfz16_0 := blk_frozen BK379.out 0; have hfz16_1 := blk_frozen BK379.out 1) | ((with_reducible refine gate_callee (f := 12) rfl ?_); refine goesL_ (some 23) rfl rfl Try.func12 (by kernel_rfl) rfl #[.agg #[.int .i64 a0_0, .int .i64 a0_1], .int .i64 a1] rfl (by (try simp only [List.map_toArray, List.map_cons, List.map_nil]); first | done | rfl | (simp only [List.length_drop, List.length_take]; rfl)) ?_; (with_reducible refine (zelligeref06_Home.calls a0_0 a0_1 a1 t387 t388 t389 t390 t391 _ A4.out).mono ?_); rintro e w17 ⟨rfl, hb⟩; refine ⟨_, rfl, ?_⟩; have n0_ := Aside0.mk (blk_below (g := gb379) (o := .cells #[.int .i64 a0_0, .int .i64 a0_1] 28 (0, 0)) (by (with_reducible repeat (first | refine blk_drewN ?_ _ | refine blk_drew ?_ | refine blk_alloc ?_ _)); refine blk_far ?_ NB379_386.out _; (with_reducible repeat (first | refine blk_drewN ?_ _ | refine blk_drew ?_ | refine blk_alloc ?_ _)); refine blk_far ?_ NB379_386.out _; (with_reducible repeat (first | refine blk_drewN ?_ _ | refine blk_drew ?_ | refine blk_alloc ?_ _)); refine blk_far ?_ NB379_385.out _; (with_reducible repeat (first | refine blk_drewN ?_ _ | refine blk_drew ?_ | refine blk_alloc ?_ _)); refine blk_far ?_ NB379_385.out _; (with_reducible repeat (first | refine blk_drewN ?_ _ | refine blk_drew ?_ | refine blk_alloc ?_ _)); exact BK379.out) hb); have n1_ := Aside0.mk (blk_below (g := gb385) (o := .cells #[.int .i64 t380, .int .i64 t381] 28 (0, 0)) (by (with_reducible repeat (first | refine blk_drewN ?_ _ | refine blk_drew ?_ | refine blk_alloc ?_ _)); refine blk_far ?_ NB385_386.out _; (with_reducible repeat (first | refine blk_drewN ?_ _ | refine blk_drew ?_ | refine blk_alloc ?_ _)); refine blk_far ?_ NB385_386.out _; (with_reducible repeat (first | refine blk_drewN ?_ _ | refine blk_drew ?_ | refine blk_alloc ?_ _)); refine blk_put (cs := #[.int .i64 t380, .int .i64 0]) ?_ 1 _ rfl; (with_reducible repeat (first | refine blk_drewN ?_ _ | refine blk_drew ?_ | refine blk_alloc ?_ _)); refine blk_put (cs := #[.int .i64 0, .int .i64 0]) ?_ 0 _ rfl; (with_reducible repeat (first | refine blk_drewN ?_ _ | refine blk_drew ?_ | refine blk_alloc ?_ _)); exact BK385.out) hb); have n2_ := Aside0.mk (blk_below (g := gb386) (o := .cells #[.int .i64 t382, .int .i64 t383] 23 (0, 0)) (by (with_reducible repeat (first | refine blk_drewN ?_ _ | refine blk_drew ?_ | refine blk_alloc ?_ _)); refine blk_put (cs := #[.int .i64 t382, .int .i64 0]) ?_ 1 _ rfl; (with_reducible repeat (first | refine blk_drewN ?_ _ | refine blk_drew ?_ | refine blk_alloc ?_ _)); refine blk_put (cs := #[.int .i64 0, .int .i64 0]) ?_ 0 _ rfl; (with_reducible repeat (first | refine blk_drewN ?_ _ | refine blk_drew ?_ | refine blk_alloc ?_ _)); refine blk_far ?_ NB386_385.out _; (with_reducible repeat (first | refine blk_drewN ?_ _ | refine blk_drew ?_ | refine blk_alloc ?_ _)); refine blk_far ?_ NB386_385.out _; (with_reducible repeat (first | refine blk_drewN ?_ _ | refine blk_drew ?_ | refine blk_alloc ?_ _)); exact BK386.out) hb); have n3_ := Aside0.mk (below_step (by repeat (first | (with_reducible first | exact HB.out | apply below_alloc | apply pw_below_drewN | apply below_drew1 | refine below_set ?_ GE379.out | refine below_set ?_ GE385.out | refine below_set ?_ GE386.out) | exact HB.out)) hb); clear BK379; clear BK385; clear BK386; clear HB; have BK379 := n0_; have BK385 := n1_; have BK386 := n2_; have HB := n3_; clear n0_ n1_ n2_ n3_; (try clear hb); (try clear hb2); (try clear hk); (try clear hi)) | ((with_reducible refine gate_dst (N := 8) rfl ?_); refine box_event ?hg (N := 8) ?hd (cs := #[.int .i64 0, .int .i64 0]) (t := 28) ?hr ?_; (case hd => rfl); (case hg => rfl); (case hr => first | (go_simp; done) | (go_simp; rfl)); intro gb392 hg w18 hbox hb; have n0_ := Aside0.mk (blk_below (g := gb379) (o := .cells #[.int .i64 a0_0, .int .i64 a0_1] 28 (0, 0)) (by (with_reducible repeat (first | refine blk_drewN ?_ _ | refine blk_drew ?_ | refine blk_alloc ?_ _)); exact BK379.out) hb); have n1_ := Aside0.mk (blk_below (g := gb385) (o := .cells #[.int .i64 t380, .int .i64 t381] 28 (0, 0)) (by (with_reducible repeat (first | refine blk_drewN ?_ _ | refine blk_drew ?_ | refine blk_alloc ?_ _)); exact BK385.out) hb); have n2_ := Aside0.mk (blk_below (g := gb386) (o := .cells #[.int .i64 t382, .int .i64 t383] 23 (0, 0)) (by (with_reducible repeat (first | refine blk_drewN ?_ _ | refine blk_drew ?_ | refine blk_alloc ?_ _)); exact BK386.out) hb); have n3_ := Aside0.mk (below_step (by repeat (first | (with_reducible first | exact HB.out | apply below_alloc | apply pw_below_drewN | apply below_drew1 | refine below_set ?_ GE379.out | refine below_set ?_ GE385.out | refine below_set ?_ GE386.out) | exact HB.out)) hb); have n4_ := Aside0.mk (hbox); have n5_ := Aside0.mk ((by rw [hg]; exact (below_size (by repeat (first | (with_reducible first | exact HB.out | apply below_alloc | apply pw_below_drewN | apply below_drew1 | refine below_set ?_ GE379.out | refine below_set ?_ GE385.out | refine below_set ?_ GE386.out) | exact HB.out))) : w.heap.size ≤ gb392)); have n6_ := Aside0.mk ((by rw [hg]; exact (below_size (by repeat (first | (with_reducible first | exact HB.out | apply below_alloc | apply pw_below_drewN | apply below_drew1 | refine below_set ?_ GE379.out | refine below_set ?_ GE385.out | refine below_set ?_ GE386.out) | exact HB.out))) : w.heap.size ≤ gb392)); have n7_ := Aside0.mk ((by rw [hg]; exact Nat.ne_of_lt (blk_lt (g := gb379) (o := .cells #[.int .i64 a0_0, .int .i64 a0_1] 28 (0, 0)) (by (with_reducible repeat (first | refine blk_drewN ?_ _ | refine blk_drew ?_ | refine blk_alloc ?_ _)); exact BK379.out)) : gb379 ≠ gb392)); have n8_ := Aside0.mk ((by rw [hg]; exact Nat.ne_of_gt (blk_lt (g := gb379) (o := .cells #[.int .i64 a0_0, .int .i64 a0_1] 28 (0, 0)) (by (with_reducible repeat (first | refine blk_drewN ?_ _ | refine blk_drew ?_ | refine blk_alloc ?_ _)); exact BK379.out)) : gb392 ≠ gb379)); have n9_ := Aside0.mk ((by rw [hg]; exact Nat.ne_of_lt (blk_lt (g := gb385) (o := .cells #[.int .i64 t380, .int .i64 t381] 28 (0, 0)) (by (with_reducible repeat (first | refine blk_drewN ?_ _ | refine blk_drew ?_ | refine blk_alloc ?_ _)); exact BK385.out)) : gb385 ≠ gb392)); have n10_ := Aside0.mk ((by rw [hg]; exact Nat.ne_of_gt (blk_lt (g := gb385) (o := .cells #[.int .i64 t380, .int .i64 t381] 28 (0, 0)) (by (with_reducible repeat (first | refine blk_drewN ?_ _ | refine blk_drew ?_ | refine blk_alloc ?_ _)); exact BK385.out)) : gb392 ≠ gb385)); have n11_ := Aside0.mk ((by rw [hg]; exact Nat.ne_of_lt (blk_lt (g := gb386) (o := .cells #[.int .i64 t382, .int .i64 t383] 23 (0, 0)) (by (with_reducible repeat (first | refine blk_drewN ?_ _ | refine blk_drew ?_ | refine blk_alloc ?_ _)); exact BK386.out)) : gb386 ≠ gb392)); have n12_ := Aside0.mk ((by rw [hg]; exact Nat.ne_of_gt (blk_lt (g := gb386) (o := .cells #[.int .i64 t382, .int .i64 t383] 23 (0, 0)) (by (with_reducible repeat (first | refine blk_drewN ?_ _ | refine blk_drew ?_ | refine blk_alloc ?_ _)); exact BK386.out)) : gb392 ≠ gb386)); clear BK379; clear BK385; clear BK386; clear HB; have BK379 := n0_; have BK385 := n1_; have BK386 := n2_; have HB := n3_; have BK392 := n4_; have GW392 := n5_; have GE392 := n6_; have NB379_392 := n7_; have NB392_379 := n8_; have NB385_392 := n9_; have NB392_385 := n10_; have NB386_392 := n11_; have NB392_386 := n12_; clear n0_ n1_ n2_ n3_ n4_ n5_ n6_ n7_ n8_ n9_ n10_ n11_ n12_; clear hb hbox hg) | ((with_reducible refine gate_dst (N := 9) rfl ?_); refine box_event ?hg (N := 9) ?hd (cs := #[.int .i64 0, .int .i64 0]) (t := 23) ?hr ?_; (case hd => rfl); (case hg => rfl); (case hr => first | (go_simp; done) | (go_simp; rfl)); intro gb393 hg w19 hbox hb; have n0_ := Aside0.mk (blk_below (g := gb379) (o := .cells #[.int .i64 a0_0, .int .i64 a0_1] 28 (0, 0)) (by (with_reducible repeat (first | refine blk_drewN ?_ _ | refine blk_drew ?_ | refine blk_alloc ?_ _)); exact BK379.out) hb); have n1_ := Aside0.mk (blk_below (g := gb385) (o := .cells #[.int .i64 t380, .int .i64 t381] 28 (0, 0)) (by (with_reducible repeat (first | refine blk_drewN ?_ _ | refine blk_drew ?_ | refine blk_alloc ?_ _)); exact BK385.out) hb); have n2_ := Aside0.mk (blk_below (g := gb386) (o := .cells #[.int .i64 t382, .int .i64 t383] 23 (0, 0)) (by (with_reducible repeat (first | refine blk_drewN ?_ _ | refine blk_drew ?_ | refine blk_alloc ?_ _)); exact BK386.out) hb); have n3_ := Aside0.mk (blk_below (g := gb392) (o := .cells #[.int .i64 0, .int .i64 0] 28 (0, 0)) (by (with_reducible repeat (first | refine blk_drewN ?_ _ | refine blk_drew ?_ | refine blk_alloc ?_ _)); exact BK392.out) hb); have n4_ := Aside0.mk (below_step (by repeat (first | (with_reducible first | exact HB.out | apply below_alloc | apply pw_below_drewN | apply below_drew1 | refine below_set ?_ GE379.out | refine below_set ?_ GE385.out | refine below_set ?_ GE386.out | refine below_set ?_ GE392.out) | exact HB.out)) hb); have n5_ := Aside0.mk (hbox); have n6_ := Aside0.mk ((by rw [hg]; exact (below_size (by repeat (first | (with_reducible first | exact HB.out | apply below_alloc | apply pw_below_drewN | apply below_drew1 | refine below_set ?_ GE379.out | refine below_set ?_ GE385.out | refine below_set ?_ GE386.out | refine below_set ?_ GE392.out) | exact HB.out))) : w.heap.size ≤ gb393)); have n7_ := Aside0.mk ((by rw [hg]; exact (below_size (by repeat (first | (with_reducible first | exact HB.out | apply below_alloc | apply pw_below_drewN | apply below_drew1 | refine below_set ?_ GE379.out | refine below_set ?_ GE385.out | refine below_set ?_ GE386.out | refine below_set ?_ GE392.out) | exact HB.out))) : w.heap.size ≤ gb393)); have n8_ := Aside0.mk ((by rw [hg]; exact Nat.ne_of_lt (blk_lt (g := gb379) (o := .cells #[.int .i64 a0_0, .int .i64 a0_1] 28 (0, 0)) (by (with_reducible repeat (first | refine blk_drewN ?_ _ | refine blk_drew ?_ | refine blk_alloc ?_ _)); exact BK379.out)) : gb379 ≠ gb393)); have n9_ := Aside0.mk ((by rw [hg]; exact Nat.ne_of_gt (blk_lt (g := gb379) (o := .cells #[.int .i64 a0_0, .int .i64 a0_1] 28 (0, 0)) (by (with_reducible repeat (first | refine blk_drewN ?_ _ | refine blk_drew ?_ | refine blk_alloc ?_ _)); exact BK379.out)) : gb393 ≠ gb379)); have n10_ := Aside0.mk ((by rw [hg]; exact Nat.ne_of_lt (blk_lt (g := gb385) (o := .cells #[.int .i64 t380, .int .i64 t381] 28 (0, 0)) (by (with_reducible repeat (first | refine blk_drewN ?_ _ | refine blk_drew ?_ | refine blk_alloc ?_ _)); exact BK385.out)) : gb385 ≠ gb393)); have n11_ := Aside0.mk ((by rw [hg]; exact Nat.ne_of_gt (blk_lt (g := gb385) (o := .cells #[.int .i64 t380, .int .i64 t381] 28 (0, 0)) (by (with_reducible repeat (first | refine blk_drewN ?_ _ | refine blk_drew ?_ | refine blk_alloc ?_ _)); exact BK385.out)) : gb393 ≠ gb385)); have n12_ := Aside0.mk ((by rw [hg]; exact Nat.ne_of_lt (blk_lt (g := gb386) (o := .cells #[.int .i64 t382, .int .i64 t383] 23 (0, 0)) (by (with_reducible repeat (first | refine blk_drewN ?_ _ | refine blk_drew ?_ | refine blk_alloc ?_ _)); exact BK386.out)) : gb386 ≠ gb393)); have n13_ := Aside0.mk ((by rw [hg]; exact Nat.ne_of_gt (blk_lt (g := gb386) (o := .cells #[.int .i64 t382, .int .i64 t383] 23 (0, 0)) (by (with_reducible repeat (first | refine blk_drewN ?_ _ | refine blk_drew ?_ | refine blk_alloc ?_ _)); exact BK386.out)) : gb393 ≠ gb386)); have n14_ := Aside0.mk ((by rw [hg]; exact Nat.ne_of_lt (blk_lt (g := gb392) (o := .cells #[.int .i64 0, .int .i64 0] 28 (0, 0)) (by (with_reducible repeat (first | refine blk_drewN ?_ _ | refine blk_drew ?_ | refine blk_alloc ?_ _)); exact BK392.out)) : gb392 ≠ gb393)); have n15_ := Aside0.mk ((by rw [hg]; exact Nat.ne_of_gt (blk_lt (g := gb392) (o := .cells #[.int .i64 0, .int .i64 0] 28 (0, 0)) (by (with_reducible repeat (first | refine blk_drewN ?_ _ | refine blk_drew ?_ | refine blk_alloc ?_ _)); exact BK392.out)) : gb393 ≠ gb392)); clear BK379; clear BK385; clear BK386; clear BK392; clear HB; have BK379 := n0_; have BK385 := n1_; have BK386 := n2_; have BK392 := n3_; have HB := n4_; have BK393 := n5_; have GW393 := n6_; have GE393 := n7_; have NB379_393 := n8_; have NB393_379 := n9_; have NB385_393 := n10_; have NB393_385 := n11_; have NB386_393 := n12_; have NB393_386 := n13_; have NB392_393 := n14_; have NB393_392 := n15_; clear n0_ n1_ n2_ n3_ n4_ n5_ n6_ n7_ n8_ n9_ n10_ n11_ n12_ n13_ n14_ n15_; clear hb hbox hg; have hnb20 := NB392_379.out; have hnc20 := NB379_392.out; have hnb21 := NB392_385.out; have hnc21 := NB385_392.out; have hnb22 := NB392_386.out; have hnc22 := NB386_392.out; have hnb23 := NB392_393.out; have hnc23 := NB393_392.out; have hcz24_0 : w19.cell? ⟨gb392, 0, none⟩ = some (.int .i64 0) := (blk_cell BK392.out 0).trans rfl; have hcz24_1 : w19.cell? ⟨gb392, 1, none⟩ = some (.int .i64 0) := (blk_cell BK392.out 1).trans rfl; have hfz24_0 := blk_frozen BK392.out 0; have hfz24_1 := blk_frozen BK392.out 1; have hnb25 := NB393_379.out; have hnc25 := NB379_393.out; have hnb26 := NB393_385.out; have hnc26 := NB385_393.out; have hnb27 := NB393_386.out; have hnc27 := NB386_393.out; have hcz28_0 : w19.cell? ⟨gb393, 0, none⟩ = some (.int .i64 0) := (blk_cell BK393.out 0).trans rfl; have hcz28_1 : w19.cell? ⟨gb393, 1, none⟩ = some (.int .i64 0) := (blk_cell BK393.out 1).trans rfl; have hfz28_0 := blk_frozen BK393.out 0; have hfz28_1 := blk_frozen BK393.out 1))
  (try simp only [Act.put, List.setIfInBounds_toArray, List.set_cons_zero, List.set_cons_succ])
  go_cut [39] (fun v39 wc => ∃ (kq : Nat) (x39_4 : Bool), v39 = .bool x39_4 ∧ Aside0 (zelligelaw06_LiftHomes.j0 kq a1 t384 x39_4 a0_0 a0_1 t380 t381 t382 t383 = some r) ∧ Aside0 (kq ≤ k) ∧ Aside0 (wc.heap[gb379]? = some (.cells #[.int .i64 a0_0, .int .i64 a0_1] 28 (0, 0))) ∧ Aside0 (wc.heap[gb385]? = some (.cells #[.int .i64 t380, .int .i64 t381] 28 (0, 0))) ∧ Aside0 (wc.heap[gb386]? = some (.cells #[.int .i64 t382, .int .i64 t383] 23 (0, 0))) ∧ Aside0 (wc.heap[gb392]? = some (.cells #[.int .i64 t387, .int .i64 t388] 28 (0, 0))) ∧ Aside0 (wc.heap[gb393]? = some (.cells #[.int .i64 t389, .int .i64 t390] 23 (0, 0))) ∧ Aside0 (Below w.heap.size w wc))
  case first =>
    have H := HC5.out
    clear HC5
    by_cases c29 : (!(t380 == t387) || (!(t381 == t388))) = true
    · rw [if_pos c29] at H
      have c29b0 : (!(t380 == t387) || (!(t381 == t388))) = true := c29
      clear c29
      (first | rw [c29b0] | (simp only [i64_w, i32_w]; rw [c29b0]) | skip)
      have H' := Aside0.mk H
      clear H
      have hnb30 := NB385_379.out
      have hnc30 := NB379_385.out
      have hnb31 := NB385_386.out
      have hnc31 := NB386_385.out
      have hnb32 := NB385_392.out
      have hnc32 := NB392_385.out
      have hnb33 := NB385_393.out
      have hnc33 := NB393_385.out
      have hcz34_0 : w19.cell? ⟨gb385, 0, none⟩ = some (.int .i64 t380) := (blk_cell BK385.out 0).trans rfl
      have hcz34_1 : w19.cell? ⟨gb385, 1, none⟩ = some (.int .i64 t381) := (blk_cell BK385.out 1).trans rfl
      have hfz34_0 := blk_frozen BK385.out 0
      have hfz34_1 := blk_frozen BK385.out 1
      have hnb35 := NB392_379.out
      have hnc35 := NB379_392.out
      have hnb36 := NB392_386.out
      have hnc36 := NB386_392.out
      have hnb37 := NB392_393.out
      have hnc37 := NB393_392.out
      have hcz38_0 : w19.cell? ⟨gb392, 0, none⟩ = some (.int .i64 0) := (blk_cell BK392.out 0).trans rfl
      have hcz38_1 : w19.cell? ⟨gb392, 1, none⟩ = some (.int .i64 0) := (blk_cell BK392.out 1).trans rfl
      have hfz38_0 := blk_frozen BK392.out 0
      have hfz38_1 := blk_frozen BK392.out 1
      go_wp2
      go_meet
      case rel => exact ⟨_, (true), (by first | rfl | (simp; done) | (simp [*]; done)), H', ⟨by first | omega | exact Nat.le_refl _⟩, ⟨by (with_reducible repeat (first | refine blk_drewN ?_ _ | refine blk_drew ?_ | refine blk_alloc ?_ _)); refine blk_far ?_ NB379_393.out _; (with_reducible repeat (first | refine blk_drewN ?_ _ | refine blk_drew ?_ | refine blk_alloc ?_ _)); refine blk_far ?_ NB379_393.out _; (with_reducible repeat (first | refine blk_drewN ?_ _ | refine blk_drew ?_ | refine blk_alloc ?_ _)); refine blk_far ?_ NB379_392.out _; (with_reducible repeat (first | refine blk_drewN ?_ _ | refine blk_drew ?_ | refine blk_alloc ?_ _)); refine blk_far ?_ NB379_392.out _; (with_reducible repeat (first | refine blk_drewN ?_ _ | refine blk_drew ?_ | refine blk_alloc ?_ _)); exact BK379.out⟩, ⟨by (with_reducible repeat (first | refine blk_drewN ?_ _ | refine blk_drew ?_ | refine blk_alloc ?_ _)); refine blk_far ?_ NB385_393.out _; (with_reducible repeat (first | refine blk_drewN ?_ _ | refine blk_drew ?_ | refine blk_alloc ?_ _)); refine blk_far ?_ NB385_393.out _; (with_reducible repeat (first | refine blk_drewN ?_ _ | refine blk_drew ?_ | refine blk_alloc ?_ _)); refine blk_far ?_ NB385_392.out _; (with_reducible repeat (first | refine blk_drewN ?_ _ | refine blk_drew ?_ | refine blk_alloc ?_ _)); refine blk_far ?_ NB385_392.out _; (with_reducible repeat (first | refine blk_drewN ?_ _ | refine blk_drew ?_ | refine blk_alloc ?_ _)); exact BK385.out⟩, ⟨by (with_reducible repeat (first | refine blk_drewN ?_ _ | refine blk_drew ?_ | refine blk_alloc ?_ _)); refine blk_far ?_ NB386_393.out _; (with_reducible repeat (first | refine blk_drewN ?_ _ | refine blk_drew ?_ | refine blk_alloc ?_ _)); refine blk_far ?_ NB386_393.out _; (with_reducible repeat (first | refine blk_drewN ?_ _ | refine blk_drew ?_ | refine blk_alloc ?_ _)); refine blk_far ?_ NB386_392.out _; (with_reducible repeat (first | refine blk_drewN ?_ _ | refine blk_drew ?_ | refine blk_alloc ?_ _)); refine blk_far ?_ NB386_392.out _; (with_reducible repeat (first | refine blk_drewN ?_ _ | refine blk_drew ?_ | refine blk_alloc ?_ _)); exact BK386.out⟩, ⟨by (with_reducible repeat (first | refine blk_drewN ?_ _ | refine blk_drew ?_ | refine blk_alloc ?_ _)); refine blk_far ?_ NB392_393.out _; (with_reducible repeat (first | refine blk_drewN ?_ _ | refine blk_drew ?_ | refine blk_alloc ?_ _)); refine blk_far ?_ NB392_393.out _; (with_reducible repeat (first | refine blk_drewN ?_ _ | refine blk_drew ?_ | refine blk_alloc ?_ _)); refine blk_put (cs := #[.int .i64 t387, .int .i64 0]) ?_ 1 _ rfl; (with_reducible repeat (first | refine blk_drewN ?_ _ | refine blk_drew ?_ | refine blk_alloc ?_ _)); refine blk_put (cs := #[.int .i64 0, .int .i64 0]) ?_ 0 _ rfl; (with_reducible repeat (first | refine blk_drewN ?_ _ | refine blk_drew ?_ | refine blk_alloc ?_ _)); exact BK392.out⟩, ⟨by (with_reducible repeat (first | refine blk_drewN ?_ _ | refine blk_drew ?_ | refine blk_alloc ?_ _)); refine blk_put (cs := #[.int .i64 t389, .int .i64 0]) ?_ 1 _ rfl; (with_reducible repeat (first | refine blk_drewN ?_ _ | refine blk_drew ?_ | refine blk_alloc ?_ _)); refine blk_put (cs := #[.int .i64 0, .int .i64 0]) ?_ 0 _ rfl; (with_reducible repeat (first | refine blk_drewN ?_ _ | refine blk_drew ?_ | refine blk_alloc ?_ _)); refine blk_far ?_ NB393_392.out _; (with_reducible repeat (first | refine blk_drewN ?_ _ | refine blk_drew ?_ | refine blk_alloc ?_ _)); refine blk_far ?_ NB393_392.out _; (with_reducible repeat (first | refine blk_drewN ?_ _ | refine blk_drew ?_ | refine blk_alloc ?_ _)); exact BK393.out⟩, ⟨by repeat (first | (with_reducible first | exact HB.out | apply below_alloc | apply pw_below_drewN | apply below_drew1 | refine below_set ?_ GE379.out | refine below_set ?_ GE385.out | refine below_set ?_ GE386.out | refine below_set ?_ GE392.out | refine below_set ?_ GE393.out) | exact HB.out)⟩⟩
    · rw [if_neg c29] at H
      have c29b0 : (!(t380 == t387) || (!(t381 == t388))) = false := by simpa using c29
      clear c29
      (first | rw [c29b0] | (simp only [i64_w, i32_w]; rw [c29b0]) | skip)
      by_cases c39 : (!(t382 == t389) || (!(t383 == t390))) = true
      · rw [if_pos c39] at H
        have c39b0 : (!(t382 == t389) || (!(t383 == t390))) = true := c39
        clear c39
        have H' := Aside0.mk H
        clear H
        have hnb40 := NB385_379.out
        have hnc40 := NB379_385.out
        have hnb41 := NB385_386.out
        have hnc41 := NB386_385.out
        have hnb42 := NB385_392.out
        have hnc42 := NB392_385.out
        have hnb43 := NB385_393.out
        have hnc43 := NB393_385.out
        have hcz44_0 : w19.cell? ⟨gb385, 0, none⟩ = some (.int .i64 t380) := (blk_cell BK385.out 0).trans rfl
        have hcz44_1 : w19.cell? ⟨gb385, 1, none⟩ = some (.int .i64 t381) := (blk_cell BK385.out 1).trans rfl
        have hfz44_0 := blk_frozen BK385.out 0
        have hfz44_1 := blk_frozen BK385.out 1
        have hnb45 := NB392_379.out
        have hnc45 := NB379_392.out
        have hnb46 := NB392_386.out
        have hnc46 := NB386_392.out
        have hnb47 := NB392_393.out
        have hnc47 := NB393_392.out
        have hcz48_0 : w19.cell? ⟨gb392, 0, none⟩ = some (.int .i64 0) := (blk_cell BK392.out 0).trans rfl
        have hcz48_1 : w19.cell? ⟨gb392, 1, none⟩ = some (.int .i64 0) := (blk_cell BK392.out 1).trans rfl
        have hfz48_0 := blk_frozen BK392.out 0
        have hfz48_1 := blk_frozen BK392.out 1
        have hnb49 := NB386_379.out
        have hnc49 := NB379_386.out
        have hnb50 := NB386_393.out
        have hnc50 := NB393_386.out
        have hcz51_0 : w19.cell? ⟨gb386, 0, none⟩ = some (.int .i64 t382) := (blk_cell BK386.out 0).trans rfl
        have hcz51_1 : w19.cell? ⟨gb386, 1, none⟩ = some (.int .i64 t383) := (blk_cell BK386.out 1).trans rfl
        have hfz51_0 := blk_frozen BK386.out 0
        have hfz51_1 := blk_frozen BK386.out 1
        have hnb52 := NB393_379.out
        have hnc52 := NB379_393.out
        have hcz53_0 : w19.cell? ⟨gb393, 0, none⟩ = some (.int .i64 0) := (blk_cell BK393.out 0).trans rfl
        have hcz53_1 : w19.cell? ⟨gb393, 1, none⟩ = some (.int .i64 0) := (blk_cell BK393.out 1).trans rfl
        have hfz53_0 := blk_frozen BK393.out 0
        have hfz53_1 := blk_frozen BK393.out 1
        go_wp2
        go_meet
        case rel => exact ⟨_, (true), (by first | rfl | (simp; done) | (simp [*]; done)), H', ⟨by first | omega | exact Nat.le_refl _⟩, ⟨by (with_reducible repeat (first | refine blk_drewN ?_ _ | refine blk_drew ?_ | refine blk_alloc ?_ _)); refine blk_far ?_ NB379_393.out _; (with_reducible repeat (first | refine blk_drewN ?_ _ | refine blk_drew ?_ | refine blk_alloc ?_ _)); refine blk_far ?_ NB379_393.out _; (with_reducible repeat (first | refine blk_drewN ?_ _ | refine blk_drew ?_ | refine blk_alloc ?_ _)); refine blk_far ?_ NB379_392.out _; (with_reducible repeat (first | refine blk_drewN ?_ _ | refine blk_drew ?_ | refine blk_alloc ?_ _)); refine blk_far ?_ NB379_392.out _; (with_reducible repeat (first | refine blk_drewN ?_ _ | refine blk_drew ?_ | refine blk_alloc ?_ _)); exact BK379.out⟩, ⟨by (with_reducible repeat (first | refine blk_drewN ?_ _ | refine blk_drew ?_ | refine blk_alloc ?_ _)); refine blk_far ?_ NB385_393.out _; (with_reducible repeat (first | refine blk_drewN ?_ _ | refine blk_drew ?_ | refine blk_alloc ?_ _)); refine blk_far ?_ NB385_393.out _; (with_reducible repeat (first | refine blk_drewN ?_ _ | refine blk_drew ?_ | refine blk_alloc ?_ _)); refine blk_far ?_ NB385_392.out _; (with_reducible repeat (first | refine blk_drewN ?_ _ | refine blk_drew ?_ | refine blk_alloc ?_ _)); refine blk_far ?_ NB385_392.out _; (with_reducible repeat (first | refine blk_drewN ?_ _ | refine blk_drew ?_ | refine blk_alloc ?_ _)); exact BK385.out⟩, ⟨by (with_reducible repeat (first | refine blk_drewN ?_ _ | refine blk_drew ?_ | refine blk_alloc ?_ _)); refine blk_far ?_ NB386_393.out _; (with_reducible repeat (first | refine blk_drewN ?_ _ | refine blk_drew ?_ | refine blk_alloc ?_ _)); refine blk_far ?_ NB386_393.out _; (with_reducible repeat (first | refine blk_drewN ?_ _ | refine blk_drew ?_ | refine blk_alloc ?_ _)); refine blk_far ?_ NB386_392.out _; (with_reducible repeat (first | refine blk_drewN ?_ _ | refine blk_drew ?_ | refine blk_alloc ?_ _)); refine blk_far ?_ NB386_392.out _; (with_reducible repeat (first | refine blk_drewN ?_ _ | refine blk_drew ?_ | refine blk_alloc ?_ _)); exact BK386.out⟩, ⟨by (with_reducible repeat (first | refine blk_drewN ?_ _ | refine blk_drew ?_ | refine blk_alloc ?_ _)); refine blk_far ?_ NB392_393.out _; (with_reducible repeat (first | refine blk_drewN ?_ _ | refine blk_drew ?_ | refine blk_alloc ?_ _)); refine blk_far ?_ NB392_393.out _; (with_reducible repeat (first | refine blk_drewN ?_ _ | refine blk_drew ?_ | refine blk_alloc ?_ _)); refine blk_put (cs := #[.int .i64 t387, .int .i64 0]) ?_ 1 _ rfl; (with_reducible repeat (first | refine blk_drewN ?_ _ | refine blk_drew ?_ | refine blk_alloc ?_ _)); refine blk_put (cs := #[.int .i64 0, .int .i64 0]) ?_ 0 _ rfl; (with_reducible repeat (first | refine blk_drewN ?_ _ | refine blk_drew ?_ | refine blk_alloc ?_ _)); exact BK392.out⟩, ⟨by (with_reducible repeat (first | refine blk_drewN ?_ _ | refine blk_drew ?_ | refine blk_alloc ?_ _)); refine blk_put (cs := #[.int .i64 t389, .int .i64 0]) ?_ 1 _ rfl; (with_reducible repeat (first | refine blk_drewN ?_ _ | refine blk_drew ?_ | refine blk_alloc ?_ _)); refine blk_put (cs := #[.int .i64 0, .int .i64 0]) ?_ 0 _ rfl; (with_reducible repeat (first | refine blk_drewN ?_ _ | refine blk_drew ?_ | refine blk_alloc ?_ _)); refine blk_far ?_ NB393_392.out _; (with_reducible repeat (first | refine blk_drewN ?_ _ | refine blk_drew ?_ | refine blk_alloc ?_ _)); refine blk_far ?_ NB393_392.out _; (with_reducible repeat (first | refine blk_drewN ?_ _ | refine blk_drew ?_ | refine blk_alloc ?_ _)); exact BK393.out⟩, ⟨by repeat (first | (with_reducible first | exact HB.out | apply below_alloc | apply pw_below_drewN | apply below_drew1 | refine below_set ?_ GE379.out | refine below_set ?_ GE385.out | refine below_set ?_ GE386.out | refine below_set ?_ GE392.out | refine below_set ?_ GE393.out) | exact HB.out)⟩⟩
      · rw [if_neg c39] at H
        have c39b0 : (!(t382 == t389) || (!(t383 == t390))) = false := by simpa using c39
        clear c39
        have H' := Aside0.mk H
        clear H
        have hnb54 := NB385_379.out
        have hnc54 := NB379_385.out
        have hnb55 := NB385_386.out
        have hnc55 := NB386_385.out
        have hnb56 := NB385_392.out
        have hnc56 := NB392_385.out
        have hnb57 := NB385_393.out
        have hnc57 := NB393_385.out
        have hcz58_0 : w19.cell? ⟨gb385, 0, none⟩ = some (.int .i64 t380) := (blk_cell BK385.out 0).trans rfl
        have hcz58_1 : w19.cell? ⟨gb385, 1, none⟩ = some (.int .i64 t381) := (blk_cell BK385.out 1).trans rfl
        have hfz58_0 := blk_frozen BK385.out 0
        have hfz58_1 := blk_frozen BK385.out 1
        have hnb59 := NB392_379.out
        have hnc59 := NB379_392.out
        have hnb60 := NB392_386.out
        have hnc60 := NB386_392.out
        have hnb61 := NB392_393.out
        have hnc61 := NB393_392.out
        have hcz62_0 : w19.cell? ⟨gb392, 0, none⟩ = some (.int .i64 0) := (blk_cell BK392.out 0).trans rfl
        have hcz62_1 : w19.cell? ⟨gb392, 1, none⟩ = some (.int .i64 0) := (blk_cell BK392.out 1).trans rfl
        have hfz62_0 := blk_frozen BK392.out 0
        have hfz62_1 := blk_frozen BK392.out 1
        have hnb63 := NB386_379.out
        have hnc63 := NB379_386.out
        have hnb64 := NB386_393.out
        have hnc64 := NB393_386.out
        have hcz65_0 : w19.cell? ⟨gb386, 0, none⟩ = some (.int .i64 t382) := (blk_cell BK386.out 0).trans rfl
        have hcz65_1 : w19.cell? ⟨gb386, 1, none⟩ = some (.int .i64 t383) := (blk_cell BK386.out 1).trans rfl
        have hfz65_0 := blk_frozen BK386.out 0
        have hfz65_1 := blk_frozen BK386.out 1
        have hnb66 := NB393_379.out
        have hnc66 := NB379_393.out
        have hcz67_0 : w19.cell? ⟨gb393, 0, none⟩ = some (.int .i64 0) := (blk_cell BK393.out 0).trans rfl
        have hcz67_1 : w19.cell? ⟨gb393, 1, none⟩ = some (.int .i64 0) := (blk_cell BK393.out 1).trans rfl
        have hfz67_0 := blk_frozen BK393.out 0
        have hfz67_1 := blk_frozen BK393.out 1
        go_wp2
        go_meet
        case rel => exact ⟨_, ((t384 != t391)), (by first | rfl | (simp; done) | (simp [*]; done)), H', ⟨by first | omega | exact Nat.le_refl _⟩, ⟨by (with_reducible repeat (first | refine blk_drewN ?_ _ | refine blk_drew ?_ | refine blk_alloc ?_ _)); refine blk_far ?_ NB379_393.out _; (with_reducible repeat (first | refine blk_drewN ?_ _ | refine blk_drew ?_ | refine blk_alloc ?_ _)); refine blk_far ?_ NB379_393.out _; (with_reducible repeat (first | refine blk_drewN ?_ _ | refine blk_drew ?_ | refine blk_alloc ?_ _)); refine blk_far ?_ NB379_392.out _; (with_reducible repeat (first | refine blk_drewN ?_ _ | refine blk_drew ?_ | refine blk_alloc ?_ _)); refine blk_far ?_ NB379_392.out _; (with_reducible repeat (first | refine blk_drewN ?_ _ | refine blk_drew ?_ | refine blk_alloc ?_ _)); exact BK379.out⟩, ⟨by (with_reducible repeat (first | refine blk_drewN ?_ _ | refine blk_drew ?_ | refine blk_alloc ?_ _)); refine blk_far ?_ NB385_393.out _; (with_reducible repeat (first | refine blk_drewN ?_ _ | refine blk_drew ?_ | refine blk_alloc ?_ _)); refine blk_far ?_ NB385_393.out _; (with_reducible repeat (first | refine blk_drewN ?_ _ | refine blk_drew ?_ | refine blk_alloc ?_ _)); refine blk_far ?_ NB385_392.out _; (with_reducible repeat (first | refine blk_drewN ?_ _ | refine blk_drew ?_ | refine blk_alloc ?_ _)); refine blk_far ?_ NB385_392.out _; (with_reducible repeat (first | refine blk_drewN ?_ _ | refine blk_drew ?_ | refine blk_alloc ?_ _)); exact BK385.out⟩, ⟨by (with_reducible repeat (first | refine blk_drewN ?_ _ | refine blk_drew ?_ | refine blk_alloc ?_ _)); refine blk_far ?_ NB386_393.out _; (with_reducible repeat (first | refine blk_drewN ?_ _ | refine blk_drew ?_ | refine blk_alloc ?_ _)); refine blk_far ?_ NB386_393.out _; (with_reducible repeat (first | refine blk_drewN ?_ _ | refine blk_drew ?_ | refine blk_alloc ?_ _)); refine blk_far ?_ NB386_392.out _; (with_reducible repeat (first | refine blk_drewN ?_ _ | refine blk_drew ?_ | refine blk_alloc ?_ _)); refine blk_far ?_ NB386_392.out _; (with_reducible repeat (first | refine blk_drewN ?_ _ | refine blk_drew ?_ | refine blk_alloc ?_ _)); exact BK386.out⟩, ⟨by (with_reducible repeat (first | refine blk_drewN ?_ _ | refine blk_drew ?_ | refine blk_alloc ?_ _)); refine blk_far ?_ NB392_393.out _; (with_reducible repeat (first | refine blk_drewN ?_ _ | refine blk_drew ?_ | refine blk_alloc ?_ _)); refine blk_far ?_ NB392_393.out _; (with_reducible repeat (first | refine blk_drewN ?_ _ | refine blk_drew ?_ | refine blk_alloc ?_ _)); refine blk_put (cs := #[.int .i64 t387, .int .i64 0]) ?_ 1 _ rfl; (with_reducible repeat (first | refine blk_drewN ?_ _ | refine blk_drew ?_ | refine blk_alloc ?_ _)); refine blk_put (cs := #[.int .i64 0, .int .i64 0]) ?_ 0 _ rfl; (with_reducible repeat (first | refine blk_drewN ?_ _ | refine blk_drew ?_ | refine blk_alloc ?_ _)); exact BK392.out⟩, ⟨by (with_reducible repeat (first | refine blk_drewN ?_ _ | refine blk_drew ?_ | refine blk_alloc ?_ _)); refine blk_put (cs := #[.int .i64 t389, .int .i64 0]) ?_ 1 _ rfl; (with_reducible repeat (first | refine blk_drewN ?_ _ | refine blk_drew ?_ | refine blk_alloc ?_ _)); refine blk_put (cs := #[.int .i64 0, .int .i64 0]) ?_ 0 _ rfl; (with_reducible repeat (first | refine blk_drewN ?_ _ | refine blk_drew ?_ | refine blk_alloc ?_ _)); refine blk_far ?_ NB393_392.out _; (with_reducible repeat (first | refine blk_drewN ?_ _ | refine blk_drew ?_ | refine blk_alloc ?_ _)); refine blk_far ?_ NB393_392.out _; (with_reducible repeat (first | refine blk_drewN ?_ _ | refine blk_drew ?_ | refine blk_alloc ?_ _)); exact BK393.out⟩, ⟨by repeat (first | (with_reducible first | exact HB.out | apply below_alloc | apply pw_below_drewN | apply below_drew1 | refine below_set ?_ GE379.out | refine below_set ?_ GE385.out | refine below_set ?_ GE386.out | refine below_set ?_ GE392.out | refine below_set ?_ GE393.out) | exact HB.out)⟩⟩
  case rest =>
    clear HC5
    try clear c1
    try clear c2
    try clear p2
    try clear c3
    try clear c4
    try clear c5
    try clear c6
    try clear c11
    try clear c12
    try clear c14
    try clear c20
    try clear c21
    try clear c22
    try clear c23
    try clear c25
    try clear c26
    try clear c27
    try clear c29
    try clear c29b0
    try clear c30
    try clear c31
    try clear c32
    try clear c33
    try clear c35
    try clear c36
    try clear c37
    try clear c39
    try clear c39b0
    try clear c40
    try clear c41
    try clear c42
    try clear c43
    try clear c45
    try clear c46
    try clear c47
    try clear c49
    try clear c50
    try clear c52
    try clear c54
    try clear c55
    try clear c56
    try clear c57
    try clear c59
    try clear c60
    try clear c61
    try clear c63
    try clear c64
    try clear c66
    try clear hcz13_0
    try clear hcz13_1
    try clear hcz15_0
    try clear hcz15_1
    try clear hcz16_0
    try clear hcz16_1
    try clear hcz24_0
    try clear hcz24_1
    try clear hcz28_0
    try clear hcz28_1
    try clear hcz34_0
    try clear hcz34_1
    try clear hcz38_0
    try clear hcz38_1
    try clear hcz44_0
    try clear hcz44_1
    try clear hcz48_0
    try clear hcz48_1
    try clear hcz51_0
    try clear hcz51_1
    try clear hcz53_0
    try clear hcz53_1
    try clear hcz58_0
    try clear hcz58_1
    try clear hcz62_0
    try clear hcz62_1
    try clear hcz65_0
    try clear hcz65_1
    try clear hcz67_0
    try clear hcz67_1
    try clear hcz7_0
    try clear hcz7_1
    try clear hfz13_0
    try clear hfz13_1
    try clear hfz15_0
    try clear hfz15_1
    try clear hfz16_0
    try clear hfz16_1
    try clear hfz24_0
    try clear hfz24_1
    try clear hfz28_0
    try clear hfz28_1
    try clear hfz34_0
    try clear hfz34_1
    try clear hfz38_0
    try clear hfz38_1
    try clear hfz44_0
    try clear hfz44_1
    try clear hfz48_0
    try clear hfz48_1
    try clear hfz51_0
    try clear hfz51_1
    try clear hfz53_0
    try clear hfz53_1
    try clear hfz58_0
    try clear hfz58_1
    try clear hfz62_0
    try clear hfz62_1
    try clear hfz65_0
    try clear hfz65_1
    try clear hfz67_0
    try clear hfz67_1
    try clear hfz7_0
    try clear hfz7_1
    obtain ⟨kq, x39_4, rfl, HA, HJ4, BK379, BK385, BK386, BK392, BK393, HB⟩ := hcut
    cases kq with
    | zero => exact absurd HA.out (by simp [zelligelaw06_LiftHomes.j0])
    | succ kj4 =>
      have H := HA.out
      clear HA
      simp only [zelligelaw06_LiftHomes.j0] at H
      by_cases c68 : x39_4 = true
      · subst c68
        have H1 : (some false) = some r := by rw [if_pos rfl] at H; exact H
        clear H
        have H := H1
        clear H1
        obtain rfl := Option.some.inj H
        go_wp2
        go_ret
        exact ⟨by first | rfl | (simp [errW_none, errW_some] <;> rfl) | (simp [*, errW_none, errW_some] <;> rfl), by repeat (first | (with_reducible first | exact HB.out | apply below_alloc | apply pw_below_drewN | apply below_drew1 | refine below_set ?_ GE379.out | refine below_set ?_ GE385.out | refine below_set ?_ GE386.out | refine below_set ?_ GE392.out | refine below_set ?_ GE393.out) | exact HB.out)⟩
      · replace c68 := Bool.eq_false_iff.mpr c68
        subst c68
        have H1 : (if t384 = true then ((lift_At.f kj4 t380 t381 t382 t383 a1).bind fun bt394 => (if (bt394.1 == a0_0 && (bt394.2.1 == a0_1)) = true then (if bt394.2.2 = true then (if t380 ≥ 0 then (if t380 < a1 then (if t381 ≥ 0 then (if t381 < a1 then ((zelligelaw06_lives.f kj4).bind fun t398 => (some t398)) else (some false)) else (some false)) else (some false)) else (some false)) else (some false)) else (some false))) else ((zelligelaw06_lives.f kj4).bind fun t399 => (some t399))) = some r := by rw [if_neg (show ¬ (false = true) by decide)] at H; exact H
        clear H
        have H := H1
        clear H1
        by_cases c69 : t384 = true
        · subst c69
          have H1 : ((lift_At.f kj4 t380 t381 t382 t383 a1).bind fun bt394 => (if (bt394.1 == a0_0 && (bt394.2.1 == a0_1)) = true then (if bt394.2.2 = true then (if t380 ≥ 0 then (if t380 < a1 then (if t381 ≥ 0 then (if t381 < a1 then ((zelligelaw06_lives.f kj4).bind fun t398 => (some t398)) else (some false)) else (some false)) else (some false)) else (some false)) else (some false)) else (some false))) = some r := by rw [if_pos rfl] at H; exact H
          clear H
          have H := H1
          clear H1
          replace H := Option.bind_eq_some_iff.mp H
          obtain ⟨⟨t394, t395, t396⟩, A700, H⟩ := H
          replace H : (if (t394 == a0_0 && (t395 == a0_1)) = true then (if t396 = true then (if t380 ≥ 0 then (if t380 < a1 then (if t381 ≥ 0 then (if t381 < a1 then ((zelligelaw06_lives.f kj4).bind fun t398 => (some t398)) else (some false)) else (some false)) else (some false)) else (some false)) else (some false)) else (some false)) = some r := H
          have A70 := Aside0.mk A700
          clear A700
          by_cases c71 : (t394 == a0_0 && (t395 == a0_1)) = true
          · rw [if_pos c71] at H
            have c71b0 : (t394 == a0_0 && (t395 == a0_1)) = true := c71
            (try (have c71b1 : decide (t394 = a0_0 && (t395 == a0_1)) = true := by simpa using c71))
            (try (have c71b2 : (t394 == a0_0 && (t395 == a0_1)) = true := by simpa using c71))
            clear c71
            by_cases c72 : t396 = true
            · subst c72
              have H1 : (if t380 ≥ 0 then (if t380 < a1 then (if t381 ≥ 0 then (if t381 < a1 then ((zelligelaw06_lives.f kj4).bind fun t398 => (some t398)) else (some false)) else (some false)) else (some false)) else (some false)) = some r := by rw [if_pos rfl] at H; exact H
              clear H
              have H := H1
              clear H1
              by_cases c73 : t380 ≥ 0
              · rw [if_pos c73] at H
                have c73b0 : decide (0 ≤ t380) = true := decide_eq_true c73
                clear c73
                by_cases c74 : t380 < a1
                · rw [if_pos c74] at H
                  have c74b0 : decide (t380 < a1) = true := decide_eq_true c74
                  clear c74
                  by_cases c75 : t381 ≥ 0
                  · rw [if_pos c75] at H
                    have c75b0 : decide (0 ≤ t381) = true := decide_eq_true c75
                    clear c75
                    by_cases c76 : t381 < a1
                    · rw [if_pos c76] at H
                      have c76b0 : decide (t381 < a1) = true := decide_eq_true c76
                      clear c76
                      replace H := Option.bind_eq_some_iff.mp H
                      obtain ⟨t398, A770, H⟩ := H
                      replace H : (some t398) = some r := H
                      have A77 := Aside0.mk A770
                      clear A770
                      obtain rfl := Option.some.inj H
                      have hnb78 := NB385_379.out
                      have hnc78 := NB379_385.out
                      have hnb79 := NB385_386.out
                      have hnc79 := NB386_385.out
                      have hnb80 := NB385_392.out
                      have hnc80 := NB392_385.out
                      have hnb81 := NB385_393.out
                      have hnc81 := NB393_385.out
                      have hcz82_0 : wc.cell? ⟨gb385, 0, none⟩ = some (.int .i64 t380) := (blk_cell BK385.out 0).trans rfl
                      have hcz82_1 : wc.cell? ⟨gb385, 1, none⟩ = some (.int .i64 t381) := (blk_cell BK385.out 1).trans rfl
                      have hfz82_0 := blk_frozen BK385.out 0
                      have hfz82_1 := blk_frozen BK385.out 1
                      have hnb83 := NB386_379.out
                      have hnc83 := NB379_386.out
                      have hnb84 := NB386_392.out
                      have hnc84 := NB392_386.out
                      have hnb85 := NB386_393.out
                      have hnc85 := NB393_386.out
                      have hcz86_0 : wc.cell? ⟨gb386, 0, none⟩ = some (.int .i64 t382) := (blk_cell BK386.out 0).trans rfl
                      have hcz86_1 : wc.cell? ⟨gb386, 1, none⟩ = some (.int .i64 t383) := (blk_cell BK386.out 1).trans rfl
                      have hfz86_0 := blk_frozen BK386.out 0
                      have hfz86_1 := blk_frozen BK386.out 1
                      go_wp2_with (first | ((with_reducible refine gate_callee (f := 13) rfl ?_); refine goesL_ (some 47) rfl rfl Try.func13 (by kernel_rfl) rfl #[.agg #[.int .i64 t380, .int .i64 t381], .agg #[.int .i64 t382, .int .i64 t383], .int .i64 a1] rfl (by (try simp only [List.map_toArray, List.map_cons, List.map_nil]); first | done | rfl | (simp only [List.length_drop, List.length_take]; rfl)) ?_; (with_reducible refine (lift_At.calls kj4 t380 t381 t382 t383 a1 t394 t395 true _ A70.out).mono ?_); rintro e w87 ⟨rfl, hb⟩; refine ⟨_, rfl, ?_⟩; have n0_ := Aside0.mk (blk_below (g := gb379) (o := .cells #[.int .i64 a0_0, .int .i64 a0_1] 28 (0, 0)) (by (with_reducible repeat (first | refine blk_drewN ?_ _ | refine blk_drew ?_ | refine blk_alloc ?_ _)); exact BK379.out) hb); have n1_ := Aside0.mk (blk_below (g := gb385) (o := .cells #[.int .i64 t380, .int .i64 t381] 28 (0, 0)) (by (with_reducible repeat (first | refine blk_drewN ?_ _ | refine blk_drew ?_ | refine blk_alloc ?_ _)); exact BK385.out) hb); have n2_ := Aside0.mk (blk_below (g := gb386) (o := .cells #[.int .i64 t382, .int .i64 t383] 23 (0, 0)) (by (with_reducible repeat (first | refine blk_drewN ?_ _ | refine blk_drew ?_ | refine blk_alloc ?_ _)); exact BK386.out) hb); have n3_ := Aside0.mk (blk_below (g := gb392) (o := .cells #[.int .i64 t387, .int .i64 t388] 28 (0, 0)) (by (with_reducible repeat (first | refine blk_drewN ?_ _ | refine blk_drew ?_ | refine blk_alloc ?_ _)); exact BK392.out) hb); have n4_ := Aside0.mk (blk_below (g := gb393) (o := .cells #[.int .i64 t389, .int .i64 t390] 23 (0, 0)) (by (with_reducible repeat (first | refine blk_drewN ?_ _ | refine blk_drew ?_ | refine blk_alloc ?_ _)); exact BK393.out) hb); have n5_ := Aside0.mk (below_step (by repeat (first | (with_reducible first | exact HB.out | apply below_alloc | apply pw_below_drewN | apply below_drew1 | refine below_set ?_ GE379.out | refine below_set ?_ GE385.out | refine below_set ?_ GE386.out | refine below_set ?_ GE392.out | refine below_set ?_ GE393.out) | exact HB.out)) hb); clear BK379; clear BK385; clear BK386; clear BK392; clear BK393; clear HB; have BK379 := n0_; have BK385 := n1_; have BK386 := n2_; have BK392 := n3_; have BK393 := n4_; have HB := n5_; clear n0_ n1_ n2_ n3_ n4_ n5_; (try clear hb); (try clear hb2); (try clear hk); (try clear hi)) | ((with_reducible refine gate_dst (N := 11) rfl ?_); refine box_event ?hg (N := 11) ?hd (cs := #[.int .i64 0, .int .i64 0]) (t := 28) ?hr ?_; (case hd => rfl); (case hg => rfl); (case hr => first | (go_simp; done) | (go_simp; rfl)); intro gb397 hg w88 hbox hb; have n0_ := Aside0.mk (blk_below (g := gb379) (o := .cells #[.int .i64 a0_0, .int .i64 a0_1] 28 (0, 0)) (by (with_reducible repeat (first | refine blk_drewN ?_ _ | refine blk_drew ?_ | refine blk_alloc ?_ _)); exact BK379.out) hb); have n1_ := Aside0.mk (blk_below (g := gb385) (o := .cells #[.int .i64 t380, .int .i64 t381] 28 (0, 0)) (by (with_reducible repeat (first | refine blk_drewN ?_ _ | refine blk_drew ?_ | refine blk_alloc ?_ _)); exact BK385.out) hb); have n2_ := Aside0.mk (blk_below (g := gb386) (o := .cells #[.int .i64 t382, .int .i64 t383] 23 (0, 0)) (by (with_reducible repeat (first | refine blk_drewN ?_ _ | refine blk_drew ?_ | refine blk_alloc ?_ _)); exact BK386.out) hb); have n3_ := Aside0.mk (blk_below (g := gb392) (o := .cells #[.int .i64 t387, .int .i64 t388] 28 (0, 0)) (by (with_reducible repeat (first | refine blk_drewN ?_ _ | refine blk_drew ?_ | refine blk_alloc ?_ _)); exact BK392.out) hb); have n4_ := Aside0.mk (blk_below (g := gb393) (o := .cells #[.int .i64 t389, .int .i64 t390] 23 (0, 0)) (by (with_reducible repeat (first | refine blk_drewN ?_ _ | refine blk_drew ?_ | refine blk_alloc ?_ _)); exact BK393.out) hb); have n5_ := Aside0.mk (below_step (by repeat (first | (with_reducible first | exact HB.out | apply below_alloc | apply pw_below_drewN | apply below_drew1 | refine below_set ?_ GE379.out | refine below_set ?_ GE385.out | refine below_set ?_ GE386.out | refine below_set ?_ GE392.out | refine below_set ?_ GE393.out) | exact HB.out)) hb); have n6_ := Aside0.mk (hbox); have n7_ := Aside0.mk ((by rw [hg]; exact (below_size (by repeat (first | (with_reducible first | exact HB.out | apply below_alloc | apply pw_below_drewN | apply below_drew1 | refine below_set ?_ GE379.out | refine below_set ?_ GE385.out | refine below_set ?_ GE386.out | refine below_set ?_ GE392.out | refine below_set ?_ GE393.out) | exact HB.out))) : w.heap.size ≤ gb397)); have n8_ := Aside0.mk ((by rw [hg]; exact (below_size (by repeat (first | (with_reducible first | exact HB.out | apply below_alloc | apply pw_below_drewN | apply below_drew1 | refine below_set ?_ GE379.out | refine below_set ?_ GE385.out | refine below_set ?_ GE386.out | refine below_set ?_ GE392.out | refine below_set ?_ GE393.out) | exact HB.out))) : w.heap.size ≤ gb397)); have n9_ := Aside0.mk ((by rw [hg]; exact Nat.ne_of_lt (blk_lt (g := gb379) (o := .cells #[.int .i64 a0_0, .int .i64 a0_1] 28 (0, 0)) (by (with_reducible repeat (first | refine blk_drewN ?_ _ | refine blk_drew ?_ | refine blk_alloc ?_ _)); exact BK379.out)) : gb379 ≠ gb397)); have n10_ := Aside0.mk ((by rw [hg]; exact Nat.ne_of_gt (blk_lt (g := gb379) (o := .cells #[.int .i64 a0_0, .int .i64 a0_1] 28 (0, 0)) (by (with_reducible repeat (first | refine blk_drewN ?_ _ | refine blk_drew ?_ | refine blk_alloc ?_ _)); exact BK379.out)) : gb397 ≠ gb379)); have n11_ := Aside0.mk ((by rw [hg]; exact Nat.ne_of_lt (blk_lt (g := gb385) (o := .cells #[.int .i64 t380, .int .i64 t381] 28 (0, 0)) (by (with_reducible repeat (first | refine blk_drewN ?_ _ | refine blk_drew ?_ | refine blk_alloc ?_ _)); exact BK385.out)) : gb385 ≠ gb397)); have n12_ := Aside0.mk ((by rw [hg]; exact Nat.ne_of_gt (blk_lt (g := gb385) (o := .cells #[.int .i64 t380, .int .i64 t381] 28 (0, 0)) (by (with_reducible repeat (first | refine blk_drewN ?_ _ | refine blk_drew ?_ | refine blk_alloc ?_ _)); exact BK385.out)) : gb397 ≠ gb385)); have n13_ := Aside0.mk ((by rw [hg]; exact Nat.ne_of_lt (blk_lt (g := gb386) (o := .cells #[.int .i64 t382, .int .i64 t383] 23 (0, 0)) (by (with_reducible repeat (first | refine blk_drewN ?_ _ | refine blk_drew ?_ | refine blk_alloc ?_ _)); exact BK386.out)) : gb386 ≠ gb397)); have n14_ := Aside0.mk ((by rw [hg]; exact Nat.ne_of_gt (blk_lt (g := gb386) (o := .cells #[.int .i64 t382, .int .i64 t383] 23 (0, 0)) (by (with_reducible repeat (first | refine blk_drewN ?_ _ | refine blk_drew ?_ | refine blk_alloc ?_ _)); exact BK386.out)) : gb397 ≠ gb386)); have n15_ := Aside0.mk ((by rw [hg]; exact Nat.ne_of_lt (blk_lt (g := gb392) (o := .cells #[.int .i64 t387, .int .i64 t388] 28 (0, 0)) (by (with_reducible repeat (first | refine blk_drewN ?_ _ | refine blk_drew ?_ | refine blk_alloc ?_ _)); exact BK392.out)) : gb392 ≠ gb397)); have n16_ := Aside0.mk ((by rw [hg]; exact Nat.ne_of_gt (blk_lt (g := gb392) (o := .cells #[.int .i64 t387, .int .i64 t388] 28 (0, 0)) (by (with_reducible repeat (first | refine blk_drewN ?_ _ | refine blk_drew ?_ | refine blk_alloc ?_ _)); exact BK392.out)) : gb397 ≠ gb392)); have n17_ := Aside0.mk ((by rw [hg]; exact Nat.ne_of_lt (blk_lt (g := gb393) (o := .cells #[.int .i64 t389, .int .i64 t390] 23 (0, 0)) (by (with_reducible repeat (first | refine blk_drewN ?_ _ | refine blk_drew ?_ | refine blk_alloc ?_ _)); exact BK393.out)) : gb393 ≠ gb397)); have n18_ := Aside0.mk ((by rw [hg]; exact Nat.ne_of_gt (blk_lt (g := gb393) (o := .cells #[.int .i64 t389, .int .i64 t390] 23 (0, 0)) (by (with_reducible repeat (first | refine blk_drewN ?_ _ | refine blk_drew ?_ | refine blk_alloc ?_ _)); exact BK393.out)) : gb397 ≠ gb393)); clear BK379; clear BK385; clear BK386; clear BK392; clear BK393; clear HB; have BK379 := n0_; have BK385 := n1_; have BK386 := n2_; have BK392 := n3_; have BK393 := n4_; have HB := n5_; have BK397 := n6_; have GW397 := n7_; have GE397 := n8_; have NB379_397 := n9_; have NB397_379 := n10_; have NB385_397 := n11_; have NB397_385 := n12_; have NB386_397 := n13_; have NB397_386 := n14_; have NB392_397 := n15_; have NB397_392 := n16_; have NB393_397 := n17_; have NB397_393 := n18_; clear n0_ n1_ n2_ n3_ n4_ n5_ n6_ n7_ n8_ n9_ n10_ n11_ n12_ n13_ n14_ n15_ n16_ n17_ n18_; clear hb hbox hg; have hnb89 := NB397_379.out; have hnc89 := NB379_397.out; have hnb90 := NB397_385.out; have hnc90 := NB385_397.out; have hnb91 := NB397_386.out; have hnc91 := NB386_397.out; have hnb92 := NB397_392.out; have hnc92 := NB392_397.out; have hnb93 := NB397_393.out; have hnc93 := NB393_397.out; have hcz94_0 : w88.cell? ⟨gb397, 0, none⟩ = some (.int .i64 0) := (blk_cell BK397.out 0).trans rfl; have hcz94_1 : w88.cell? ⟨gb397, 1, none⟩ = some (.int .i64 0) := (blk_cell BK397.out 1).trans rfl; have hfz94_0 := blk_frozen BK397.out 0; have hfz94_1 := blk_frozen BK397.out 1; have hnb95 := NB379_392.out; have hnc95 := NB392_379.out; have hnb96 := NB379_393.out; have hnc96 := NB393_379.out; have hcz97_0 : w88.cell? ⟨gb379, 0, none⟩ = some (.int .i64 a0_0) := (blk_cell BK379.out 0).trans rfl; have hcz97_1 : w88.cell? ⟨gb379, 1, none⟩ = some (.int .i64 a0_1) := (blk_cell BK379.out 1).trans rfl; have hfz97_0 := blk_frozen BK379.out 0; have hfz97_1 := blk_frozen BK379.out 1; have hcz98_0 : w88.cell? ⟨gb385, 0, none⟩ = some (.int .i64 t380) := (blk_cell BK385.out 0).trans rfl; have hcz98_1 : w88.cell? ⟨gb385, 1, none⟩ = some (.int .i64 t381) := (blk_cell BK385.out 1).trans rfl; have hfz98_0 := blk_frozen BK385.out 0; have hfz98_1 := blk_frozen BK385.out 1) | (go_at_call 10; (with_reducible refine (zelligelaw06_lives.calls kj4  t398 _ A77.out).mono ?_); rintro e w99 ⟨rfl, hb⟩; have n0_ := Aside0.mk (blk_below (g := gb379) (o := .cells #[.int .i64 a0_0, .int .i64 a0_1] 28 (0, 0)) (by (with_reducible repeat (first | refine blk_drewN ?_ _ | refine blk_drew ?_ | refine blk_alloc ?_ _)); refine blk_far ?_ NB379_397.out _; (with_reducible repeat (first | refine blk_drewN ?_ _ | refine blk_drew ?_ | refine blk_alloc ?_ _)); refine blk_far ?_ NB379_397.out _; (with_reducible repeat (first | refine blk_drewN ?_ _ | refine blk_drew ?_ | refine blk_alloc ?_ _)); exact BK379.out) hb); have n1_ := Aside0.mk (blk_below (g := gb385) (o := .cells #[.int .i64 t380, .int .i64 t381] 28 (0, 0)) (by (with_reducible repeat (first | refine blk_drewN ?_ _ | refine blk_drew ?_ | refine blk_alloc ?_ _)); refine blk_far ?_ NB385_397.out _; (with_reducible repeat (first | refine blk_drewN ?_ _ | refine blk_drew ?_ | refine blk_alloc ?_ _)); refine blk_far ?_ NB385_397.out _; (with_reducible repeat (first | refine blk_drewN ?_ _ | refine blk_drew ?_ | refine blk_alloc ?_ _)); exact BK385.out) hb); have n2_ := Aside0.mk (blk_below (g := gb386) (o := .cells #[.int .i64 t382, .int .i64 t383] 23 (0, 0)) (by (with_reducible repeat (first | refine blk_drewN ?_ _ | refine blk_drew ?_ | refine blk_alloc ?_ _)); refine blk_far ?_ NB386_397.out _; (with_reducible repeat (first | refine blk_drewN ?_ _ | refine blk_drew ?_ | refine blk_alloc ?_ _)); refine blk_far ?_ NB386_397.out _; (with_reducible repeat (first | refine blk_drewN ?_ _ | refine blk_drew ?_ | refine blk_alloc ?_ _)); exact BK386.out) hb); have n3_ := Aside0.mk (blk_below (g := gb392) (o := .cells #[.int .i64 t387, .int .i64 t388] 28 (0, 0)) (by (with_reducible repeat (first | refine blk_drewN ?_ _ | refine blk_drew ?_ | refine blk_alloc ?_ _)); refine blk_far ?_ NB392_397.out _; (with_reducible repeat (first | refine blk_drewN ?_ _ | refine blk_drew ?_ | refine blk_alloc ?_ _)); refine blk_far ?_ NB392_397.out _; (with_reducible repeat (first | refine blk_drewN ?_ _ | refine blk_drew ?_ | refine blk_alloc ?_ _)); exact BK392.out) hb); have n4_ := Aside0.mk (blk_below (g := gb393) (o := .cells #[.int .i64 t389, .int .i64 t390] 23 (0, 0)) (by (with_reducible repeat (first | refine blk_drewN ?_ _ | refine blk_drew ?_ | refine blk_alloc ?_ _)); refine blk_far ?_ NB393_397.out _; (with_reducible repeat (first | refine blk_drewN ?_ _ | refine blk_drew ?_ | refine blk_alloc ?_ _)); refine blk_far ?_ NB393_397.out _; (with_reducible repeat (first | refine blk_drewN ?_ _ | refine blk_drew ?_ | refine blk_alloc ?_ _)); exact BK393.out) hb); have n5_ := Aside0.mk (blk_below (g := gb397) (o := .cells #[.int .i64 t394, .int .i64 t395] 28 (0, 0)) (by (with_reducible repeat (first | refine blk_drewN ?_ _ | refine blk_drew ?_ | refine blk_alloc ?_ _)); refine blk_put (cs := #[.int .i64 t394, .int .i64 0]) ?_ 1 _ rfl; (with_reducible repeat (first | refine blk_drewN ?_ _ | refine blk_drew ?_ | refine blk_alloc ?_ _)); refine blk_put (cs := #[.int .i64 0, .int .i64 0]) ?_ 0 _ rfl; (with_reducible repeat (first | refine blk_drewN ?_ _ | refine blk_drew ?_ | refine blk_alloc ?_ _)); exact BK397.out) hb); have n6_ := Aside0.mk (below_step (by repeat (first | (with_reducible first | exact HB.out | apply below_alloc | apply pw_below_drewN | apply below_drew1 | refine below_set ?_ GE379.out | refine below_set ?_ GE385.out | refine below_set ?_ GE386.out | refine below_set ?_ GE392.out | refine below_set ?_ GE393.out | refine below_set ?_ GE397.out) | exact HB.out)) hb); clear BK379; clear BK385; clear BK386; clear BK392; clear BK393; clear BK397; clear HB; have BK379 := n0_; have BK385 := n1_; have BK386 := n2_; have BK392 := n3_; have BK393 := n4_; have BK397 := n5_; have HB := n6_; clear n0_ n1_ n2_ n3_ n4_ n5_ n6_; (try clear hb); (try clear hb2); (try clear hk); (try clear hi)))
                      go_ret
                      exact ⟨by first | rfl | (simp [errW_none, errW_some] <;> rfl) | (simp [*, errW_none, errW_some] <;> rfl), by repeat (first | (with_reducible first | exact HB.out | apply below_alloc | apply pw_below_drewN | apply below_drew1 | refine below_set ?_ GE379.out | refine below_set ?_ GE385.out | refine below_set ?_ GE386.out | refine below_set ?_ GE392.out | refine below_set ?_ GE393.out | refine below_set ?_ GE397.out) | exact HB.out)⟩
                    · rw [if_neg c76] at H
                      have c76b0 : decide (t381 < a1) = false := decide_eq_false c76
                      clear c76
                      obtain rfl := Option.some.inj H
                      have hnb100 := NB385_379.out
                      have hnc100 := NB379_385.out
                      have hnb101 := NB385_386.out
                      have hnc101 := NB386_385.out
                      have hnb102 := NB385_392.out
                      have hnc102 := NB392_385.out
                      have hnb103 := NB385_393.out
                      have hnc103 := NB393_385.out
                      have hcz104_0 : wc.cell? ⟨gb385, 0, none⟩ = some (.int .i64 t380) := (blk_cell BK385.out 0).trans rfl
                      have hcz104_1 : wc.cell? ⟨gb385, 1, none⟩ = some (.int .i64 t381) := (blk_cell BK385.out 1).trans rfl
                      have hfz104_0 := blk_frozen BK385.out 0
                      have hfz104_1 := blk_frozen BK385.out 1
                      have hnb105 := NB386_379.out
                      have hnc105 := NB379_386.out
                      have hnb106 := NB386_392.out
                      have hnc106 := NB392_386.out
                      have hnb107 := NB386_393.out
                      have hnc107 := NB393_386.out
                      have hcz108_0 : wc.cell? ⟨gb386, 0, none⟩ = some (.int .i64 t382) := (blk_cell BK386.out 0).trans rfl
                      have hcz108_1 : wc.cell? ⟨gb386, 1, none⟩ = some (.int .i64 t383) := (blk_cell BK386.out 1).trans rfl
                      have hfz108_0 := blk_frozen BK386.out 0
                      have hfz108_1 := blk_frozen BK386.out 1
                      go_wp2_with (first | ((with_reducible refine gate_callee (f := 13) rfl ?_); refine goesL_ (some 47) rfl rfl Try.func13 (by kernel_rfl) rfl #[.agg #[.int .i64 t380, .int .i64 t381], .agg #[.int .i64 t382, .int .i64 t383], .int .i64 a1] rfl (by (try simp only [List.map_toArray, List.map_cons, List.map_nil]); first | done | rfl | (simp only [List.length_drop, List.length_take]; rfl)) ?_; (with_reducible refine (lift_At.calls kj4 t380 t381 t382 t383 a1 t394 t395 true _ A70.out).mono ?_); rintro e w109 ⟨rfl, hb⟩; refine ⟨_, rfl, ?_⟩; have n0_ := Aside0.mk (blk_below (g := gb379) (o := .cells #[.int .i64 a0_0, .int .i64 a0_1] 28 (0, 0)) (by (with_reducible repeat (first | refine blk_drewN ?_ _ | refine blk_drew ?_ | refine blk_alloc ?_ _)); exact BK379.out) hb); have n1_ := Aside0.mk (blk_below (g := gb385) (o := .cells #[.int .i64 t380, .int .i64 t381] 28 (0, 0)) (by (with_reducible repeat (first | refine blk_drewN ?_ _ | refine blk_drew ?_ | refine blk_alloc ?_ _)); exact BK385.out) hb); have n2_ := Aside0.mk (blk_below (g := gb386) (o := .cells #[.int .i64 t382, .int .i64 t383] 23 (0, 0)) (by (with_reducible repeat (first | refine blk_drewN ?_ _ | refine blk_drew ?_ | refine blk_alloc ?_ _)); exact BK386.out) hb); have n3_ := Aside0.mk (blk_below (g := gb392) (o := .cells #[.int .i64 t387, .int .i64 t388] 28 (0, 0)) (by (with_reducible repeat (first | refine blk_drewN ?_ _ | refine blk_drew ?_ | refine blk_alloc ?_ _)); exact BK392.out) hb); have n4_ := Aside0.mk (blk_below (g := gb393) (o := .cells #[.int .i64 t389, .int .i64 t390] 23 (0, 0)) (by (with_reducible repeat (first | refine blk_drewN ?_ _ | refine blk_drew ?_ | refine blk_alloc ?_ _)); exact BK393.out) hb); have n5_ := Aside0.mk (below_step (by repeat (first | (with_reducible first | exact HB.out | apply below_alloc | apply pw_below_drewN | apply below_drew1 | refine below_set ?_ GE379.out | refine below_set ?_ GE385.out | refine below_set ?_ GE386.out | refine below_set ?_ GE392.out | refine below_set ?_ GE393.out) | exact HB.out)) hb); clear BK379; clear BK385; clear BK386; clear BK392; clear BK393; clear HB; have BK379 := n0_; have BK385 := n1_; have BK386 := n2_; have BK392 := n3_; have BK393 := n4_; have HB := n5_; clear n0_ n1_ n2_ n3_ n4_ n5_; (try clear hb); (try clear hb2); (try clear hk); (try clear hi)) | ((with_reducible refine gate_dst (N := 11) rfl ?_); refine box_event ?hg (N := 11) ?hd (cs := #[.int .i64 0, .int .i64 0]) (t := 28) ?hr ?_; (case hd => rfl); (case hg => rfl); (case hr => first | (go_simp; done) | (go_simp; rfl)); intro gb397 hg w110 hbox hb; have n0_ := Aside0.mk (blk_below (g := gb379) (o := .cells #[.int .i64 a0_0, .int .i64 a0_1] 28 (0, 0)) (by (with_reducible repeat (first | refine blk_drewN ?_ _ | refine blk_drew ?_ | refine blk_alloc ?_ _)); exact BK379.out) hb); have n1_ := Aside0.mk (blk_below (g := gb385) (o := .cells #[.int .i64 t380, .int .i64 t381] 28 (0, 0)) (by (with_reducible repeat (first | refine blk_drewN ?_ _ | refine blk_drew ?_ | refine blk_alloc ?_ _)); exact BK385.out) hb); have n2_ := Aside0.mk (blk_below (g := gb386) (o := .cells #[.int .i64 t382, .int .i64 t383] 23 (0, 0)) (by (with_reducible repeat (first | refine blk_drewN ?_ _ | refine blk_drew ?_ | refine blk_alloc ?_ _)); exact BK386.out) hb); have n3_ := Aside0.mk (blk_below (g := gb392) (o := .cells #[.int .i64 t387, .int .i64 t388] 28 (0, 0)) (by (with_reducible repeat (first | refine blk_drewN ?_ _ | refine blk_drew ?_ | refine blk_alloc ?_ _)); exact BK392.out) hb); have n4_ := Aside0.mk (blk_below (g := gb393) (o := .cells #[.int .i64 t389, .int .i64 t390] 23 (0, 0)) (by (with_reducible repeat (first | refine blk_drewN ?_ _ | refine blk_drew ?_ | refine blk_alloc ?_ _)); exact BK393.out) hb); have n5_ := Aside0.mk (below_step (by repeat (first | (with_reducible first | exact HB.out | apply below_alloc | apply pw_below_drewN | apply below_drew1 | refine below_set ?_ GE379.out | refine below_set ?_ GE385.out | refine below_set ?_ GE386.out | refine below_set ?_ GE392.out | refine below_set ?_ GE393.out) | exact HB.out)) hb); have n6_ := Aside0.mk (hbox); have n7_ := Aside0.mk ((by rw [hg]; exact (below_size (by repeat (first | (with_reducible first | exact HB.out | apply below_alloc | apply pw_below_drewN | apply below_drew1 | refine below_set ?_ GE379.out | refine below_set ?_ GE385.out | refine below_set ?_ GE386.out | refine below_set ?_ GE392.out | refine below_set ?_ GE393.out) | exact HB.out))) : w.heap.size ≤ gb397)); have n8_ := Aside0.mk ((by rw [hg]; exact (below_size (by repeat (first | (with_reducible first | exact HB.out | apply below_alloc | apply pw_below_drewN | apply below_drew1 | refine below_set ?_ GE379.out | refine below_set ?_ GE385.out | refine below_set ?_ GE386.out | refine below_set ?_ GE392.out | refine below_set ?_ GE393.out) | exact HB.out))) : w.heap.size ≤ gb397)); have n9_ := Aside0.mk ((by rw [hg]; exact Nat.ne_of_lt (blk_lt (g := gb379) (o := .cells #[.int .i64 a0_0, .int .i64 a0_1] 28 (0, 0)) (by (with_reducible repeat (first | refine blk_drewN ?_ _ | refine blk_drew ?_ | refine blk_alloc ?_ _)); exact BK379.out)) : gb379 ≠ gb397)); have n10_ := Aside0.mk ((by rw [hg]; exact Nat.ne_of_gt (blk_lt (g := gb379) (o := .cells #[.int .i64 a0_0, .int .i64 a0_1] 28 (0, 0)) (by (with_reducible repeat (first | refine blk_drewN ?_ _ | refine blk_drew ?_ | refine blk_alloc ?_ _)); exact BK379.out)) : gb397 ≠ gb379)); have n11_ := Aside0.mk ((by rw [hg]; exact Nat.ne_of_lt (blk_lt (g := gb385) (o := .cells #[.int .i64 t380, .int .i64 t381] 28 (0, 0)) (by (with_reducible repeat (first | refine blk_drewN ?_ _ | refine blk_drew ?_ | refine blk_alloc ?_ _)); exact BK385.out)) : gb385 ≠ gb397)); have n12_ := Aside0.mk ((by rw [hg]; exact Nat.ne_of_gt (blk_lt (g := gb385) (o := .cells #[.int .i64 t380, .int .i64 t381] 28 (0, 0)) (by (with_reducible repeat (first | refine blk_drewN ?_ _ | refine blk_drew ?_ | refine blk_alloc ?_ _)); exact BK385.out)) : gb397 ≠ gb385)); have n13_ := Aside0.mk ((by rw [hg]; exact Nat.ne_of_lt (blk_lt (g := gb386) (o := .cells #[.int .i64 t382, .int .i64 t383] 23 (0, 0)) (by (with_reducible repeat (first | refine blk_drewN ?_ _ | refine blk_drew ?_ | refine blk_alloc ?_ _)); exact BK386.out)) : gb386 ≠ gb397)); have n14_ := Aside0.mk ((by rw [hg]; exact Nat.ne_of_gt (blk_lt (g := gb386) (o := .cells #[.int .i64 t382, .int .i64 t383] 23 (0, 0)) (by (with_reducible repeat (first | refine blk_drewN ?_ _ | refine blk_drew ?_ | refine blk_alloc ?_ _)); exact BK386.out)) : gb397 ≠ gb386)); have n15_ := Aside0.mk ((by rw [hg]; exact Nat.ne_of_lt (blk_lt (g := gb392) (o := .cells #[.int .i64 t387, .int .i64 t388] 28 (0, 0)) (by (with_reducible repeat (first | refine blk_drewN ?_ _ | refine blk_drew ?_ | refine blk_alloc ?_ _)); exact BK392.out)) : gb392 ≠ gb397)); have n16_ := Aside0.mk ((by rw [hg]; exact Nat.ne_of_gt (blk_lt (g := gb392) (o := .cells #[.int .i64 t387, .int .i64 t388] 28 (0, 0)) (by (with_reducible repeat (first | refine blk_drewN ?_ _ | refine blk_drew ?_ | refine blk_alloc ?_ _)); exact BK392.out)) : gb397 ≠ gb392)); have n17_ := Aside0.mk ((by rw [hg]; exact Nat.ne_of_lt (blk_lt (g := gb393) (o := .cells #[.int .i64 t389, .int .i64 t390] 23 (0, 0)) (by (with_reducible repeat (first | refine blk_drewN ?_ _ | refine blk_drew ?_ | refine blk_alloc ?_ _)); exact BK393.out)) : gb393 ≠ gb397)); have n18_ := Aside0.mk ((by rw [hg]; exact Nat.ne_of_gt (blk_lt (g := gb393) (o := .cells #[.int .i64 t389, .int .i64 t390] 23 (0, 0)) (by (with_reducible repeat (first | refine blk_drewN ?_ _ | refine blk_drew ?_ | refine blk_alloc ?_ _)); exact BK393.out)) : gb397 ≠ gb393)); clear BK379; clear BK385; clear BK386; clear BK392; clear BK393; clear HB; have BK379 := n0_; have BK385 := n1_; have BK386 := n2_; have BK392 := n3_; have BK393 := n4_; have HB := n5_; have BK397 := n6_; have GW397 := n7_; have GE397 := n8_; have NB379_397 := n9_; have NB397_379 := n10_; have NB385_397 := n11_; have NB397_385 := n12_; have NB386_397 := n13_; have NB397_386 := n14_; have NB392_397 := n15_; have NB397_392 := n16_; have NB393_397 := n17_; have NB397_393 := n18_; clear n0_ n1_ n2_ n3_ n4_ n5_ n6_ n7_ n8_ n9_ n10_ n11_ n12_ n13_ n14_ n15_ n16_ n17_ n18_; clear hb hbox hg; have hnb111 := NB397_379.out; have hnc111 := NB379_397.out; have hnb112 := NB397_385.out; have hnc112 := NB385_397.out; have hnb113 := NB397_386.out; have hnc113 := NB386_397.out; have hnb114 := NB397_392.out; have hnc114 := NB392_397.out; have hnb115 := NB397_393.out; have hnc115 := NB393_397.out; have hcz116_0 : w110.cell? ⟨gb397, 0, none⟩ = some (.int .i64 0) := (blk_cell BK397.out 0).trans rfl; have hcz116_1 : w110.cell? ⟨gb397, 1, none⟩ = some (.int .i64 0) := (blk_cell BK397.out 1).trans rfl; have hfz116_0 := blk_frozen BK397.out 0; have hfz116_1 := blk_frozen BK397.out 1; have hnb117 := NB379_392.out; have hnc117 := NB392_379.out; have hnb118 := NB379_393.out; have hnc118 := NB393_379.out; have hcz119_0 : w110.cell? ⟨gb379, 0, none⟩ = some (.int .i64 a0_0) := (blk_cell BK379.out 0).trans rfl; have hcz119_1 : w110.cell? ⟨gb379, 1, none⟩ = some (.int .i64 a0_1) := (blk_cell BK379.out 1).trans rfl; have hfz119_0 := blk_frozen BK379.out 0; have hfz119_1 := blk_frozen BK379.out 1; have hcz120_0 : w110.cell? ⟨gb385, 0, none⟩ = some (.int .i64 t380) := (blk_cell BK385.out 0).trans rfl; have hcz120_1 : w110.cell? ⟨gb385, 1, none⟩ = some (.int .i64 t381) := (blk_cell BK385.out 1).trans rfl; have hfz120_0 := blk_frozen BK385.out 0; have hfz120_1 := blk_frozen BK385.out 1))
                      go_ret
                      exact ⟨by first | rfl | (simp [errW_none, errW_some] <;> rfl) | (simp [*, errW_none, errW_some] <;> rfl), by repeat (first | (with_reducible first | exact HB.out | apply below_alloc | apply pw_below_drewN | apply below_drew1 | refine below_set ?_ GE379.out | refine below_set ?_ GE385.out | refine below_set ?_ GE386.out | refine below_set ?_ GE392.out | refine below_set ?_ GE393.out | refine below_set ?_ GE397.out) | exact HB.out)⟩
                  · rw [if_neg c75] at H
                    have c75b0 : decide (0 ≤ t381) = false := decide_eq_false c75
                    clear c75
                    obtain rfl := Option.some.inj H
                    have hnb121 := NB385_379.out
                    have hnc121 := NB379_385.out
                    have hnb122 := NB385_386.out
                    have hnc122 := NB386_385.out
                    have hnb123 := NB385_392.out
                    have hnc123 := NB392_385.out
                    have hnb124 := NB385_393.out
                    have hnc124 := NB393_385.out
                    have hcz125_0 : wc.cell? ⟨gb385, 0, none⟩ = some (.int .i64 t380) := (blk_cell BK385.out 0).trans rfl
                    have hcz125_1 : wc.cell? ⟨gb385, 1, none⟩ = some (.int .i64 t381) := (blk_cell BK385.out 1).trans rfl
                    have hfz125_0 := blk_frozen BK385.out 0
                    have hfz125_1 := blk_frozen BK385.out 1
                    have hnb126 := NB386_379.out
                    have hnc126 := NB379_386.out
                    have hnb127 := NB386_392.out
                    have hnc127 := NB392_386.out
                    have hnb128 := NB386_393.out
                    have hnc128 := NB393_386.out
                    have hcz129_0 : wc.cell? ⟨gb386, 0, none⟩ = some (.int .i64 t382) := (blk_cell BK386.out 0).trans rfl
                    have hcz129_1 : wc.cell? ⟨gb386, 1, none⟩ = some (.int .i64 t383) := (blk_cell BK386.out 1).trans rfl
                    have hfz129_0 := blk_frozen BK386.out 0
                    have hfz129_1 := blk_frozen BK386.out 1
                    go_wp2_with (first | ((with_reducible refine gate_callee (f := 13) rfl ?_); refine goesL_ (some 47) rfl rfl Try.func13 (by kernel_rfl) rfl #[.agg #[.int .i64 t380, .int .i64 t381], .agg #[.int .i64 t382, .int .i64 t383], .int .i64 a1] rfl (by (try simp only [List.map_toArray, List.map_cons, List.map_nil]); first | done | rfl | (simp only [List.length_drop, List.length_take]; rfl)) ?_; (with_reducible refine (lift_At.calls kj4 t380 t381 t382 t383 a1 t394 t395 true _ A70.out).mono ?_); rintro e w130 ⟨rfl, hb⟩; refine ⟨_, rfl, ?_⟩; have n0_ := Aside0.mk (blk_below (g := gb379) (o := .cells #[.int .i64 a0_0, .int .i64 a0_1] 28 (0, 0)) (by (with_reducible repeat (first | refine blk_drewN ?_ _ | refine blk_drew ?_ | refine blk_alloc ?_ _)); exact BK379.out) hb); have n1_ := Aside0.mk (blk_below (g := gb385) (o := .cells #[.int .i64 t380, .int .i64 t381] 28 (0, 0)) (by (with_reducible repeat (first | refine blk_drewN ?_ _ | refine blk_drew ?_ | refine blk_alloc ?_ _)); exact BK385.out) hb); have n2_ := Aside0.mk (blk_below (g := gb386) (o := .cells #[.int .i64 t382, .int .i64 t383] 23 (0, 0)) (by (with_reducible repeat (first | refine blk_drewN ?_ _ | refine blk_drew ?_ | refine blk_alloc ?_ _)); exact BK386.out) hb); have n3_ := Aside0.mk (blk_below (g := gb392) (o := .cells #[.int .i64 t387, .int .i64 t388] 28 (0, 0)) (by (with_reducible repeat (first | refine blk_drewN ?_ _ | refine blk_drew ?_ | refine blk_alloc ?_ _)); exact BK392.out) hb); have n4_ := Aside0.mk (blk_below (g := gb393) (o := .cells #[.int .i64 t389, .int .i64 t390] 23 (0, 0)) (by (with_reducible repeat (first | refine blk_drewN ?_ _ | refine blk_drew ?_ | refine blk_alloc ?_ _)); exact BK393.out) hb); have n5_ := Aside0.mk (below_step (by repeat (first | (with_reducible first | exact HB.out | apply below_alloc | apply pw_below_drewN | apply below_drew1 | refine below_set ?_ GE379.out | refine below_set ?_ GE385.out | refine below_set ?_ GE386.out | refine below_set ?_ GE392.out | refine below_set ?_ GE393.out) | exact HB.out)) hb); clear BK379; clear BK385; clear BK386; clear BK392; clear BK393; clear HB; have BK379 := n0_; have BK385 := n1_; have BK386 := n2_; have BK392 := n3_; have BK393 := n4_; have HB := n5_; clear n0_ n1_ n2_ n3_ n4_ n5_; (try clear hb); (try clear hb2); (try clear hk); (try clear hi)) | ((with_reducible refine gate_dst (N := 11) rfl ?_); refine box_event ?hg (N := 11) ?hd (cs := #[.int .i64 0, .int .i64 0]) (t := 28) ?hr ?_; (case hd => rfl); (case hg => rfl); (case hr => first | (go_simp; done) | (go_simp; rfl)); intro gb397 hg w131 hbox hb; have n0_ := Aside0.mk (blk_below (g := gb379) (o := .cells #[.int .i64 a0_0, .int .i64 a0_1] 28 (0, 0)) (by (with_reducible repeat (first | refine blk_drewN ?_ _ | refine blk_drew ?_ | refine blk_alloc ?_ _)); exact BK379.out) hb); have n1_ := Aside0.mk (blk_below (g := gb385) (o := .cells #[.int .i64 t380, .int .i64 t381] 28 (0, 0)) (by (with_reducible repeat (first | refine blk_drewN ?_ _ | refine blk_drew ?_ | refine blk_alloc ?_ _)); exact BK385.out) hb); have n2_ := Aside0.mk (blk_below (g := gb386) (o := .cells #[.int .i64 t382, .int .i64 t383] 23 (0, 0)) (by (with_reducible repeat (first | refine blk_drewN ?_ _ | refine blk_drew ?_ | refine blk_alloc ?_ _)); exact BK386.out) hb); have n3_ := Aside0.mk (blk_below (g := gb392) (o := .cells #[.int .i64 t387, .int .i64 t388] 28 (0, 0)) (by (with_reducible repeat (first | refine blk_drewN ?_ _ | refine blk_drew ?_ | refine blk_alloc ?_ _)); exact BK392.out) hb); have n4_ := Aside0.mk (blk_below (g := gb393) (o := .cells #[.int .i64 t389, .int .i64 t390] 23 (0, 0)) (by (with_reducible repeat (first | refine blk_drewN ?_ _ | refine blk_drew ?_ | refine blk_alloc ?_ _)); exact BK393.out) hb); have n5_ := Aside0.mk (below_step (by repeat (first | (with_reducible first | exact HB.out | apply below_alloc | apply pw_below_drewN | apply below_drew1 | refine below_set ?_ GE379.out | refine below_set ?_ GE385.out | refine below_set ?_ GE386.out | refine below_set ?_ GE392.out | refine below_set ?_ GE393.out) | exact HB.out)) hb); have n6_ := Aside0.mk (hbox); have n7_ := Aside0.mk ((by rw [hg]; exact (below_size (by repeat (first | (with_reducible first | exact HB.out | apply below_alloc | apply pw_below_drewN | apply below_drew1 | refine below_set ?_ GE379.out | refine below_set ?_ GE385.out | refine below_set ?_ GE386.out | refine below_set ?_ GE392.out | refine below_set ?_ GE393.out) | exact HB.out))) : w.heap.size ≤ gb397)); have n8_ := Aside0.mk ((by rw [hg]; exact (below_size (by repeat (first | (with_reducible first | exact HB.out | apply below_alloc | apply pw_below_drewN | apply below_drew1 | refine below_set ?_ GE379.out | refine below_set ?_ GE385.out | refine below_set ?_ GE386.out | refine below_set ?_ GE392.out | refine below_set ?_ GE393.out) | exact HB.out))) : w.heap.size ≤ gb397)); have n9_ := Aside0.mk ((by rw [hg]; exact Nat.ne_of_lt (blk_lt (g := gb379) (o := .cells #[.int .i64 a0_0, .int .i64 a0_1] 28 (0, 0)) (by (with_reducible repeat (first | refine blk_drewN ?_ _ | refine blk_drew ?_ | refine blk_alloc ?_ _)); exact BK379.out)) : gb379 ≠ gb397)); have n10_ := Aside0.mk ((by rw [hg]; exact Nat.ne_of_gt (blk_lt (g := gb379) (o := .cells #[.int .i64 a0_0, .int .i64 a0_1] 28 (0, 0)) (by (with_reducible repeat (first | refine blk_drewN ?_ _ | refine blk_drew ?_ | refine blk_alloc ?_ _)); exact BK379.out)) : gb397 ≠ gb379)); have n11_ := Aside0.mk ((by rw [hg]; exact Nat.ne_of_lt (blk_lt (g := gb385) (o := .cells #[.int .i64 t380, .int .i64 t381] 28 (0, 0)) (by (with_reducible repeat (first | refine blk_drewN ?_ _ | refine blk_drew ?_ | refine blk_alloc ?_ _)); exact BK385.out)) : gb385 ≠ gb397)); have n12_ := Aside0.mk ((by rw [hg]; exact Nat.ne_of_gt (blk_lt (g := gb385) (o := .cells #[.int .i64 t380, .int .i64 t381] 28 (0, 0)) (by (with_reducible repeat (first | refine blk_drewN ?_ _ | refine blk_drew ?_ | refine blk_alloc ?_ _)); exact BK385.out)) : gb397 ≠ gb385)); have n13_ := Aside0.mk ((by rw [hg]; exact Nat.ne_of_lt (blk_lt (g := gb386) (o := .cells #[.int .i64 t382, .int .i64 t383] 23 (0, 0)) (by (with_reducible repeat (first | refine blk_drewN ?_ _ | refine blk_drew ?_ | refine blk_alloc ?_ _)); exact BK386.out)) : gb386 ≠ gb397)); have n14_ := Aside0.mk ((by rw [hg]; exact Nat.ne_of_gt (blk_lt (g := gb386) (o := .cells #[.int .i64 t382, .int .i64 t383] 23 (0, 0)) (by (with_reducible repeat (first | refine blk_drewN ?_ _ | refine blk_drew ?_ | refine blk_alloc ?_ _)); exact BK386.out)) : gb397 ≠ gb386)); have n15_ := Aside0.mk ((by rw [hg]; exact Nat.ne_of_lt (blk_lt (g := gb392) (o := .cells #[.int .i64 t387, .int .i64 t388] 28 (0, 0)) (by (with_reducible repeat (first | refine blk_drewN ?_ _ | refine blk_drew ?_ | refine blk_alloc ?_ _)); exact BK392.out)) : gb392 ≠ gb397)); have n16_ := Aside0.mk ((by rw [hg]; exact Nat.ne_of_gt (blk_lt (g := gb392) (o := .cells #[.int .i64 t387, .int .i64 t388] 28 (0, 0)) (by (with_reducible repeat (first | refine blk_drewN ?_ _ | refine blk_drew ?_ | refine blk_alloc ?_ _)); exact BK392.out)) : gb397 ≠ gb392)); have n17_ := Aside0.mk ((by rw [hg]; exact Nat.ne_of_lt (blk_lt (g := gb393) (o := .cells #[.int .i64 t389, .int .i64 t390] 23 (0, 0)) (by (with_reducible repeat (first | refine blk_drewN ?_ _ | refine blk_drew ?_ | refine blk_alloc ?_ _)); exact BK393.out)) : gb393 ≠ gb397)); have n18_ := Aside0.mk ((by rw [hg]; exact Nat.ne_of_gt (blk_lt (g := gb393) (o := .cells #[.int .i64 t389, .int .i64 t390] 23 (0, 0)) (by (with_reducible repeat (first | refine blk_drewN ?_ _ | refine blk_drew ?_ | refine blk_alloc ?_ _)); exact BK393.out)) : gb397 ≠ gb393)); clear BK379; clear BK385; clear BK386; clear BK392; clear BK393; clear HB; have BK379 := n0_; have BK385 := n1_; have BK386 := n2_; have BK392 := n3_; have BK393 := n4_; have HB := n5_; have BK397 := n6_; have GW397 := n7_; have GE397 := n8_; have NB379_397 := n9_; have NB397_379 := n10_; have NB385_397 := n11_; have NB397_385 := n12_; have NB386_397 := n13_; have NB397_386 := n14_; have NB392_397 := n15_; have NB397_392 := n16_; have NB393_397 := n17_; have NB397_393 := n18_; clear n0_ n1_ n2_ n3_ n4_ n5_ n6_ n7_ n8_ n9_ n10_ n11_ n12_ n13_ n14_ n15_ n16_ n17_ n18_; clear hb hbox hg; have hnb132 := NB397_379.out; have hnc132 := NB379_397.out; have hnb133 := NB397_385.out; have hnc133 := NB385_397.out; have hnb134 := NB397_386.out; have hnc134 := NB386_397.out; have hnb135 := NB397_392.out; have hnc135 := NB392_397.out; have hnb136 := NB397_393.out; have hnc136 := NB393_397.out; have hcz137_0 : w131.cell? ⟨gb397, 0, none⟩ = some (.int .i64 0) := (blk_cell BK397.out 0).trans rfl; have hcz137_1 : w131.cell? ⟨gb397, 1, none⟩ = some (.int .i64 0) := (blk_cell BK397.out 1).trans rfl; have hfz137_0 := blk_frozen BK397.out 0; have hfz137_1 := blk_frozen BK397.out 1; have hnb138 := NB379_392.out; have hnc138 := NB392_379.out; have hnb139 := NB379_393.out; have hnc139 := NB393_379.out; have hcz140_0 : w131.cell? ⟨gb379, 0, none⟩ = some (.int .i64 a0_0) := (blk_cell BK379.out 0).trans rfl; have hcz140_1 : w131.cell? ⟨gb379, 1, none⟩ = some (.int .i64 a0_1) := (blk_cell BK379.out 1).trans rfl; have hfz140_0 := blk_frozen BK379.out 0; have hfz140_1 := blk_frozen BK379.out 1; have hcz141_0 : w131.cell? ⟨gb385, 0, none⟩ = some (.int .i64 t380) := (blk_cell BK385.out 0).trans rfl; have hcz141_1 : w131.cell? ⟨gb385, 1, none⟩ = some (.int .i64 t381) := (blk_cell BK385.out 1).trans rfl; have hfz141_0 := blk_frozen BK385.out 0; have hfz141_1 := blk_frozen BK385.out 1))
                    go_ret
                    exact ⟨by first | rfl | (simp [errW_none, errW_some] <;> rfl) | (simp [*, errW_none, errW_some] <;> rfl), by repeat (first | (with_reducible first | exact HB.out | apply below_alloc | apply pw_below_drewN | apply below_drew1 | refine below_set ?_ GE379.out | refine below_set ?_ GE385.out | refine below_set ?_ GE386.out | refine below_set ?_ GE392.out | refine below_set ?_ GE393.out | refine below_set ?_ GE397.out) | exact HB.out)⟩
                · rw [if_neg c74] at H
                  have c74b0 : decide (t380 < a1) = false := decide_eq_false c74
                  clear c74
                  obtain rfl := Option.some.inj H
                  have hnb142 := NB385_379.out
                  have hnc142 := NB379_385.out
                  have hnb143 := NB385_386.out
                  have hnc143 := NB386_385.out
                  have hnb144 := NB385_392.out
                  have hnc144 := NB392_385.out
                  have hnb145 := NB385_393.out
                  have hnc145 := NB393_385.out
                  have hcz146_0 : wc.cell? ⟨gb385, 0, none⟩ = some (.int .i64 t380) := (blk_cell BK385.out 0).trans rfl
                  have hcz146_1 : wc.cell? ⟨gb385, 1, none⟩ = some (.int .i64 t381) := (blk_cell BK385.out 1).trans rfl
                  have hfz146_0 := blk_frozen BK385.out 0
                  have hfz146_1 := blk_frozen BK385.out 1
                  have hnb147 := NB386_379.out
                  have hnc147 := NB379_386.out
                  have hnb148 := NB386_392.out
                  have hnc148 := NB392_386.out
                  have hnb149 := NB386_393.out
                  have hnc149 := NB393_386.out
                  have hcz150_0 : wc.cell? ⟨gb386, 0, none⟩ = some (.int .i64 t382) := (blk_cell BK386.out 0).trans rfl
                  have hcz150_1 : wc.cell? ⟨gb386, 1, none⟩ = some (.int .i64 t383) := (blk_cell BK386.out 1).trans rfl
                  have hfz150_0 := blk_frozen BK386.out 0
                  have hfz150_1 := blk_frozen BK386.out 1
                  go_wp2_with (first | ((with_reducible refine gate_callee (f := 13) rfl ?_); refine goesL_ (some 47) rfl rfl Try.func13 (by kernel_rfl) rfl #[.agg #[.int .i64 t380, .int .i64 t381], .agg #[.int .i64 t382, .int .i64 t383], .int .i64 a1] rfl (by (try simp only [List.map_toArray, List.map_cons, List.map_nil]); first | done | rfl | (simp only [List.length_drop, List.length_take]; rfl)) ?_; (with_reducible refine (lift_At.calls kj4 t380 t381 t382 t383 a1 t394 t395 true _ A70.out).mono ?_); rintro e w151 ⟨rfl, hb⟩; refine ⟨_, rfl, ?_⟩; have n0_ := Aside0.mk (blk_below (g := gb379) (o := .cells #[.int .i64 a0_0, .int .i64 a0_1] 28 (0, 0)) (by (with_reducible repeat (first | refine blk_drewN ?_ _ | refine blk_drew ?_ | refine blk_alloc ?_ _)); exact BK379.out) hb); have n1_ := Aside0.mk (blk_below (g := gb385) (o := .cells #[.int .i64 t380, .int .i64 t381] 28 (0, 0)) (by (with_reducible repeat (first | refine blk_drewN ?_ _ | refine blk_drew ?_ | refine blk_alloc ?_ _)); exact BK385.out) hb); have n2_ := Aside0.mk (blk_below (g := gb386) (o := .cells #[.int .i64 t382, .int .i64 t383] 23 (0, 0)) (by (with_reducible repeat (first | refine blk_drewN ?_ _ | refine blk_drew ?_ | refine blk_alloc ?_ _)); exact BK386.out) hb); have n3_ := Aside0.mk (blk_below (g := gb392) (o := .cells #[.int .i64 t387, .int .i64 t388] 28 (0, 0)) (by (with_reducible repeat (first | refine blk_drewN ?_ _ | refine blk_drew ?_ | refine blk_alloc ?_ _)); exact BK392.out) hb); have n4_ := Aside0.mk (blk_below (g := gb393) (o := .cells #[.int .i64 t389, .int .i64 t390] 23 (0, 0)) (by (with_reducible repeat (first | refine blk_drewN ?_ _ | refine blk_drew ?_ | refine blk_alloc ?_ _)); exact BK393.out) hb); have n5_ := Aside0.mk (below_step (by repeat (first | (with_reducible first | exact HB.out | apply below_alloc | apply pw_below_drewN | apply below_drew1 | refine below_set ?_ GE379.out | refine below_set ?_ GE385.out | refine below_set ?_ GE386.out | refine below_set ?_ GE392.out | refine below_set ?_ GE393.out) | exact HB.out)) hb); clear BK379; clear BK385; clear BK386; clear BK392; clear BK393; clear HB; have BK379 := n0_; have BK385 := n1_; have BK386 := n2_; have BK392 := n3_; have BK393 := n4_; have HB := n5_; clear n0_ n1_ n2_ n3_ n4_ n5_; (try clear hb); (try clear hb2); (try clear hk); (try clear hi)) | ((with_reducible refine gate_dst (N := 11) rfl ?_); refine box_event ?hg (N := 11) ?hd (cs := #[.int .i64 0, .int .i64 0]) (t := 28) ?hr ?_; (case hd => rfl); (case hg => rfl); (case hr => first | (go_simp; done) | (go_simp; rfl)); intro gb397 hg w152 hbox hb; have n0_ := Aside0.mk (blk_below (g := gb379) (o := .cells #[.int .i64 a0_0, .int .i64 a0_1] 28 (0, 0)) (by (with_reducible repeat (first | refine blk_drewN ?_ _ | refine blk_drew ?_ | refine blk_alloc ?_ _)); exact BK379.out) hb); have n1_ := Aside0.mk (blk_below (g := gb385) (o := .cells #[.int .i64 t380, .int .i64 t381] 28 (0, 0)) (by (with_reducible repeat (first | refine blk_drewN ?_ _ | refine blk_drew ?_ | refine blk_alloc ?_ _)); exact BK385.out) hb); have n2_ := Aside0.mk (blk_below (g := gb386) (o := .cells #[.int .i64 t382, .int .i64 t383] 23 (0, 0)) (by (with_reducible repeat (first | refine blk_drewN ?_ _ | refine blk_drew ?_ | refine blk_alloc ?_ _)); exact BK386.out) hb); have n3_ := Aside0.mk (blk_below (g := gb392) (o := .cells #[.int .i64 t387, .int .i64 t388] 28 (0, 0)) (by (with_reducible repeat (first | refine blk_drewN ?_ _ | refine blk_drew ?_ | refine blk_alloc ?_ _)); exact BK392.out) hb); have n4_ := Aside0.mk (blk_below (g := gb393) (o := .cells #[.int .i64 t389, .int .i64 t390] 23 (0, 0)) (by (with_reducible repeat (first | refine blk_drewN ?_ _ | refine blk_drew ?_ | refine blk_alloc ?_ _)); exact BK393.out) hb); have n5_ := Aside0.mk (below_step (by repeat (first | (with_reducible first | exact HB.out | apply below_alloc | apply pw_below_drewN | apply below_drew1 | refine below_set ?_ GE379.out | refine below_set ?_ GE385.out | refine below_set ?_ GE386.out | refine below_set ?_ GE392.out | refine below_set ?_ GE393.out) | exact HB.out)) hb); have n6_ := Aside0.mk (hbox); have n7_ := Aside0.mk ((by rw [hg]; exact (below_size (by repeat (first | (with_reducible first | exact HB.out | apply below_alloc | apply pw_below_drewN | apply below_drew1 | refine below_set ?_ GE379.out | refine below_set ?_ GE385.out | refine below_set ?_ GE386.out | refine below_set ?_ GE392.out | refine below_set ?_ GE393.out) | exact HB.out))) : w.heap.size ≤ gb397)); have n8_ := Aside0.mk ((by rw [hg]; exact (below_size (by repeat (first | (with_reducible first | exact HB.out | apply below_alloc | apply pw_below_drewN | apply below_drew1 | refine below_set ?_ GE379.out | refine below_set ?_ GE385.out | refine below_set ?_ GE386.out | refine below_set ?_ GE392.out | refine below_set ?_ GE393.out) | exact HB.out))) : w.heap.size ≤ gb397)); have n9_ := Aside0.mk ((by rw [hg]; exact Nat.ne_of_lt (blk_lt (g := gb379) (o := .cells #[.int .i64 a0_0, .int .i64 a0_1] 28 (0, 0)) (by (with_reducible repeat (first | refine blk_drewN ?_ _ | refine blk_drew ?_ | refine blk_alloc ?_ _)); exact BK379.out)) : gb379 ≠ gb397)); have n10_ := Aside0.mk ((by rw [hg]; exact Nat.ne_of_gt (blk_lt (g := gb379) (o := .cells #[.int .i64 a0_0, .int .i64 a0_1] 28 (0, 0)) (by (with_reducible repeat (first | refine blk_drewN ?_ _ | refine blk_drew ?_ | refine blk_alloc ?_ _)); exact BK379.out)) : gb397 ≠ gb379)); have n11_ := Aside0.mk ((by rw [hg]; exact Nat.ne_of_lt (blk_lt (g := gb385) (o := .cells #[.int .i64 t380, .int .i64 t381] 28 (0, 0)) (by (with_reducible repeat (first | refine blk_drewN ?_ _ | refine blk_drew ?_ | refine blk_alloc ?_ _)); exact BK385.out)) : gb385 ≠ gb397)); have n12_ := Aside0.mk ((by rw [hg]; exact Nat.ne_of_gt (blk_lt (g := gb385) (o := .cells #[.int .i64 t380, .int .i64 t381] 28 (0, 0)) (by (with_reducible repeat (first | refine blk_drewN ?_ _ | refine blk_drew ?_ | refine blk_alloc ?_ _)); exact BK385.out)) : gb397 ≠ gb385)); have n13_ := Aside0.mk ((by rw [hg]; exact Nat.ne_of_lt (blk_lt (g := gb386) (o := .cells #[.int .i64 t382, .int .i64 t383] 23 (0, 0)) (by (with_reducible repeat (first | refine blk_drewN ?_ _ | refine blk_drew ?_ | refine blk_alloc ?_ _)); exact BK386.out)) : gb386 ≠ gb397)); have n14_ := Aside0.mk ((by rw [hg]; exact Nat.ne_of_gt (blk_lt (g := gb386) (o := .cells #[.int .i64 t382, .int .i64 t383] 23 (0, 0)) (by (with_reducible repeat (first | refine blk_drewN ?_ _ | refine blk_drew ?_ | refine blk_alloc ?_ _)); exact BK386.out)) : gb397 ≠ gb386)); have n15_ := Aside0.mk ((by rw [hg]; exact Nat.ne_of_lt (blk_lt (g := gb392) (o := .cells #[.int .i64 t387, .int .i64 t388] 28 (0, 0)) (by (with_reducible repeat (first | refine blk_drewN ?_ _ | refine blk_drew ?_ | refine blk_alloc ?_ _)); exact BK392.out)) : gb392 ≠ gb397)); have n16_ := Aside0.mk ((by rw [hg]; exact Nat.ne_of_gt (blk_lt (g := gb392) (o := .cells #[.int .i64 t387, .int .i64 t388] 28 (0, 0)) (by (with_reducible repeat (first | refine blk_drewN ?_ _ | refine blk_drew ?_ | refine blk_alloc ?_ _)); exact BK392.out)) : gb397 ≠ gb392)); have n17_ := Aside0.mk ((by rw [hg]; exact Nat.ne_of_lt (blk_lt (g := gb393) (o := .cells #[.int .i64 t389, .int .i64 t390] 23 (0, 0)) (by (with_reducible repeat (first | refine blk_drewN ?_ _ | refine blk_drew ?_ | refine blk_alloc ?_ _)); exact BK393.out)) : gb393 ≠ gb397)); have n18_ := Aside0.mk ((by rw [hg]; exact Nat.ne_of_gt (blk_lt (g := gb393) (o := .cells #[.int .i64 t389, .int .i64 t390] 23 (0, 0)) (by (with_reducible repeat (first | refine blk_drewN ?_ _ | refine blk_drew ?_ | refine blk_alloc ?_ _)); exact BK393.out)) : gb397 ≠ gb393)); clear BK379; clear BK385; clear BK386; clear BK392; clear BK393; clear HB; have BK379 := n0_; have BK385 := n1_; have BK386 := n2_; have BK392 := n3_; have BK393 := n4_; have HB := n5_; have BK397 := n6_; have GW397 := n7_; have GE397 := n8_; have NB379_397 := n9_; have NB397_379 := n10_; have NB385_397 := n11_; have NB397_385 := n12_; have NB386_397 := n13_; have NB397_386 := n14_; have NB392_397 := n15_; have NB397_392 := n16_; have NB393_397 := n17_; have NB397_393 := n18_; clear n0_ n1_ n2_ n3_ n4_ n5_ n6_ n7_ n8_ n9_ n10_ n11_ n12_ n13_ n14_ n15_ n16_ n17_ n18_; clear hb hbox hg; have hnb153 := NB397_379.out; have hnc153 := NB379_397.out; have hnb154 := NB397_385.out; have hnc154 := NB385_397.out; have hnb155 := NB397_386.out; have hnc155 := NB386_397.out; have hnb156 := NB397_392.out; have hnc156 := NB392_397.out; have hnb157 := NB397_393.out; have hnc157 := NB393_397.out; have hcz158_0 : w152.cell? ⟨gb397, 0, none⟩ = some (.int .i64 0) := (blk_cell BK397.out 0).trans rfl; have hcz158_1 : w152.cell? ⟨gb397, 1, none⟩ = some (.int .i64 0) := (blk_cell BK397.out 1).trans rfl; have hfz158_0 := blk_frozen BK397.out 0; have hfz158_1 := blk_frozen BK397.out 1; have hnb159 := NB379_392.out; have hnc159 := NB392_379.out; have hnb160 := NB379_393.out; have hnc160 := NB393_379.out; have hcz161_0 : w152.cell? ⟨gb379, 0, none⟩ = some (.int .i64 a0_0) := (blk_cell BK379.out 0).trans rfl; have hcz161_1 : w152.cell? ⟨gb379, 1, none⟩ = some (.int .i64 a0_1) := (blk_cell BK379.out 1).trans rfl; have hfz161_0 := blk_frozen BK379.out 0; have hfz161_1 := blk_frozen BK379.out 1; have hcz162_0 : w152.cell? ⟨gb385, 0, none⟩ = some (.int .i64 t380) := (blk_cell BK385.out 0).trans rfl; have hcz162_1 : w152.cell? ⟨gb385, 1, none⟩ = some (.int .i64 t381) := (blk_cell BK385.out 1).trans rfl; have hfz162_0 := blk_frozen BK385.out 0; have hfz162_1 := blk_frozen BK385.out 1))
                  go_ret
                  exact ⟨by first | rfl | (simp [errW_none, errW_some] <;> rfl) | (simp [*, errW_none, errW_some] <;> rfl), by repeat (first | (with_reducible first | exact HB.out | apply below_alloc | apply pw_below_drewN | apply below_drew1 | refine below_set ?_ GE379.out | refine below_set ?_ GE385.out | refine below_set ?_ GE386.out | refine below_set ?_ GE392.out | refine below_set ?_ GE393.out | refine below_set ?_ GE397.out) | exact HB.out)⟩
              · rw [if_neg c73] at H
                have c73b0 : decide (0 ≤ t380) = false := decide_eq_false c73
                clear c73
                obtain rfl := Option.some.inj H
                have hnb163 := NB385_379.out
                have hnc163 := NB379_385.out
                have hnb164 := NB385_386.out
                have hnc164 := NB386_385.out
                have hnb165 := NB385_392.out
                have hnc165 := NB392_385.out
                have hnb166 := NB385_393.out
                have hnc166 := NB393_385.out
                have hcz167_0 : wc.cell? ⟨gb385, 0, none⟩ = some (.int .i64 t380) := (blk_cell BK385.out 0).trans rfl
                have hcz167_1 : wc.cell? ⟨gb385, 1, none⟩ = some (.int .i64 t381) := (blk_cell BK385.out 1).trans rfl
                have hfz167_0 := blk_frozen BK385.out 0
                have hfz167_1 := blk_frozen BK385.out 1
                have hnb168 := NB386_379.out
                have hnc168 := NB379_386.out
                have hnb169 := NB386_392.out
                have hnc169 := NB392_386.out
                have hnb170 := NB386_393.out
                have hnc170 := NB393_386.out
                have hcz171_0 : wc.cell? ⟨gb386, 0, none⟩ = some (.int .i64 t382) := (blk_cell BK386.out 0).trans rfl
                have hcz171_1 : wc.cell? ⟨gb386, 1, none⟩ = some (.int .i64 t383) := (blk_cell BK386.out 1).trans rfl
                have hfz171_0 := blk_frozen BK386.out 0
                have hfz171_1 := blk_frozen BK386.out 1
                go_wp2_with (first | ((with_reducible refine gate_callee (f := 13) rfl ?_); refine goesL_ (some 47) rfl rfl Try.func13 (by kernel_rfl) rfl #[.agg #[.int .i64 t380, .int .i64 t381], .agg #[.int .i64 t382, .int .i64 t383], .int .i64 a1] rfl (by (try simp only [List.map_toArray, List.map_cons, List.map_nil]); first | done | rfl | (simp only [List.length_drop, List.length_take]; rfl)) ?_; (with_reducible refine (lift_At.calls kj4 t380 t381 t382 t383 a1 t394 t395 true _ A70.out).mono ?_); rintro e w172 ⟨rfl, hb⟩; refine ⟨_, rfl, ?_⟩; have n0_ := Aside0.mk (blk_below (g := gb379) (o := .cells #[.int .i64 a0_0, .int .i64 a0_1] 28 (0, 0)) (by (with_reducible repeat (first | refine blk_drewN ?_ _ | refine blk_drew ?_ | refine blk_alloc ?_ _)); exact BK379.out) hb); have n1_ := Aside0.mk (blk_below (g := gb385) (o := .cells #[.int .i64 t380, .int .i64 t381] 28 (0, 0)) (by (with_reducible repeat (first | refine blk_drewN ?_ _ | refine blk_drew ?_ | refine blk_alloc ?_ _)); exact BK385.out) hb); have n2_ := Aside0.mk (blk_below (g := gb386) (o := .cells #[.int .i64 t382, .int .i64 t383] 23 (0, 0)) (by (with_reducible repeat (first | refine blk_drewN ?_ _ | refine blk_drew ?_ | refine blk_alloc ?_ _)); exact BK386.out) hb); have n3_ := Aside0.mk (blk_below (g := gb392) (o := .cells #[.int .i64 t387, .int .i64 t388] 28 (0, 0)) (by (with_reducible repeat (first | refine blk_drewN ?_ _ | refine blk_drew ?_ | refine blk_alloc ?_ _)); exact BK392.out) hb); have n4_ := Aside0.mk (blk_below (g := gb393) (o := .cells #[.int .i64 t389, .int .i64 t390] 23 (0, 0)) (by (with_reducible repeat (first | refine blk_drewN ?_ _ | refine blk_drew ?_ | refine blk_alloc ?_ _)); exact BK393.out) hb); have n5_ := Aside0.mk (below_step (by repeat (first | (with_reducible first | exact HB.out | apply below_alloc | apply pw_below_drewN | apply below_drew1 | refine below_set ?_ GE379.out | refine below_set ?_ GE385.out | refine below_set ?_ GE386.out | refine below_set ?_ GE392.out | refine below_set ?_ GE393.out) | exact HB.out)) hb); clear BK379; clear BK385; clear BK386; clear BK392; clear BK393; clear HB; have BK379 := n0_; have BK385 := n1_; have BK386 := n2_; have BK392 := n3_; have BK393 := n4_; have HB := n5_; clear n0_ n1_ n2_ n3_ n4_ n5_; (try clear hb); (try clear hb2); (try clear hk); (try clear hi)) | ((with_reducible refine gate_dst (N := 11) rfl ?_); refine box_event ?hg (N := 11) ?hd (cs := #[.int .i64 0, .int .i64 0]) (t := 28) ?hr ?_; (case hd => rfl); (case hg => rfl); (case hr => first | (go_simp; done) | (go_simp; rfl)); intro gb397 hg w173 hbox hb; have n0_ := Aside0.mk (blk_below (g := gb379) (o := .cells #[.int .i64 a0_0, .int .i64 a0_1] 28 (0, 0)) (by (with_reducible repeat (first | refine blk_drewN ?_ _ | refine blk_drew ?_ | refine blk_alloc ?_ _)); exact BK379.out) hb); have n1_ := Aside0.mk (blk_below (g := gb385) (o := .cells #[.int .i64 t380, .int .i64 t381] 28 (0, 0)) (by (with_reducible repeat (first | refine blk_drewN ?_ _ | refine blk_drew ?_ | refine blk_alloc ?_ _)); exact BK385.out) hb); have n2_ := Aside0.mk (blk_below (g := gb386) (o := .cells #[.int .i64 t382, .int .i64 t383] 23 (0, 0)) (by (with_reducible repeat (first | refine blk_drewN ?_ _ | refine blk_drew ?_ | refine blk_alloc ?_ _)); exact BK386.out) hb); have n3_ := Aside0.mk (blk_below (g := gb392) (o := .cells #[.int .i64 t387, .int .i64 t388] 28 (0, 0)) (by (with_reducible repeat (first | refine blk_drewN ?_ _ | refine blk_drew ?_ | refine blk_alloc ?_ _)); exact BK392.out) hb); have n4_ := Aside0.mk (blk_below (g := gb393) (o := .cells #[.int .i64 t389, .int .i64 t390] 23 (0, 0)) (by (with_reducible repeat (first | refine blk_drewN ?_ _ | refine blk_drew ?_ | refine blk_alloc ?_ _)); exact BK393.out) hb); have n5_ := Aside0.mk (below_step (by repeat (first | (with_reducible first | exact HB.out | apply below_alloc | apply pw_below_drewN | apply below_drew1 | refine below_set ?_ GE379.out | refine below_set ?_ GE385.out | refine below_set ?_ GE386.out | refine below_set ?_ GE392.out | refine below_set ?_ GE393.out) | exact HB.out)) hb); have n6_ := Aside0.mk (hbox); have n7_ := Aside0.mk ((by rw [hg]; exact (below_size (by repeat (first | (with_reducible first | exact HB.out | apply below_alloc | apply pw_below_drewN | apply below_drew1 | refine below_set ?_ GE379.out | refine below_set ?_ GE385.out | refine below_set ?_ GE386.out | refine below_set ?_ GE392.out | refine below_set ?_ GE393.out) | exact HB.out))) : w.heap.size ≤ gb397)); have n8_ := Aside0.mk ((by rw [hg]; exact (below_size (by repeat (first | (with_reducible first | exact HB.out | apply below_alloc | apply pw_below_drewN | apply below_drew1 | refine below_set ?_ GE379.out | refine below_set ?_ GE385.out | refine below_set ?_ GE386.out | refine below_set ?_ GE392.out | refine below_set ?_ GE393.out) | exact HB.out))) : w.heap.size ≤ gb397)); have n9_ := Aside0.mk ((by rw [hg]; exact Nat.ne_of_lt (blk_lt (g := gb379) (o := .cells #[.int .i64 a0_0, .int .i64 a0_1] 28 (0, 0)) (by (with_reducible repeat (first | refine blk_drewN ?_ _ | refine blk_drew ?_ | refine blk_alloc ?_ _)); exact BK379.out)) : gb379 ≠ gb397)); have n10_ := Aside0.mk ((by rw [hg]; exact Nat.ne_of_gt (blk_lt (g := gb379) (o := .cells #[.int .i64 a0_0, .int .i64 a0_1] 28 (0, 0)) (by (with_reducible repeat (first | refine blk_drewN ?_ _ | refine blk_drew ?_ | refine blk_alloc ?_ _)); exact BK379.out)) : gb397 ≠ gb379)); have n11_ := Aside0.mk ((by rw [hg]; exact Nat.ne_of_lt (blk_lt (g := gb385) (o := .cells #[.int .i64 t380, .int .i64 t381] 28 (0, 0)) (by (with_reducible repeat (first | refine blk_drewN ?_ _ | refine blk_drew ?_ | refine blk_alloc ?_ _)); exact BK385.out)) : gb385 ≠ gb397)); have n12_ := Aside0.mk ((by rw [hg]; exact Nat.ne_of_gt (blk_lt (g := gb385) (o := .cells #[.int .i64 t380, .int .i64 t381] 28 (0, 0)) (by (with_reducible repeat (first | refine blk_drewN ?_ _ | refine blk_drew ?_ | refine blk_alloc ?_ _)); exact BK385.out)) : gb397 ≠ gb385)); have n13_ := Aside0.mk ((by rw [hg]; exact Nat.ne_of_lt (blk_lt (g := gb386) (o := .cells #[.int .i64 t382, .int .i64 t383] 23 (0, 0)) (by (with_reducible repeat (first | refine blk_drewN ?_ _ | refine blk_drew ?_ | refine blk_alloc ?_ _)); exact BK386.out)) : gb386 ≠ gb397)); have n14_ := Aside0.mk ((by rw [hg]; exact Nat.ne_of_gt (blk_lt (g := gb386) (o := .cells #[.int .i64 t382, .int .i64 t383] 23 (0, 0)) (by (with_reducible repeat (first | refine blk_drewN ?_ _ | refine blk_drew ?_ | refine blk_alloc ?_ _)); exact BK386.out)) : gb397 ≠ gb386)); have n15_ := Aside0.mk ((by rw [hg]; exact Nat.ne_of_lt (blk_lt (g := gb392) (o := .cells #[.int .i64 t387, .int .i64 t388] 28 (0, 0)) (by (with_reducible repeat (first | refine blk_drewN ?_ _ | refine blk_drew ?_ | refine blk_alloc ?_ _)); exact BK392.out)) : gb392 ≠ gb397)); have n16_ := Aside0.mk ((by rw [hg]; exact Nat.ne_of_gt (blk_lt (g := gb392) (o := .cells #[.int .i64 t387, .int .i64 t388] 28 (0, 0)) (by (with_reducible repeat (first | refine blk_drewN ?_ _ | refine blk_drew ?_ | refine blk_alloc ?_ _)); exact BK392.out)) : gb397 ≠ gb392)); have n17_ := Aside0.mk ((by rw [hg]; exact Nat.ne_of_lt (blk_lt (g := gb393) (o := .cells #[.int .i64 t389, .int .i64 t390] 23 (0, 0)) (by (with_reducible repeat (first | refine blk_drewN ?_ _ | refine blk_drew ?_ | refine blk_alloc ?_ _)); exact BK393.out)) : gb393 ≠ gb397)); have n18_ := Aside0.mk ((by rw [hg]; exact Nat.ne_of_gt (blk_lt (g := gb393) (o := .cells #[.int .i64 t389, .int .i64 t390] 23 (0, 0)) (by (with_reducible repeat (first | refine blk_drewN ?_ _ | refine blk_drew ?_ | refine blk_alloc ?_ _)); exact BK393.out)) : gb397 ≠ gb393)); clear BK379; clear BK385; clear BK386; clear BK392; clear BK393; clear HB; have BK379 := n0_; have BK385 := n1_; have BK386 := n2_; have BK392 := n3_; have BK393 := n4_; have HB := n5_; have BK397 := n6_; have GW397 := n7_; have GE397 := n8_; have NB379_397 := n9_; have NB397_379 := n10_; have NB385_397 := n11_; have NB397_385 := n12_; have NB386_397 := n13_; have NB397_386 := n14_; have NB392_397 := n15_; have NB397_392 := n16_; have NB393_397 := n17_; have NB397_393 := n18_; clear n0_ n1_ n2_ n3_ n4_ n5_ n6_ n7_ n8_ n9_ n10_ n11_ n12_ n13_ n14_ n15_ n16_ n17_ n18_; clear hb hbox hg; have hnb174 := NB397_379.out; have hnc174 := NB379_397.out; have hnb175 := NB397_385.out; have hnc175 := NB385_397.out; have hnb176 := NB397_386.out; have hnc176 := NB386_397.out; have hnb177 := NB397_392.out; have hnc177 := NB392_397.out; have hnb178 := NB397_393.out; have hnc178 := NB393_397.out; have hcz179_0 : w173.cell? ⟨gb397, 0, none⟩ = some (.int .i64 0) := (blk_cell BK397.out 0).trans rfl; have hcz179_1 : w173.cell? ⟨gb397, 1, none⟩ = some (.int .i64 0) := (blk_cell BK397.out 1).trans rfl; have hfz179_0 := blk_frozen BK397.out 0; have hfz179_1 := blk_frozen BK397.out 1; have hnb180 := NB379_392.out; have hnc180 := NB392_379.out; have hnb181 := NB379_393.out; have hnc181 := NB393_379.out; have hcz182_0 : w173.cell? ⟨gb379, 0, none⟩ = some (.int .i64 a0_0) := (blk_cell BK379.out 0).trans rfl; have hcz182_1 : w173.cell? ⟨gb379, 1, none⟩ = some (.int .i64 a0_1) := (blk_cell BK379.out 1).trans rfl; have hfz182_0 := blk_frozen BK379.out 0; have hfz182_1 := blk_frozen BK379.out 1; have hcz183_0 : w173.cell? ⟨gb385, 0, none⟩ = some (.int .i64 t380) := (blk_cell BK385.out 0).trans rfl; have hcz183_1 : w173.cell? ⟨gb385, 1, none⟩ = some (.int .i64 t381) := (blk_cell BK385.out 1).trans rfl; have hfz183_0 := blk_frozen BK385.out 0; have hfz183_1 := blk_frozen BK385.out 1))
                go_ret
                exact ⟨by first | rfl | (simp [errW_none, errW_some] <;> rfl) | (simp [*, errW_none, errW_some] <;> rfl), by repeat (first | (with_reducible first | exact HB.out | apply below_alloc | apply pw_below_drewN | apply below_drew1 | refine below_set ?_ GE379.out | refine below_set ?_ GE385.out | refine below_set ?_ GE386.out | refine below_set ?_ GE392.out | refine below_set ?_ GE393.out | refine below_set ?_ GE397.out) | exact HB.out)⟩
            · replace c72 := Bool.eq_false_iff.mpr c72
              subst c72
              have H1 : (some false) = some r := by rw [if_neg (show ¬ (false = true) by decide)] at H; exact H
              clear H
              have H := H1
              clear H1
              obtain rfl := Option.some.inj H
              have hnb184 := NB385_379.out
              have hnc184 := NB379_385.out
              have hnb185 := NB385_386.out
              have hnc185 := NB386_385.out
              have hnb186 := NB385_392.out
              have hnc186 := NB392_385.out
              have hnb187 := NB385_393.out
              have hnc187 := NB393_385.out
              have hcz188_0 : wc.cell? ⟨gb385, 0, none⟩ = some (.int .i64 t380) := (blk_cell BK385.out 0).trans rfl
              have hcz188_1 : wc.cell? ⟨gb385, 1, none⟩ = some (.int .i64 t381) := (blk_cell BK385.out 1).trans rfl
              have hfz188_0 := blk_frozen BK385.out 0
              have hfz188_1 := blk_frozen BK385.out 1
              have hnb189 := NB386_379.out
              have hnc189 := NB379_386.out
              have hnb190 := NB386_392.out
              have hnc190 := NB392_386.out
              have hnb191 := NB386_393.out
              have hnc191 := NB393_386.out
              have hcz192_0 : wc.cell? ⟨gb386, 0, none⟩ = some (.int .i64 t382) := (blk_cell BK386.out 0).trans rfl
              have hcz192_1 : wc.cell? ⟨gb386, 1, none⟩ = some (.int .i64 t383) := (blk_cell BK386.out 1).trans rfl
              have hfz192_0 := blk_frozen BK386.out 0
              have hfz192_1 := blk_frozen BK386.out 1
              go_wp2_with (first | ((with_reducible refine gate_callee (f := 13) rfl ?_); refine goesL_ (some 47) rfl rfl Try.func13 (by kernel_rfl) rfl #[.agg #[.int .i64 t380, .int .i64 t381], .agg #[.int .i64 t382, .int .i64 t383], .int .i64 a1] rfl (by (try simp only [List.map_toArray, List.map_cons, List.map_nil]); first | done | rfl | (simp only [List.length_drop, List.length_take]; rfl)) ?_; (with_reducible refine (lift_At.calls kj4 t380 t381 t382 t383 a1 t394 t395 false _ A70.out).mono ?_); rintro e w193 ⟨rfl, hb⟩; refine ⟨_, rfl, ?_⟩; have n0_ := Aside0.mk (blk_below (g := gb379) (o := .cells #[.int .i64 a0_0, .int .i64 a0_1] 28 (0, 0)) (by (with_reducible repeat (first | refine blk_drewN ?_ _ | refine blk_drew ?_ | refine blk_alloc ?_ _)); exact BK379.out) hb); have n1_ := Aside0.mk (blk_below (g := gb385) (o := .cells #[.int .i64 t380, .int .i64 t381] 28 (0, 0)) (by (with_reducible repeat (first | refine blk_drewN ?_ _ | refine blk_drew ?_ | refine blk_alloc ?_ _)); exact BK385.out) hb); have n2_ := Aside0.mk (blk_below (g := gb386) (o := .cells #[.int .i64 t382, .int .i64 t383] 23 (0, 0)) (by (with_reducible repeat (first | refine blk_drewN ?_ _ | refine blk_drew ?_ | refine blk_alloc ?_ _)); exact BK386.out) hb); have n3_ := Aside0.mk (blk_below (g := gb392) (o := .cells #[.int .i64 t387, .int .i64 t388] 28 (0, 0)) (by (with_reducible repeat (first | refine blk_drewN ?_ _ | refine blk_drew ?_ | refine blk_alloc ?_ _)); exact BK392.out) hb); have n4_ := Aside0.mk (blk_below (g := gb393) (o := .cells #[.int .i64 t389, .int .i64 t390] 23 (0, 0)) (by (with_reducible repeat (first | refine blk_drewN ?_ _ | refine blk_drew ?_ | refine blk_alloc ?_ _)); exact BK393.out) hb); have n5_ := Aside0.mk (below_step (by repeat (first | (with_reducible first | exact HB.out | apply below_alloc | apply pw_below_drewN | apply below_drew1 | refine below_set ?_ GE379.out | refine below_set ?_ GE385.out | refine below_set ?_ GE386.out | refine below_set ?_ GE392.out | refine below_set ?_ GE393.out) | exact HB.out)) hb); clear BK379; clear BK385; clear BK386; clear BK392; clear BK393; clear HB; have BK379 := n0_; have BK385 := n1_; have BK386 := n2_; have BK392 := n3_; have BK393 := n4_; have HB := n5_; clear n0_ n1_ n2_ n3_ n4_ n5_; (try clear hb); (try clear hb2); (try clear hk); (try clear hi)) | ((with_reducible refine gate_dst (N := 11) rfl ?_); refine box_event ?hg (N := 11) ?hd (cs := #[.int .i64 0, .int .i64 0]) (t := 28) ?hr ?_; (case hd => rfl); (case hg => rfl); (case hr => first | (go_simp; done) | (go_simp; rfl)); intro gb397 hg w194 hbox hb; have n0_ := Aside0.mk (blk_below (g := gb379) (o := .cells #[.int .i64 a0_0, .int .i64 a0_1] 28 (0, 0)) (by (with_reducible repeat (first | refine blk_drewN ?_ _ | refine blk_drew ?_ | refine blk_alloc ?_ _)); exact BK379.out) hb); have n1_ := Aside0.mk (blk_below (g := gb385) (o := .cells #[.int .i64 t380, .int .i64 t381] 28 (0, 0)) (by (with_reducible repeat (first | refine blk_drewN ?_ _ | refine blk_drew ?_ | refine blk_alloc ?_ _)); exact BK385.out) hb); have n2_ := Aside0.mk (blk_below (g := gb386) (o := .cells #[.int .i64 t382, .int .i64 t383] 23 (0, 0)) (by (with_reducible repeat (first | refine blk_drewN ?_ _ | refine blk_drew ?_ | refine blk_alloc ?_ _)); exact BK386.out) hb); have n3_ := Aside0.mk (blk_below (g := gb392) (o := .cells #[.int .i64 t387, .int .i64 t388] 28 (0, 0)) (by (with_reducible repeat (first | refine blk_drewN ?_ _ | refine blk_drew ?_ | refine blk_alloc ?_ _)); exact BK392.out) hb); have n4_ := Aside0.mk (blk_below (g := gb393) (o := .cells #[.int .i64 t389, .int .i64 t390] 23 (0, 0)) (by (with_reducible repeat (first | refine blk_drewN ?_ _ | refine blk_drew ?_ | refine blk_alloc ?_ _)); exact BK393.out) hb); have n5_ := Aside0.mk (below_step (by repeat (first | (with_reducible first | exact HB.out | apply below_alloc | apply pw_below_drewN | apply below_drew1 | refine below_set ?_ GE379.out | refine below_set ?_ GE385.out | refine below_set ?_ GE386.out | refine below_set ?_ GE392.out | refine below_set ?_ GE393.out) | exact HB.out)) hb); have n6_ := Aside0.mk (hbox); have n7_ := Aside0.mk ((by rw [hg]; exact (below_size (by repeat (first | (with_reducible first | exact HB.out | apply below_alloc | apply pw_below_drewN | apply below_drew1 | refine below_set ?_ GE379.out | refine below_set ?_ GE385.out | refine below_set ?_ GE386.out | refine below_set ?_ GE392.out | refine below_set ?_ GE393.out) | exact HB.out))) : w.heap.size ≤ gb397)); have n8_ := Aside0.mk ((by rw [hg]; exact (below_size (by repeat (first | (with_reducible first | exact HB.out | apply below_alloc | apply pw_below_drewN | apply below_drew1 | refine below_set ?_ GE379.out | refine below_set ?_ GE385.out | refine below_set ?_ GE386.out | refine below_set ?_ GE392.out | refine below_set ?_ GE393.out) | exact HB.out))) : w.heap.size ≤ gb397)); have n9_ := Aside0.mk ((by rw [hg]; exact Nat.ne_of_lt (blk_lt (g := gb379) (o := .cells #[.int .i64 a0_0, .int .i64 a0_1] 28 (0, 0)) (by (with_reducible repeat (first | refine blk_drewN ?_ _ | refine blk_drew ?_ | refine blk_alloc ?_ _)); exact BK379.out)) : gb379 ≠ gb397)); have n10_ := Aside0.mk ((by rw [hg]; exact Nat.ne_of_gt (blk_lt (g := gb379) (o := .cells #[.int .i64 a0_0, .int .i64 a0_1] 28 (0, 0)) (by (with_reducible repeat (first | refine blk_drewN ?_ _ | refine blk_drew ?_ | refine blk_alloc ?_ _)); exact BK379.out)) : gb397 ≠ gb379)); have n11_ := Aside0.mk ((by rw [hg]; exact Nat.ne_of_lt (blk_lt (g := gb385) (o := .cells #[.int .i64 t380, .int .i64 t381] 28 (0, 0)) (by (with_reducible repeat (first | refine blk_drewN ?_ _ | refine blk_drew ?_ | refine blk_alloc ?_ _)); exact BK385.out)) : gb385 ≠ gb397)); have n12_ := Aside0.mk ((by rw [hg]; exact Nat.ne_of_gt (blk_lt (g := gb385) (o := .cells #[.int .i64 t380, .int .i64 t381] 28 (0, 0)) (by (with_reducible repeat (first | refine blk_drewN ?_ _ | refine blk_drew ?_ | refine blk_alloc ?_ _)); exact BK385.out)) : gb397 ≠ gb385)); have n13_ := Aside0.mk ((by rw [hg]; exact Nat.ne_of_lt (blk_lt (g := gb386) (o := .cells #[.int .i64 t382, .int .i64 t383] 23 (0, 0)) (by (with_reducible repeat (first | refine blk_drewN ?_ _ | refine blk_drew ?_ | refine blk_alloc ?_ _)); exact BK386.out)) : gb386 ≠ gb397)); have n14_ := Aside0.mk ((by rw [hg]; exact Nat.ne_of_gt (blk_lt (g := gb386) (o := .cells #[.int .i64 t382, .int .i64 t383] 23 (0, 0)) (by (with_reducible repeat (first | refine blk_drewN ?_ _ | refine blk_drew ?_ | refine blk_alloc ?_ _)); exact BK386.out)) : gb397 ≠ gb386)); have n15_ := Aside0.mk ((by rw [hg]; exact Nat.ne_of_lt (blk_lt (g := gb392) (o := .cells #[.int .i64 t387, .int .i64 t388] 28 (0, 0)) (by (with_reducible repeat (first | refine blk_drewN ?_ _ | refine blk_drew ?_ | refine blk_alloc ?_ _)); exact BK392.out)) : gb392 ≠ gb397)); have n16_ := Aside0.mk ((by rw [hg]; exact Nat.ne_of_gt (blk_lt (g := gb392) (o := .cells #[.int .i64 t387, .int .i64 t388] 28 (0, 0)) (by (with_reducible repeat (first | refine blk_drewN ?_ _ | refine blk_drew ?_ | refine blk_alloc ?_ _)); exact BK392.out)) : gb397 ≠ gb392)); have n17_ := Aside0.mk ((by rw [hg]; exact Nat.ne_of_lt (blk_lt (g := gb393) (o := .cells #[.int .i64 t389, .int .i64 t390] 23 (0, 0)) (by (with_reducible repeat (first | refine blk_drewN ?_ _ | refine blk_drew ?_ | refine blk_alloc ?_ _)); exact BK393.out)) : gb393 ≠ gb397)); have n18_ := Aside0.mk ((by rw [hg]; exact Nat.ne_of_gt (blk_lt (g := gb393) (o := .cells #[.int .i64 t389, .int .i64 t390] 23 (0, 0)) (by (with_reducible repeat (first | refine blk_drewN ?_ _ | refine blk_drew ?_ | refine blk_alloc ?_ _)); exact BK393.out)) : gb397 ≠ gb393)); clear BK379; clear BK385; clear BK386; clear BK392; clear BK393; clear HB; have BK379 := n0_; have BK385 := n1_; have BK386 := n2_; have BK392 := n3_; have BK393 := n4_; have HB := n5_; have BK397 := n6_; have GW397 := n7_; have GE397 := n8_; have NB379_397 := n9_; have NB397_379 := n10_; have NB385_397 := n11_; have NB397_385 := n12_; have NB386_397 := n13_; have NB397_386 := n14_; have NB392_397 := n15_; have NB397_392 := n16_; have NB393_397 := n17_; have NB397_393 := n18_; clear n0_ n1_ n2_ n3_ n4_ n5_ n6_ n7_ n8_ n9_ n10_ n11_ n12_ n13_ n14_ n15_ n16_ n17_ n18_; clear hb hbox hg; have hnb195 := NB397_379.out; have hnc195 := NB379_397.out; have hnb196 := NB397_385.out; have hnc196 := NB385_397.out; have hnb197 := NB397_386.out; have hnc197 := NB386_397.out; have hnb198 := NB397_392.out; have hnc198 := NB392_397.out; have hnb199 := NB397_393.out; have hnc199 := NB393_397.out; have hcz200_0 : w194.cell? ⟨gb397, 0, none⟩ = some (.int .i64 0) := (blk_cell BK397.out 0).trans rfl; have hcz200_1 : w194.cell? ⟨gb397, 1, none⟩ = some (.int .i64 0) := (blk_cell BK397.out 1).trans rfl; have hfz200_0 := blk_frozen BK397.out 0; have hfz200_1 := blk_frozen BK397.out 1; have hnb201 := NB379_392.out; have hnc201 := NB392_379.out; have hnb202 := NB379_393.out; have hnc202 := NB393_379.out; have hcz203_0 : w194.cell? ⟨gb379, 0, none⟩ = some (.int .i64 a0_0) := (blk_cell BK379.out 0).trans rfl; have hcz203_1 : w194.cell? ⟨gb379, 1, none⟩ = some (.int .i64 a0_1) := (blk_cell BK379.out 1).trans rfl; have hfz203_0 := blk_frozen BK379.out 0; have hfz203_1 := blk_frozen BK379.out 1))
              go_ret
              exact ⟨by first | rfl | (simp [errW_none, errW_some] <;> rfl) | (simp [*, errW_none, errW_some] <;> rfl), by repeat (first | (with_reducible first | exact HB.out | apply below_alloc | apply pw_below_drewN | apply below_drew1 | refine below_set ?_ GE379.out | refine below_set ?_ GE385.out | refine below_set ?_ GE386.out | refine below_set ?_ GE392.out | refine below_set ?_ GE393.out | refine below_set ?_ GE397.out) | exact HB.out)⟩
          · rw [if_neg c71] at H
            have c71b0 : (t394 == a0_0 && (t395 == a0_1)) = false := by simpa using c71
            (try (have c71b1 : decide (t394 = a0_0 && (t395 == a0_1)) = false := by simpa using c71))
            (try (have c71b2 : (t394 == a0_0 && (t395 == a0_1)) = false := by simpa using c71))
            (try (have c71b3 : ¬ (t394 = a0_0 && (t395 == a0_1)) := by simpa using c71))
            clear c71
            obtain rfl := Option.some.inj H
            have hnb204 := NB385_379.out
            have hnc204 := NB379_385.out
            have hnb205 := NB385_386.out
            have hnc205 := NB386_385.out
            have hnb206 := NB385_392.out
            have hnc206 := NB392_385.out
            have hnb207 := NB385_393.out
            have hnc207 := NB393_385.out
            have hcz208_0 : wc.cell? ⟨gb385, 0, none⟩ = some (.int .i64 t380) := (blk_cell BK385.out 0).trans rfl
            have hcz208_1 : wc.cell? ⟨gb385, 1, none⟩ = some (.int .i64 t381) := (blk_cell BK385.out 1).trans rfl
            have hfz208_0 := blk_frozen BK385.out 0
            have hfz208_1 := blk_frozen BK385.out 1
            have hnb209 := NB386_379.out
            have hnc209 := NB379_386.out
            have hnb210 := NB386_392.out
            have hnc210 := NB392_386.out
            have hnb211 := NB386_393.out
            have hnc211 := NB393_386.out
            have hcz212_0 : wc.cell? ⟨gb386, 0, none⟩ = some (.int .i64 t382) := (blk_cell BK386.out 0).trans rfl
            have hcz212_1 : wc.cell? ⟨gb386, 1, none⟩ = some (.int .i64 t383) := (blk_cell BK386.out 1).trans rfl
            have hfz212_0 := blk_frozen BK386.out 0
            have hfz212_1 := blk_frozen BK386.out 1
            go_wp2_with (first | ((with_reducible refine gate_callee (f := 13) rfl ?_); refine goesL_ (some 47) rfl rfl Try.func13 (by kernel_rfl) rfl #[.agg #[.int .i64 t380, .int .i64 t381], .agg #[.int .i64 t382, .int .i64 t383], .int .i64 a1] rfl (by (try simp only [List.map_toArray, List.map_cons, List.map_nil]); first | done | rfl | (simp only [List.length_drop, List.length_take]; rfl)) ?_; (with_reducible refine (lift_At.calls kj4 t380 t381 t382 t383 a1 t394 t395 t396 _ A70.out).mono ?_); rintro e w213 ⟨rfl, hb⟩; refine ⟨_, rfl, ?_⟩; have n0_ := Aside0.mk (blk_below (g := gb379) (o := .cells #[.int .i64 a0_0, .int .i64 a0_1] 28 (0, 0)) (by (with_reducible repeat (first | refine blk_drewN ?_ _ | refine blk_drew ?_ | refine blk_alloc ?_ _)); exact BK379.out) hb); have n1_ := Aside0.mk (blk_below (g := gb385) (o := .cells #[.int .i64 t380, .int .i64 t381] 28 (0, 0)) (by (with_reducible repeat (first | refine blk_drewN ?_ _ | refine blk_drew ?_ | refine blk_alloc ?_ _)); exact BK385.out) hb); have n2_ := Aside0.mk (blk_below (g := gb386) (o := .cells #[.int .i64 t382, .int .i64 t383] 23 (0, 0)) (by (with_reducible repeat (first | refine blk_drewN ?_ _ | refine blk_drew ?_ | refine blk_alloc ?_ _)); exact BK386.out) hb); have n3_ := Aside0.mk (blk_below (g := gb392) (o := .cells #[.int .i64 t387, .int .i64 t388] 28 (0, 0)) (by (with_reducible repeat (first | refine blk_drewN ?_ _ | refine blk_drew ?_ | refine blk_alloc ?_ _)); exact BK392.out) hb); have n4_ := Aside0.mk (blk_below (g := gb393) (o := .cells #[.int .i64 t389, .int .i64 t390] 23 (0, 0)) (by (with_reducible repeat (first | refine blk_drewN ?_ _ | refine blk_drew ?_ | refine blk_alloc ?_ _)); exact BK393.out) hb); have n5_ := Aside0.mk (below_step (by repeat (first | (with_reducible first | exact HB.out | apply below_alloc | apply pw_below_drewN | apply below_drew1 | refine below_set ?_ GE379.out | refine below_set ?_ GE385.out | refine below_set ?_ GE386.out | refine below_set ?_ GE392.out | refine below_set ?_ GE393.out) | exact HB.out)) hb); clear BK379; clear BK385; clear BK386; clear BK392; clear BK393; clear HB; have BK379 := n0_; have BK385 := n1_; have BK386 := n2_; have BK392 := n3_; have BK393 := n4_; have HB := n5_; clear n0_ n1_ n2_ n3_ n4_ n5_; (try clear hb); (try clear hb2); (try clear hk); (try clear hi)) | ((with_reducible refine gate_dst (N := 11) rfl ?_); refine box_event ?hg (N := 11) ?hd (cs := #[.int .i64 0, .int .i64 0]) (t := 28) ?hr ?_; (case hd => rfl); (case hg => rfl); (case hr => first | (go_simp; done) | (go_simp; rfl)); intro gb397 hg w214 hbox hb; have n0_ := Aside0.mk (blk_below (g := gb379) (o := .cells #[.int .i64 a0_0, .int .i64 a0_1] 28 (0, 0)) (by (with_reducible repeat (first | refine blk_drewN ?_ _ | refine blk_drew ?_ | refine blk_alloc ?_ _)); exact BK379.out) hb); have n1_ := Aside0.mk (blk_below (g := gb385) (o := .cells #[.int .i64 t380, .int .i64 t381] 28 (0, 0)) (by (with_reducible repeat (first | refine blk_drewN ?_ _ | refine blk_drew ?_ | refine blk_alloc ?_ _)); exact BK385.out) hb); have n2_ := Aside0.mk (blk_below (g := gb386) (o := .cells #[.int .i64 t382, .int .i64 t383] 23 (0, 0)) (by (with_reducible repeat (first | refine blk_drewN ?_ _ | refine blk_drew ?_ | refine blk_alloc ?_ _)); exact BK386.out) hb); have n3_ := Aside0.mk (blk_below (g := gb392) (o := .cells #[.int .i64 t387, .int .i64 t388] 28 (0, 0)) (by (with_reducible repeat (first | refine blk_drewN ?_ _ | refine blk_drew ?_ | refine blk_alloc ?_ _)); exact BK392.out) hb); have n4_ := Aside0.mk (blk_below (g := gb393) (o := .cells #[.int .i64 t389, .int .i64 t390] 23 (0, 0)) (by (with_reducible repeat (first | refine blk_drewN ?_ _ | refine blk_drew ?_ | refine blk_alloc ?_ _)); exact BK393.out) hb); have n5_ := Aside0.mk (below_step (by repeat (first | (with_reducible first | exact HB.out | apply below_alloc | apply pw_below_drewN | apply below_drew1 | refine below_set ?_ GE379.out | refine below_set ?_ GE385.out | refine below_set ?_ GE386.out | refine below_set ?_ GE392.out | refine below_set ?_ GE393.out) | exact HB.out)) hb); have n6_ := Aside0.mk (hbox); have n7_ := Aside0.mk ((by rw [hg]; exact (below_size (by repeat (first | (with_reducible first | exact HB.out | apply below_alloc | apply pw_below_drewN | apply below_drew1 | refine below_set ?_ GE379.out | refine below_set ?_ GE385.out | refine below_set ?_ GE386.out | refine below_set ?_ GE392.out | refine below_set ?_ GE393.out) | exact HB.out))) : w.heap.size ≤ gb397)); have n8_ := Aside0.mk ((by rw [hg]; exact (below_size (by repeat (first | (with_reducible first | exact HB.out | apply below_alloc | apply pw_below_drewN | apply below_drew1 | refine below_set ?_ GE379.out | refine below_set ?_ GE385.out | refine below_set ?_ GE386.out | refine below_set ?_ GE392.out | refine below_set ?_ GE393.out) | exact HB.out))) : w.heap.size ≤ gb397)); have n9_ := Aside0.mk ((by rw [hg]; exact Nat.ne_of_lt (blk_lt (g := gb379) (o := .cells #[.int .i64 a0_0, .int .i64 a0_1] 28 (0, 0)) (by (with_reducible repeat (first | refine blk_drewN ?_ _ | refine blk_drew ?_ | refine blk_alloc ?_ _)); exact BK379.out)) : gb379 ≠ gb397)); have n10_ := Aside0.mk ((by rw [hg]; exact Nat.ne_of_gt (blk_lt (g := gb379) (o := .cells #[.int .i64 a0_0, .int .i64 a0_1] 28 (0, 0)) (by (with_reducible repeat (first | refine blk_drewN ?_ _ | refine blk_drew ?_ | refine blk_alloc ?_ _)); exact BK379.out)) : gb397 ≠ gb379)); have n11_ := Aside0.mk ((by rw [hg]; exact Nat.ne_of_lt (blk_lt (g := gb385) (o := .cells #[.int .i64 t380, .int .i64 t381] 28 (0, 0)) (by (with_reducible repeat (first | refine blk_drewN ?_ _ | refine blk_drew ?_ | refine blk_alloc ?_ _)); exact BK385.out)) : gb385 ≠ gb397)); have n12_ := Aside0.mk ((by rw [hg]; exact Nat.ne_of_gt (blk_lt (g := gb385) (o := .cells #[.int .i64 t380, .int .i64 t381] 28 (0, 0)) (by (with_reducible repeat (first | refine blk_drewN ?_ _ | refine blk_drew ?_ | refine blk_alloc ?_ _)); exact BK385.out)) : gb397 ≠ gb385)); have n13_ := Aside0.mk ((by rw [hg]; exact Nat.ne_of_lt (blk_lt (g := gb386) (o := .cells #[.int .i64 t382, .int .i64 t383] 23 (0, 0)) (by (with_reducible repeat (first | refine blk_drewN ?_ _ | refine blk_drew ?_ | refine blk_alloc ?_ _)); exact BK386.out)) : gb386 ≠ gb397)); have n14_ := Aside0.mk ((by rw [hg]; exact Nat.ne_of_gt (blk_lt (g := gb386) (o := .cells #[.int .i64 t382, .int .i64 t383] 23 (0, 0)) (by (with_reducible repeat (first | refine blk_drewN ?_ _ | refine blk_drew ?_ | refine blk_alloc ?_ _)); exact BK386.out)) : gb397 ≠ gb386)); have n15_ := Aside0.mk ((by rw [hg]; exact Nat.ne_of_lt (blk_lt (g := gb392) (o := .cells #[.int .i64 t387, .int .i64 t388] 28 (0, 0)) (by (with_reducible repeat (first | refine blk_drewN ?_ _ | refine blk_drew ?_ | refine blk_alloc ?_ _)); exact BK392.out)) : gb392 ≠ gb397)); have n16_ := Aside0.mk ((by rw [hg]; exact Nat.ne_of_gt (blk_lt (g := gb392) (o := .cells #[.int .i64 t387, .int .i64 t388] 28 (0, 0)) (by (with_reducible repeat (first | refine blk_drewN ?_ _ | refine blk_drew ?_ | refine blk_alloc ?_ _)); exact BK392.out)) : gb397 ≠ gb392)); have n17_ := Aside0.mk ((by rw [hg]; exact Nat.ne_of_lt (blk_lt (g := gb393) (o := .cells #[.int .i64 t389, .int .i64 t390] 23 (0, 0)) (by (with_reducible repeat (first | refine blk_drewN ?_ _ | refine blk_drew ?_ | refine blk_alloc ?_ _)); exact BK393.out)) : gb393 ≠ gb397)); have n18_ := Aside0.mk ((by rw [hg]; exact Nat.ne_of_gt (blk_lt (g := gb393) (o := .cells #[.int .i64 t389, .int .i64 t390] 23 (0, 0)) (by (with_reducible repeat (first | refine blk_drewN ?_ _ | refine blk_drew ?_ | refine blk_alloc ?_ _)); exact BK393.out)) : gb397 ≠ gb393)); clear BK379; clear BK385; clear BK386; clear BK392; clear BK393; clear HB; have BK379 := n0_; have BK385 := n1_; have BK386 := n2_; have BK392 := n3_; have BK393 := n4_; have HB := n5_; have BK397 := n6_; have GW397 := n7_; have GE397 := n8_; have NB379_397 := n9_; have NB397_379 := n10_; have NB385_397 := n11_; have NB397_385 := n12_; have NB386_397 := n13_; have NB397_386 := n14_; have NB392_397 := n15_; have NB397_392 := n16_; have NB393_397 := n17_; have NB397_393 := n18_; clear n0_ n1_ n2_ n3_ n4_ n5_ n6_ n7_ n8_ n9_ n10_ n11_ n12_ n13_ n14_ n15_ n16_ n17_ n18_; clear hb hbox hg; have hnb215 := NB397_379.out; have hnc215 := NB379_397.out; have hnb216 := NB397_385.out; have hnc216 := NB385_397.out; have hnb217 := NB397_386.out; have hnc217 := NB386_397.out; have hnb218 := NB397_392.out; have hnc218 := NB392_397.out; have hnb219 := NB397_393.out; have hnc219 := NB393_397.out; have hcz220_0 : w214.cell? ⟨gb397, 0, none⟩ = some (.int .i64 0) := (blk_cell BK397.out 0).trans rfl; have hcz220_1 : w214.cell? ⟨gb397, 1, none⟩ = some (.int .i64 0) := (blk_cell BK397.out 1).trans rfl; have hfz220_0 := blk_frozen BK397.out 0; have hfz220_1 := blk_frozen BK397.out 1; have hnb221 := NB379_392.out; have hnc221 := NB392_379.out; have hnb222 := NB379_393.out; have hnc222 := NB393_379.out; have hcz223_0 : w214.cell? ⟨gb379, 0, none⟩ = some (.int .i64 a0_0) := (blk_cell BK379.out 0).trans rfl; have hcz223_1 : w214.cell? ⟨gb379, 1, none⟩ = some (.int .i64 a0_1) := (blk_cell BK379.out 1).trans rfl; have hfz223_0 := blk_frozen BK379.out 0; have hfz223_1 := blk_frozen BK379.out 1))
            go_ret
            exact ⟨by first | rfl | (simp [errW_none, errW_some] <;> rfl) | (simp [*, errW_none, errW_some] <;> rfl), by repeat (first | (with_reducible first | exact HB.out | apply below_alloc | apply pw_below_drewN | apply below_drew1 | refine below_set ?_ GE379.out | refine below_set ?_ GE385.out | refine below_set ?_ GE386.out | refine below_set ?_ GE392.out | refine below_set ?_ GE393.out | refine below_set ?_ GE397.out) | exact HB.out)⟩
        · replace c69 := Bool.eq_false_iff.mpr c69
          subst c69
          have H1 : ((zelligelaw06_lives.f kj4).bind fun t399 => (some t399)) = some r := by rw [if_neg (show ¬ (false = true) by decide)] at H; exact H
          clear H
          have H := H1
          clear H1
          replace H := Option.bind_eq_some_iff.mp H
          obtain ⟨t399, A2240, H⟩ := H
          replace H : (some t399) = some r := H
          have A224 := Aside0.mk A2240
          clear A2240
          obtain rfl := Option.some.inj H
          go_wp2_with (first | ((with_reducible refine gate_callee (f := 10) rfl ?_); refine goesL_ (some 42) rfl rfl Try.func10 (by kernel_rfl) rfl #[] rfl (by (try simp only [List.map_toArray, List.map_cons, List.map_nil]); first | done | rfl | (simp only [List.length_drop, List.length_take]; rfl)) ?_; (with_reducible refine (zelligelaw06_lives.calls kj4  t399 _ A224.out).mono ?_); rintro e w225 ⟨rfl, hb⟩; refine ⟨_, rfl, ?_⟩; have n0_ := Aside0.mk (blk_below (g := gb379) (o := .cells #[.int .i64 a0_0, .int .i64 a0_1] 28 (0, 0)) (by (with_reducible repeat (first | refine blk_drewN ?_ _ | refine blk_drew ?_ | refine blk_alloc ?_ _)); exact BK379.out) hb); have n1_ := Aside0.mk (blk_below (g := gb385) (o := .cells #[.int .i64 t380, .int .i64 t381] 28 (0, 0)) (by (with_reducible repeat (first | refine blk_drewN ?_ _ | refine blk_drew ?_ | refine blk_alloc ?_ _)); exact BK385.out) hb); have n2_ := Aside0.mk (blk_below (g := gb386) (o := .cells #[.int .i64 t382, .int .i64 t383] 23 (0, 0)) (by (with_reducible repeat (first | refine blk_drewN ?_ _ | refine blk_drew ?_ | refine blk_alloc ?_ _)); exact BK386.out) hb); have n3_ := Aside0.mk (blk_below (g := gb392) (o := .cells #[.int .i64 t387, .int .i64 t388] 28 (0, 0)) (by (with_reducible repeat (first | refine blk_drewN ?_ _ | refine blk_drew ?_ | refine blk_alloc ?_ _)); exact BK392.out) hb); have n4_ := Aside0.mk (blk_below (g := gb393) (o := .cells #[.int .i64 t389, .int .i64 t390] 23 (0, 0)) (by (with_reducible repeat (first | refine blk_drewN ?_ _ | refine blk_drew ?_ | refine blk_alloc ?_ _)); exact BK393.out) hb); have n5_ := Aside0.mk (below_step (by repeat (first | (with_reducible first | exact HB.out | apply below_alloc | apply pw_below_drewN | apply below_drew1 | refine below_set ?_ GE379.out | refine below_set ?_ GE385.out | refine below_set ?_ GE386.out | refine below_set ?_ GE392.out | refine below_set ?_ GE393.out) | exact HB.out)) hb); clear BK379; clear BK385; clear BK386; clear BK392; clear BK393; clear HB; have BK379 := n0_; have BK385 := n1_; have BK386 := n2_; have BK392 := n3_; have BK393 := n4_; have HB := n5_; clear n0_ n1_ n2_ n3_ n4_ n5_; (try clear hb); (try clear hb2); (try clear hk); (try clear hi)))
          go_ret
          exact ⟨by first | rfl | (simp [errW_none, errW_some] <;> rfl) | (simp [*, errW_none, errW_some] <;> rfl), by repeat (first | (with_reducible first | exact HB.out | apply below_alloc | apply pw_below_drewN | apply below_drew1 | refine below_set ?_ GE379.out | refine below_set ?_ GE385.out | refine below_set ?_ GE386.out | refine below_set ?_ GE392.out | refine below_set ?_ GE393.out) | exact HB.out)⟩

end Go.Proofs.Ytgjpemfjccajkaa.F
end

section
/- LiftHomes: the law answers true for all points and sides. -/
namespace Go.Proofs.Ytgjpemfjccajkaa.LiftH
open Go Go.RowKit Go.Proofs.YtgjpemfjccajkaaW.PrintWords Go.Proofs.Ytgjpemfjccajkaa.F Go.Proofs.Ytgjpemfjccajkaa.Dig
set_option linter.unusedVariables false
theorem lives_true {k : Nat} (hk : 10 ≤ k) : zelligelaw06_lives.f k = some true :=
  at_rounds (g := fun k => zelligelaw06_lives.f k) (fun k => zelligelaw06_lives.mono k) hk (show zelligelaw06_lives.f 10 = some true by decide +kernel)
/-- What can be moved so far: the side, the point, the place. -/
abbrev AtOk (x y ox oy s : Int) : Prop := (1 ≤ s ∧ s ≤ 1099511627776) ∧ (InC x ∧ InC y) ∧ InC (x + ox * s) ∧ InC (y + oy * s)
theorem within_f (a : Int) : lift_within.f a = some (decide (InC a)) := by
  unfold lift_within.f
  by_cases h : a ≥ -1099511627776
  · rw [if_pos h]
    congr 1
    rw [decide_eq_decide]
    exact ⟨fun k => ⟨h, k⟩, fun k => k.2⟩
  · rw [if_neg h, decide_eq_false (fun k => h k.1)]
theorem lcan_f (a b : Int) : lift_can.f a b = some (decide (InC a ∧ InC b)) := by
  unfold lift_can.f
  rw [within_f, Option.bind_some]
  by_cases h : InC a
  · rw [if_pos (decide_eq_true h), within_f, Option.bind_some]
    congr 1
    rw [decide_eq_decide]
    exact ⟨fun k => ⟨h, k⟩, fun k => k.2⟩
  · rw [if_neg (by rw [decide_eq_true_eq]; exact h), decide_eq_false (fun k => h k.1)]
theorem ltorus_f (s : Int) : lift_torus.f s = some (decide (1 ≤ s ∧ s ≤ 1099511627776)) := by
  unfold lift_torus.f
  by_cases h : s ≥ 1
  · rw [if_pos h]
    congr 1
    rw [decide_eq_decide]
    exact ⟨fun k => ⟨h, k⟩, fun k => k.2⟩
  · rw [if_neg h, decide_eq_false (fun k => h k.1)]
theorem move_f {n b s : Int} (hn : InC n) (hs : 1 ≤ s ∧ s ≤ 1099511627776) {k : Nat} (hk : 5 ≤ k) :
    ∃ r, lift_move.f k n b s = some (r, decide (InC (n + b * s))) ∧ (InC (n + b * s) → r = n + b * s) := by
  obtain ⟨k, rfl⟩ : ∃ m, k = m + 1 := ⟨k - 1, by omega⟩
  have f1 : s * (2199023255552 / s) ≤ 2199023255552 := Int.mul_ediv_self_le (by omega)
  have f2 : 2199023255552 < s * (2199023255552 / s) + s := Int.lt_mul_ediv_self_add (by omega)
  have f3 : 0 ≤ (2199023255552 : Int) / s := Int.ediv_nonneg (by omega) (by omega)
  have f4 : (2199023255552 : Int) / s ≤ 2199023255552 := Int.ediv_le_self _ (by omega)
  have ft : Int.tdiv 2199023255552 s = 2199023255552 / s := Int.tdiv_eq_ediv_of_nonneg (by omega)
  rw [Int.mul_comm s] at f1 f2
  generalize (2199023255552 : Int) / s = F at f1 f2 f3 f4 ft
  unfold lift_move.f
  by_cases h1 : b < -2199023255552
  · have := Int.mul_le_mul_of_nonneg_right (show b ≤ -2199023255553 by omega) (show 0 ≤ s by omega)
    rw [if_pos h1, lift_move.j0, if_pos rfl, decide_eq_false (by rintro ⟨h, _⟩; omega)]
    exact ⟨0, rfl, fun h => absurd h.1 (by omega)⟩
  · rw [if_neg h1]
    by_cases h2 : b > 2199023255552
    · have := Int.mul_le_mul_of_nonneg_right (show (2199023255553 : Int) ≤ b by omega) (show 0 ≤ s by omega)
      rw [decide_eq_true h2, lift_move.j0, if_pos rfl, decide_eq_false (by rintro ⟨_, h⟩; omega)]
      exact ⟨0, rfl, fun h => absurd h.2 (by omega)⟩
    · rw [decide_eq_false h2, lift_move.j0, if_neg (by decide), if_neg (by omega), ft, w64 (x := F) (by omega) (by omega), w64 (x := -F) (by omega) (by omega)]
      by_cases h3 : b < -F
      · have := Int.mul_le_mul_of_nonneg_right (show b ≤ -F - 1 by omega) (show 0 ≤ s by omega)
        rw [Int.sub_mul, Int.neg_mul] at this
        rw [if_pos h3, decide_eq_false (by rintro ⟨h, _⟩; omega)]
        exact ⟨0, rfl, fun h => absurd h.1 (by omega)⟩
      · rw [if_neg h3]
        by_cases h4 : b > F
        · have := Int.mul_le_mul_of_nonneg_right (show F + 1 ≤ b by omega) (show 0 ≤ s by omega)
          rw [Int.add_mul] at this
          rw [if_pos h4, decide_eq_false (by rintro ⟨_, h⟩; omega)]
          exact ⟨0, rfl, fun h => absurd h.2 (by omega)⟩
        · have a1 := Int.mul_le_mul_of_nonneg_right (show b ≤ F by omega) (show 0 ≤ s by omega)
          have a2 := Int.mul_le_mul_of_nonneg_right (show -F ≤ b by omega) (show 0 ≤ s by omega)
          rw [Int.neg_mul] at a2
          rw [if_neg h4, w64 (x := b * s) (by omega) (by omega), w64 (x := n + b * s) (by omega) (by omega), within_f, Option.bind_some]
          exact ⟨_, rfl, fun _ => rfl⟩
theorem lat_f (x y ox oy s : Int) {k : Nat} (hk : 10 ≤ k) : lift_at.f k x y ox oy s = some (if AtOk x y ox oy s then (x + ox * s, y + oy * s, true) else (0, 0, false)) := by
  obtain ⟨k, rfl⟩ : ∃ m, k = m + 1 := ⟨k - 1, by omega⟩
  unfold lift_at.f
  rw [ltorus_f, Option.bind_some]
  by_cases h1 : 1 ≤ s ∧ s ≤ 1099511627776
  · rw [if_pos (decide_eq_true h1), lcan_f, Option.bind_some]
    by_cases h2 : InC x ∧ InC y
    · rw [decide_eq_true h2, lift_at.j0, if_neg (by decide)]
      obtain ⟨r, hr, er⟩ := move_f (b := ox) h2.1 h1 (k := k) (by omega)
      obtain ⟨q, hq, eq⟩ := move_f (b := oy) h2.2 h1 (k := k) (by omega)
      rw [hr, Option.bind_some, hq, Option.bind_some]
      by_cases h3 : InC (x + ox * s)
      · rw [if_pos (decide_eq_true h3)]
        by_cases h4 : InC (y + oy * s)
        · rw [if_pos (decide_eq_true h4), if_pos ⟨h1, h2, h3, h4⟩, er h3, eq h4]
        · rw [if_neg (by rw [decide_eq_true_eq]; exact h4), if_neg (fun h => h4 h.2.2.2)]
      · rw [if_neg (by rw [decide_eq_true_eq]; exact h3), if_neg (fun h => h3 h.2.2.1)]
    · rw [decide_eq_false h2, lift_at.j0, if_pos (by decide), if_neg (fun h => h2 h.2.1)]
  · rw [if_neg (by rw [decide_eq_true_eq]; exact h1), lift_at.j0, if_pos rfl, if_neg (fun h => h1 h.1)]
theorem At_f (x y ox oy s : Int) {k : Nat} (hk : 10 ≤ k) : lift_At.f k x y ox oy s = some (if AtOk x y ox oy s then (x + ox * s, y + oy * s, true) else (0, 0, false)) := by
  unfold lift_At.f
  rw [lat_f _ _ _ _ _ hk, Option.bind_some]

theorem part_f {n s : Int} (hn : InC n) (hs : 1 ≤ s ∧ s ≤ 1099511627776) : lift_part.f n s = some (n % s, n / s) := by
  have hd := divs hs hn
  unfold lift_part.f
  rw [if_neg (by omega)]
  rcases Int.lt_or_le n 0 with h | h
  · obtain ⟨p, rfl⟩ : ∃ p : Nat, n = -(p : Int) := ⟨n.natAbs, by omega⟩
    have e1 : Int.tmod (-(p : Int)) s = -((p : Int) % s) := by rw [Int.neg_tmod, Int.tmod_eq_emod_of_nonneg (by omega)]
    have e2 : Int.tdiv (-(p : Int)) s = -((p : Int) / s) := by rw [Int.neg_tdiv, Int.tdiv_eq_ediv_of_nonneg (by omega)]
    have h1 := Int.emod_nonneg (p : Int) (show s ≠ 0 by omega)
    have h2 := Int.emod_lt_of_pos (p : Int) (show 0 < s by omega)
    have h3 := Int.mul_ediv_add_emod (p : Int) s
    have h4 : (p : Int) / s ≤ p := Int.ediv_le_self _ (by omega)
    have h5 : 0 ≤ (p : Int) / s := Int.ediv_nonneg (by omega) (by omega)
    have hu := fun q r => (Int.ediv_emod_unique (a := -(p : Int)) (b := s) (r := r) (q := q) (by omega)).2
    rw [e1, e2]
    by_cases h0 : (p : Int) % s = 0
    · obtain ⟨u1, u2⟩ := hu (-((p : Int) / s)) 0 ⟨by rw [Int.mul_neg]; omega, by omega, by omega⟩
      rw [if_neg (by omega), u1, u2, h0, w64 (by omega) (by omega)]
      rfl
    · obtain ⟨u1, u2⟩ := hu (-((p : Int) / s) - 1) (s - (p : Int) % s) ⟨by rw [Int.mul_sub, Int.mul_neg, Int.mul_one]; omega, by omega, by omega⟩
      rw [if_pos (by omega), u1, u2, w64 (x := -((p : Int) / s)) (by omega) (by omega), w64 (by omega) (by omega), w64 (by omega) (by omega)]
      congr 2
      omega
  · rw [Int.tmod_eq_emod_of_nonneg h, Int.tdiv_eq_ediv_of_nonneg h, if_neg (by omega), w64 (by omega) (by omega)]
theorem lhome_f (x y s : Int) {k : Nat} (hk : 1 ≤ k) : lift_Home.f k x y s = some (if HomeOk x y s then (x % s, y % s, x / s, y / s, true) else (0, 0, 0, 0, false)) := by
  obtain ⟨k, rfl⟩ : ∃ m, k = m + 1 := ⟨k - 1, by omega⟩
  unfold lift_Home.f
  rw [ltorus_f, Option.bind_some]
  by_cases h1 : 1 ≤ s ∧ s ≤ 1099511627776
  · rw [if_pos (decide_eq_true h1), lcan_f, Option.bind_some]
    by_cases h2 : InC x ∧ InC y
    · rw [decide_eq_true h2, lift_Home.j0, if_neg (by decide), part_f h2.1 h1, Option.bind_some, part_f h2.2 h1, Option.bind_some, if_pos ⟨h1, h2⟩]
    · rw [decide_eq_false h2, lift_Home.j0, if_pos (by decide), if_neg (fun h => h2 h.2)]
  · rw [if_neg (by rw [decide_eq_true_eq]; exact h1), lift_Home.j0, if_pos rfl, if_neg (fun h => h1 h.1)]
theorem homes_f (x y s : Int) (hx : I64 x) (hy : I64 y) (hs : I64 s) : zelligelaw06_LiftHomes.f 100 x y s = some true := by
  unfold zelligelaw06_LiftHomes.f
  have hr : zelligeref06_Home.f x y s = some (if HomeOk x y s then (x % s, y % s, x / s, y / s, true) else (0, 0, 0, 0, false)) := by unfold zelligeref06_Home.f; rw [if_pos ⟨hx, hy, hs⟩]
  rw [lhome_f _ _ _ (by omega), hr, Option.bind_some, Option.bind_some]
  by_cases ok : HomeOk x y s
  · obtain ⟨h1, h2, h3⟩ := ok
    have d1 := divs h1 h2
    have d2 := divs h1 h3
    have e1 : x % s + x / s * s = x := by have := Int.mul_ediv_add_emod x s; rw [Int.mul_comm]; omega
    have e2 : y % s + y / s * s = y := by have := Int.mul_ediv_add_emod y s; rw [Int.mul_comm]; omega
    have hh : HomeOk x y s := ⟨h1, h2, h3⟩
    rw [if_pos hh]
    have hok : AtOk (x % s) (y % s) (x / s) (y / s) s := ⟨h1, ⟨⟨by omega, by omega⟩, ⟨by omega, by omega⟩⟩, by rw [e1]; exact h2, by rw [e2]; exact h3⟩
    rw [if_neg (by rw [beq_self_eq_true, beq_self_eq_true]; decide), if_neg (by rw [beq_self_eq_true, beq_self_eq_true]; decide), bne_self_eq_false, zelligelaw06_LiftHomes.j0, if_neg (by decide), if_pos rfl, At_f _ _ _ _ _ (by omega), Option.bind_some, if_pos hok, e1, e2,
      if_pos (by rw [beq_self_eq_true, beq_self_eq_true]; rfl), if_pos rfl, if_pos (show x % s ≥ 0 by omega), if_pos (show x % s < s by omega), if_pos (show y % s ≥ 0 by omega), if_pos (show y % s < s by omega), lives_true (by omega)]
    rfl
  · rw [if_neg ok]
    rw [if_neg (by decide), if_neg (by decide), bne_self_eq_false, zelligelaw06_LiftHomes.j0, if_neg (by decide), if_neg (by decide), lives_true (by omega)]
    rfl
theorem homes_calls (x y s : Int) (w : World) (hx : (Lit.int .i64 x).wf = true) (hy : (Lit.int .i64 y).wf = true) (hs : (Lit.int .i64 s).wf = true) :
    Calls Try.prog 4 #[.agg #[.int .i64 x, .int .i64 y], .int .i64 s] w fun e w' => e = .returned (.bool true) ∧ Below w.heap.size w w' :=
  zelligelaw06_LiftHomes.calls 100 x y s true w (homes_f x y s (bounds_i64 hx) (bounds_i64 hy) (bounds_i64 hs))
end Go.Proofs.Ytgjpemfjccajkaa.LiftH
end
