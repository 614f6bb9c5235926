/- TieTurns: own texts in one (part 5 of 5): contracts of the functions that the law reaches. -/
import Derived.Test.YtlkngfidohiepaaBTieTurnsd

section
namespace Go.Proofs.Ytlkngfidohiepaa.Tl
open Go Go.RowKit Go.Proofs.YtlkngfidohiepaaW.PrintWords Go.Proofs.Ytlkngfidohiepaa.F Go.Proofs.Ytlkngfidohiepaa.Wd Go.Proofs.Ytlkngfidohiepaa.Pm Go.Proofs.Ytlkngfidohiepaa.Pd Go.Proofs.Ytlkngfidohiepaa.Tm
set_option linter.unusedVariables false
set_option linter.unusedSimpArgs false
def ord (a b c d : Int) : Int := if a < c then -1 else if a > c then 1 else if b < d then -1 else if b > d then 1 else 0
theorem nan_f (a : Int) : cmp_isNaN_int64.f a = some false := by unfold cmp_isNaN_int64.f; rw [bne_self_eq_false]
theorem compare_f (a b : Int) : cmp_Compare_int64.f a b = some (if a < b then -1 else if a > b then 1 else 0) := by
 unfold cmp_Compare_int64.f
 rw [nan_f, nan_f, Option.bind_some, Option.bind_some, if_neg (by decide), if_neg (by decide)]
 split
 ·rfl
 ·split <;> rfl
theorem or_f (x y : Int) {k : Nat} (hk : 10 ≤ k) : cmp_Or_int.f k [x, y] = some (if x = 0 then y else x) := by
 obtain ⟨k, rfl⟩ : ∃ m, k = m + 3 := ⟨k - 3, by omega⟩
 have r0 : rd [x, y] 0 = x := rfl
 have r1 : rd [x, y] 1 = y := rfl
 have e0 : wrap64 ((0 : Int) + 1) = 1 := p64 (by omega)
 have e1 : wrap64 ((1 : Int) + 1) = 2 := p64 (by omega)
 unfold cmp_Or_int.f
 rw [cmp_Or_int.l0, if_pos (by simp), if_pos (by omega), if_pos (by simp), r0, e0]
 by_cases h : x = 0
 ·rw [if_pos h, if_pos h, cmp_Or_int.l0, if_pos (by simp), if_pos (by omega), if_pos (by simp), r1, e1]
  by_cases h2 : y = 0
  ·rw [if_pos h2, cmp_Or_int.l0, if_neg (by simp), h2]
  ·rw [if_neg h2]
 ·rw [if_neg h, if_neg h]
theorem cmp_f (a b c d : Int) {k : Nat} (hk : 10 ≤ k) : lift_Cmp.f k a b c d = some (ord a b c d) := by
 unfold lift_Cmp.f
 rw [compare_f, compare_f, Option.bind_some, Option.bind_some, or_f _ _ hk, Option.bind_some]
 congr 1
 unfold ord
 split <;> split <;> (try split) <;> (try split) <;> omega
theorem ord_ky {a b c d : Int} (h1 : CoP a b) (h2 : CoP c d) : ord a b c d > 0 ↔ ky c d < ky a b := by
 have := ky_lt (a0 := c) (a1 := d) (b0 := a) (b1 := b) h2.2 h1.2
 rw [this]
 unfold ord
 split
 ·omega
 ·split
  ·omega
  ·split
   ·omega
   ·split <;> omega
def kyS (p : S23) : Int := ky p.f0 p.f1
theorem last_step (l : List S23) (at_ i i' : Int) (k : Nat) (hk : 10 ≤ k) (hl : l.length = 4) (h0 : 0 ≤ at_ ∧ at_ < 4) (h1 : 0 ≤ i ∧ i < 4) (hi : i' = i + 1) (hc : CoP (rd_T23 l i).f0 (rd_T23 l i).f1) (hd : CoP (rd_T23 l at_).f0 (rd_T23 l at_).f1) :
  tie_last.l0 (k + 1) l at_ 4 i = tie_last.l0 k l (if kyS (rd_T23 l at_) < kyS (rd_T23 l i) then i else at_) 4 i' := by
 subst hi
 rw [tie_last.l0, if_pos h1.2, if_pos h1.1, if_pos (by omega), if_pos h0.1, if_pos (by omega), cmp_f _ _ _ _ hk, Option.bind_some, p64 (by omega)]
 unfold kyS
 by_cases h : ord (rd_T23 l i).f0 (rd_T23 l i).f1 (rd_T23 l at_).f0 (rd_T23 l at_).f1 > 0
 ·rw [if_pos h, if_pos ((ord_ky hc hd).1 h)]
 ·rw [if_neg h, if_neg (fun q => h ((ord_ky hc hd).2 q))]
def laS (ka kb kc kd : Int) : Int := if kb ≤ ka ∧ kc ≤ ka ∧ kd ≤ ka then 0 else if kc ≤ kb ∧ kd ≤ kb then 1 else if kd ≤ kc then 2 else 3
theorem last_f {a0 a1 b0 b1 c0 c1 d0 d1 : Int} (ha : CoP a0 a1) (hb : CoP b0 b1) (hc : CoP c0 c1) (hd : CoP d0 d1) {k : Nat} (hk : 2000 ≤ k) :
  tie_last.f k [(⟨a0, a1⟩ : S23), (⟨b0, b1⟩ : S23), (⟨c0, c1⟩ : S23), (⟨d0, d1⟩ : S23)] = some (laS (ky a0 a1) (ky b0 b1) (ky c0 c1) (ky d0 d1)) := by
 obtain ⟨m, rfl⟩ : ∃ m, k = m + 5 := ⟨k - 5, by omega⟩
 have hm : 10 ≤ m := by omega
 unfold tie_last.f
 obtain ⟨L, hL⟩ : ∃ L : List S23, L = [(⟨a0, a1⟩ : S23), (⟨b0, b1⟩ : S23), (⟨c0, c1⟩ : S23), (⟨d0, d1⟩ : S23)] := ⟨_, rfl⟩
 have r0 : rd_T23 L 0 = ⟨a0, a1⟩ := by rw [hL]; rfl
 have r1 : rd_T23 L 1 = ⟨b0, b1⟩ := by rw [hL]; rfl
 have r2 : rd_T23 L 2 = ⟨c0, c1⟩ := by rw [hL]; rfl
 have r3 : rd_T23 L 3 = ⟨d0, d1⟩ := by rw [hL]; rfl
 have hl : L.length = 4 := by rw [hL]; rfl
 have c0' : CoP (rd_T23 L 0).f0 (rd_T23 L 0).f1 := by rw [r0]; exact ha
 have c1' : CoP (rd_T23 L 1).f0 (rd_T23 L 1).f1 := by rw [r1]; exact hb
 have c2' : CoP (rd_T23 L 2).f0 (rd_T23 L 2).f1 := by rw [r2]; exact hc
 have c3' : CoP (rd_T23 L 3).f0 (rd_T23 L 3).f1 := by rw [r3]; exact hd
 have any (i : Int) (h : i = 0 ∨ i = 1 ∨ i = 2 ∨ i = 3) : CoP (rd_T23 L i).f0 (rd_T23 L i).f1 := by rcases h with rfl | rfl | rfl | rfl <;> assumption
 rw [← hL, hl]
 show tie_last.l0 (m + 4 + 1) L 0 4 0 = _
 have k0 : kyS (rd_T23 L 0) = ky a0 a1 := by rw [r0]; rfl
 have k1 : kyS (rd_T23 L 1) = ky b0 b1 := by rw [r1]; rfl
 have k2 : kyS (rd_T23 L 2) = ky c0 c1 := by rw [r2]; rfl
 have k3 : kyS (rd_T23 L 3) = ky d0 d1 := by rw [r3]; rfl
 rw [last_step L 0 0 1 (m + 4) (by omega) hl (by omega) (by omega) rfl c0' c0', if_neg (Int.lt_irrefl _), last_step L 0 1 2 (m + 3) (by omega) hl (by omega) (by omega) rfl c1' c0', k0, k1]
 obtain ⟨x, hx, hx'⟩ : ∃ x, x = (if ky a0 a1 < ky b0 b1 then (1 : Int) else 0) ∧ (x = 0 ∨ x = 1) := ⟨_, rfl, by split <;> omega⟩
 rw [← hx, last_step L x 2 3 (m + 2) (by omega) hl (by omega) (by omega) rfl c2' (any x (by omega)), k2]
 obtain ⟨y, hy, hy'⟩ : ∃ y, y = (if kyS (rd_T23 L x) < ky c0 c1 then (2 : Int) else x) ∧ (y = 0 ∨ y = 1 ∨ y = 2) := ⟨_, rfl, by split <;> omega⟩
 rw [← hy, last_step L y 3 4 (m + 1) (by omega) hl (by omega) (by omega) rfl c3' (any y (by omega)), k3, tie_last.l0, if_neg (by omega)]
 congr 1
 subst hy
 unfold laS
 by_cases g : ky a0 a1 < ky b0 b1
 ·rw [if_pos g] at hx; subst hx; rw [k1]
  by_cases g2 : ky b0 b1 < ky c0 c1
  ·rw [if_pos g2, k2]; split <;> split <;> (try split) <;> (try split) <;> omega
  ·rw [if_neg g2, k1]; split <;> split <;> (try split) <;> (try split) <;> omega
 ·rw [if_neg g] at hx; subst hx; rw [k0]
  by_cases g2 : ky a0 a1 < ky c0 c1
  ·rw [if_pos g2, k2]; split <;> split <;> (try split) <;> (try split) <;> omega
  ·rw [if_neg g2, k0]; split <;> split <;> (try split) <;> (try split) <;> omega
def tieS (a0 a1 b0 b1 c0 c1 d0 d1 : Int) : Bool := decide ((CoP a0 a1 ∧ CoP b0 b1 ∧ CoP c0 c1) ∧ 0 < ar a0 a1 b0 b1 c0 c1 ∧ ¬ (d0 = a0 ∧ d1 = a1) ∧ ¬ (d0 = b0 ∧ d1 = b1) ∧ ¬ (d0 = c0 ∧ d1 = c1) ∧ does a0 a1 b0 b1 c0 c1 d0 d1)
theorem eq_b (a b c d : Int) : ((a == b) && (c == d)) = decide (a = b ∧ c = d) := by
 rw [Bool.eq_iff_iff, Bool.and_eq_true, beq_iff_eq, beq_iff_eq, decide_eq_true_eq]
theorem one_b (n : Int) : (n.sign == 1) = decide (0 < n) := by
 rw [Bool.eq_iff_iff, beq_iff_eq, decide_eq_true_eq]; exact sign_pos n
theorem or_one (a0 a1 b0 b1 c0 c1 : Int) : orS a0 a1 b0 b1 c0 c1 = 1 ↔ (CoP a0 a1 ∧ CoP b0 b1 ∧ CoP c0 c1) ∧ 0 < ar a0 a1 b0 b1 c0 c1 := by
 unfold orS
 by_cases h : CoP a0 a1 ∧ CoP b0 b1 ∧ CoP c0 c1
 ·rw [if_pos h, sign_pos]; exact ⟨fun q => ⟨h, q⟩, fun q => q.2⟩
 ·rw [if_neg h]; exact ⟨fun q => by omega, fun q => absurd q.1 h⟩
theorem or_b {a0 a1 b0 b1 c0 c1 : Int} (ha : CoP a0 a1) (hb : CoP b0 b1) (hc : CoP c0 c1) : (orS a0 a1 b0 b1 c0 c1 == 1) = decide (0 < ar a0 a1 b0 b1 c0 c1) := by
 unfold orS
 rw [if_pos ⟨ha, hb, hc⟩, one_b]
theorem conflict_f {a0 a1 b0 b1 c0 c1 d0 d1 : Int} (hd : CoP d0 d1) {k : Nat} (hk : 2001 ≤ k) : tie_conflict.f k a0 a1 b0 b1 c0 c1 d0 d1 = some (tieS a0 a1 b0 b1 c0 c1 d0 d1) := by
 obtain ⟨k, rfl⟩ : ∃ m, k = m + 1 := ⟨k - 1, by omega⟩
 have hk' : 2000 ≤ k := by omega
 unfold tie_conflict.f
 rw [Orient_f _ _ _ _ _ _ (by omega), Option.bind_some, eq_b, eq_b, eq_b]
 have no : ∀ {x : Bool}, x = true → tie_conflict.j0 (k + 1) x a0 a1 b0 b1 c0 c1 d0 d1 = some false := fun h => by rw [tie_conflict.j0, if_pos h]
 by_cases g : orS a0 a1 b0 b1 c0 c1 = 1
 ·rw [if_pos g]
  obtain ⟨⟨ha, hb, hc⟩, g⟩ := (or_one _ _ _ _ _ _).1 g
  by_cases g1 : d0 = a0 ∧ d1 = a1
  ·rw [if_pos (decide_eq_true g1), no rfl]
   unfold tieS; rw [decide_eq_false (fun q => q.2.2.1 g1)]
  rw [if_neg (by rw [decide_eq_true_eq]; exact g1)]
  by_cases g2 : d0 = b0 ∧ d1 = b1
  ·rw [if_pos (decide_eq_true g2), no rfl]
   unfold tieS; rw [decide_eq_false (fun q => q.2.2.2.1 g2)]
  rw [if_neg (by rw [decide_eq_true_eq]; exact g2)]
  by_cases g3 : d0 = c0 ∧ d1 = c1
  ·rw [no (decide_eq_true g3)]
   unfold tieS; rw [decide_eq_false (fun q => q.2.2.2.2.1 g3)]
  have e : tieS a0 a1 b0 b1 c0 c1 d0 d1 = decide (does a0 a1 b0 b1 c0 c1 d0 d1) := by
   unfold tieS
   rw [decide_eq_decide]
   exact ⟨fun q => q.2.2.2.2.2, fun q => ⟨⟨ha, hb, hc⟩, g, g1, g2, g3, q⟩⟩
  have nk1 := (not_congr (ky_eq (a0 := d0) (a1 := d1) (b0 := a0) (b1 := a1) hd.2 ha.2)).2 g1
  have nk2 := (not_congr (ky_eq (a0 := d0) (a1 := d1) (b0 := b0) (b1 := b1) hd.2 hb.2)).2 g2
  have nk3 := (not_congr (ky_eq (a0 := d0) (a1 := d1) (b0 := c0) (b1 := c1) hd.2 hc.2)).2 g3
  have L := left_ne g
  have nk4 := (not_congr (ky_eq (a0 := a0) (a1 := a1) (b0 := b0) (b1 := b1) ha.2 hb.2)).2 L.2.2
  have nk5 := (not_congr (ky_eq (a0 := c0) (a1 := c1) (b0 := a0) (b1 := a1) hc.2 ha.2)).2 L.1
  have nk6 := (not_congr (ky_eq (a0 := c0) (a1 := c1) (b0 := b0) (b1 := b1) hc.2 hb.2)).2 L.2.1
  have t3 : ∀ x : Bool, (some x).bind (fun t => some t) = some x := fun _ => rfl
  rw [tie_conflict.j0, if_neg (by rw [decide_eq_true_eq]; exact g3), InCircle_f _ _ _ _ _ _ _ _ hk', Option.bind_some, last_f ha hb hc hd hk', Orient_f _ _ _ _ _ _ hk', Orient_f _ _ _ _ _ _ hk', Orient_f _ _ _ _ _ _ hk', Option.bind_some, Option.bind_some, Option.bind_some, Option.bind_some,
   or_b hd hb hc, or_b ha hd hc, or_b ha hb hd, e]
  unfold icS
  rw [if_pos (show CoP a0 a1 ∧ CoP b0 b1 ∧ CoP c0 c1 ∧ CoP d0 d1 from ⟨ha, hb, hc, hd⟩)]
  clear g1 g2 g3 L e no t3
  generalize hq : decide (does a0 a1 b0 b1 c0 c1 d0 d1) = q
  have D : q = true ↔ does a0 a1 b0 b1 c0 c1 d0 d1 := by rw [← hq, decide_eq_true_eq]
  clear hq
  unfold does at D
  unfold laS
  generalize ky a0 a1 = ka at *; generalize ky b0 b1 = kb at *; generalize ky c0 c1 = kc at *; generalize ky d0 d1 = kd at *
  generalize ar d0 d1 b0 b1 c0 c1 = u1 at *; generalize ar a0 a1 d0 d1 c0 c1 = u2 at *; generalize ar a0 a1 b0 b1 d0 d1 = u3 at *
  have no : ¬ (q = true) → some false = some q := by cases q <;> simp
  rcases sign_cases (dt a0 a1 b0 b1 c0 c1 d0 d1) with ⟨x, x'⟩ | ⟨x, x'⟩ | ⟨x, x'⟩
  ·rw [x', if_neg (by omega), if_pos rfl]; exact no (fun h => by have := D.1 h; omega)
  ·rw [x', if_neg (by omega), if_neg (by omega)]
   generalize dt a0 a1 b0 b1 c0 c1 d0 d1 = t at *
   subst x
   by_cases p1 : kb ≤ ka ∧ kc ≤ ka ∧ kd ≤ ka
   ·rw [if_pos p1, if_pos rfl]; congr 1; obtain ⟨m1, m2, m3⟩ : kb < ka ∧ kc < ka ∧ kd < ka := by omega
    simp only [m1, m2, m3, Int.lt_asymm m1, Int.lt_asymm m2, Int.lt_asymm m3, Int.lt_irrefl, true_and, false_and, and_false, false_or, or_false] at D
    rw [Bool.eq_iff_iff, D, decide_eq_true_eq]
   ·rw [if_neg p1]
    by_cases p2 : kc ≤ kb ∧ kd ≤ kb
    ·rw [if_pos p2, if_neg (by omega), if_pos rfl]; congr 1; obtain ⟨m1, m2, m3⟩ : ka < kb ∧ kc < kb ∧ kd < kb := by omega
     simp only [m1, m2, m3, Int.lt_asymm m1, Int.lt_asymm m2, Int.lt_asymm m3, Int.lt_irrefl, true_and, false_and, and_false, false_or, or_false] at D
     rw [Bool.eq_iff_iff, D, decide_eq_true_eq]
    ·rw [if_neg p2]
     by_cases p3 : kd ≤ kc
     ·rw [if_pos p3, if_neg (by omega), if_neg (by omega), if_pos rfl]; congr 1; obtain ⟨m1, m2, m3⟩ : ka < kc ∧ kb < kc ∧ kd < kc := by omega
      simp only [m1, m2, m3, Int.lt_asymm m1, Int.lt_asymm m2, Int.lt_asymm m3, Int.lt_irrefl, true_and, false_and, and_false, false_or, or_false] at D
      rw [Bool.eq_iff_iff, D, decide_eq_true_eq]
     ·rw [if_neg p3, if_neg (by omega), if_neg (by omega), if_neg (by omega)]
      obtain ⟨m1, m2, m3⟩ : ka < kd ∧ kb < kd ∧ kc < kd := by omega
      simp only [Int.lt_asymm m1, Int.lt_asymm m2, Int.lt_asymm m3, Int.lt_irrefl, and_false, false_and, or_false, false_or] at D
      exact no D.1
  ·rw [x', if_pos rfl, D.2 (.inl x)]
 ·rw [if_neg g, no rfl]
  unfold tieS; rw [decide_eq_false (fun q => g ((or_one _ _ _ _ _ _).2 ⟨q.1, q.2.1⟩))]
def coS (a0 a1 b0 b1 c0 c1 d0 d1 : Int) : Bool := decide (CoP d0 d1) && tieS a0 a1 b0 b1 c0 c1 d0 d1
theorem Conflict_f (a0 a1 b0 b1 c0 c1 d0 d1 : Int) {k : Nat} (hk : 2001 ≤ k) : tie_Conflict.f k a0 a1 b0 b1 c0 c1 d0 d1 = some (coS a0 a1 b0 b1 c0 c1 d0 d1) := by
 unfold tie_Conflict.f coS
 rw [can_f, Option.bind_some]
 by_cases h : CoP d0 d1
 ·rw [if_pos (decide_eq_true h), conflict_f h hk, decide_eq_true h]; rfl
 ·rw [if_neg (by rw [decide_eq_true_eq]; exact h), decide_eq_false h]; rfl
theorem lives_true {k : Nat} (hk : 2010 ≤ k) : zelligelaw08_lives.f k = some true := by
 obtain ⟨m, rfl⟩ : ∃ m, k = m + 4 := ⟨k - 4, by omega⟩
 unfold zelligelaw08_lives.f
 rw [Conflict_f _ _ _ _ _ _ _ _ (by omega), Option.bind_some, Conflict_f _ _ _ _ _ _ _ _ (by omega), Option.bind_some, if_pos (by decide +kernel), if_neg (by decide +kernel)]
 unfold tie_Best.f
 have w1 : wrap64 ((0 : Int) + 1) = 1 := by decide +kernel
 have w2 : wrap64 ((1 : Int) + 1) = 2 := by decide +kernel
 have w3 : wrap64 ((2 : Int) + 1) = 3 := by decide +kernel
 show ((tie_Best.l0 (m + 3 + 1) [(⟨0, 0⟩ : S23), (⟨1, 1⟩ : S23), (⟨0, 1⟩ : S23)] (-1) [(⟨0, 0⟩ : S23), (⟨1, 1⟩ : S23), (⟨0, 1⟩ : S23)] 3 0 0 0 1 0).bind fun t549 => some (t549 == 2)) = some true
 rw [tie_Best.l0, if_pos (by decide), if_pos (by decide), if_pos (by decide), Orient_f _ _ _ _ _ _ (by omega), Option.bind_some, if_neg (by decide +kernel), w1,
  tie_Best.l0, if_pos (by decide), if_pos (by decide), if_pos (by decide), Orient_f _ _ _ _ _ _ (by omega), Option.bind_some, if_pos (by decide +kernel), if_pos (by decide), w2,
  tie_Best.l0, if_pos (by decide), if_pos (by decide), if_pos (by decide), Orient_f _ _ _ _ _ _ (by omega), Option.bind_some, if_pos (by decide +kernel), if_neg (by decide), if_pos (by decide), if_pos (by decide), conflict_f (by decide +kernel) (by omega), Option.bind_some, if_pos (by decide +kernel), w3,
  tie_Best.l0, if_neg (by decide)]
 rfl
end Go.Proofs.Ytlkngfidohiepaa.Tl
end
section
namespace Go.Proofs.Ytlkngfidohiepaa.F
open Go.RowKit Go.Proofs.YtlkngfidohiepaaW.PrintWords Go.Proofs.YtlkngfidohiepaaW.PrintLast Go.Proofs.YtlkngfidohiepaaW.PrintMore
attribute [local go_sem] max2_int min2_int max_two min_two max_three min_three max_four min_four
set_option linter.unusedVariables false
set_option linter.unusedSimpArgs false
def zelligelaw08_TieTurns.f (k : Nat) (a0_0 : Int) (a0_1 : Int) (a0_2 : Int) (a0_3 : Int) (a0_4 : Int) (a0_5 : Int) (a1_0 : Int) (a1_1 : Int) : Option (Bool) := (tie_Conflict.f k a0_0 a0_1 a0_2 a0_3 a0_4 a0_5 a1_0 a1_1).bind fun t557 => ((tie_Conflict.f k a0_2 a0_3 a0_4 a0_5 a0_0 a0_1 a1_0 a1_1).bind fun t558 => (if (t558 == t557) = true then ((tie_Conflict.f k a0_4 a0_5 a0_0 a0_1 a0_2 a0_3 a1_0 a1_1).bind fun t559 => (if (t559 == t557) = true then ((zelligelaw08_lives.f k).bind fun t560 => (some t560)) else (some false))) else (some false)))
theorem zelligelaw08_TieTurns.mono : ∀ a0 a1 a2 a3 a4 a5 a6 a7 k, LeO (zelligelaw08_TieTurns.f k a0 a1 a2 a3 a4 a5 a6 a7) (zelligelaw08_TieTurns.f (k + 1) a0 a1 a2 a3 a4 a5 a6 a7) := by
 intro a0 a1 a2 a3 a4 a5 a6 a7 k
 unfold zelligelaw08_TieTurns.f
 repeat' first
   | (with_reducible exact tie_Conflict.mono _ _ _ _ _ _ _ _ _)
   | (with_reducible exact zelligelaw08_lives.mono _)
   | (with_reducible exact LeO.refl _)
   | (with_reducible exact LeO.none _)
   | (with_reducible refine LeO.ite ?_ ?_)
   | (with_reducible refine LeO.bind ?_ (fun _ => ?_))
   | exact tie_Conflict.mono _ _ _ _ _ _ _ _ _
   | exact zelligelaw08_lives.mono _
   | exact LeO.none _
   | refine LeO.ite ?_ ?_
   | refine LeO.bind ?_ (fun _ => ?_)
set_option maxHeartbeats 8000000 in
set_option maxRecDepth 100000 in
theorem zelligelaw08_TieTurns.calls (k : Nat) (a0_0 : Int) (a0_1 : Int) (a0_2 : Int) (a0_3 : Int) (a0_4 : Int) (a0_5 : Int) (a1_0 : Int) (a1_1 : Int) (w : World) (h : zelligelaw08_TieTurns.f k a0_0 a0_1 a0_2 a0_3 a0_4 a0_5 a1_0 a1_1 = some true) :
  Calls Try.prog 4 #[.agg #[.int .i64 a0_0, .int .i64 a0_1, .int .i64 a0_2, .int .i64 a0_3, .int .i64 a0_4, .int .i64 a0_5], .agg #[.int .i64 a1_0, .int .i64 a1_1]] w fun e w' => e = .returned (.bool true) ∧ Below w.heap.size w w' := by
 have hu24 := Try.underlying24
 have hu23 := Try.underlying23
 have HB := Aside0.mk (Below.refl w.heap.size w)
 have H : ((tie_Conflict.f k a0_0 a0_1 a0_2 a0_3 a0_4 a0_5 a1_0 a1_1).bind fun t557 => ((tie_Conflict.f k a0_2 a0_3 a0_4 a0_5 a0_0 a0_1 a1_0 a1_1).bind fun t558 => (if (t558 == t557) = true then ((tie_Conflict.f k a0_4 a0_5 a0_0 a0_1 a0_2 a0_3 a1_0 a1_1).bind fun t559 => (if (t559 == t557) = true then ((zelligelaw08_lives.f k).bind fun t560 => (some t560)) else (some false))) else (some false)))) = some true := h
 clear h
 replace H := Option.bind_eq_some_iff.mp H
 obtain ⟨t557, A30, H⟩ := H
 replace H : ((tie_Conflict.f k a0_2 a0_3 a0_4 a0_5 a0_0 a0_1 a1_0 a1_1).bind fun t558 => (if (t558 == t557) = true then ((tie_Conflict.f k a0_4 a0_5 a0_0 a0_1 a0_2 a0_3 a1_0 a1_1).bind fun t559 => (if (t559 == t557) = true then ((zelligelaw08_lives.f k).bind fun t560 => (some t560)) else (some false))) else (some false))) = some true := H
 have A3 := Aside0.mk A30
 clear A30
 replace H := Option.bind_eq_some_iff.mp H
 obtain ⟨t558, A40, H⟩ := H
 replace H : (if (t558 == t557) = true then ((tie_Conflict.f k a0_4 a0_5 a0_0 a0_1 a0_2 a0_3 a1_0 a1_1).bind fun t559 => (if (t559 == t557) = true then ((zelligelaw08_lives.f k).bind fun t560 => (some t560)) else (some false))) else (some false)) = some true := H
 have A4 := Aside0.mk A40
 clear A40
 by_cases c5 : (t558 == t557) = true
 ·rw [if_pos c5] at H
  have c5b0 : (t558 == t557) = true := c5
  (try (have c5b1 : decide (t558 = t557) = true := by simpa using c5))
  (try (have c5b2 : (t558 == t557) = true := by simpa using c5))
  clear c5
  replace H := Option.bind_eq_some_iff.mp H
  obtain ⟨t559, A60, H⟩ := H
  replace H : (if (t559 == t557) = true then ((zelligelaw08_lives.f k).bind fun t560 => (some t560)) else (some false)) = some true := H
  have A6 := Aside0.mk A60
  clear A60
  by_cases c7 : (t559 == t557) = true
  ·rw [if_pos c7] at H
   have c7b0 : (t559 == t557) = true := c7
   (try (have c7b1 : decide (t559 = t557) = true := by simpa using c7))
   (try (have c7b2 : (t559 == t557) = true := by simpa using c7))
   clear c7
   replace H := Option.bind_eq_some_iff.mp H
   obtain ⟨t560, A80, H⟩ := H
   replace H : (some t560) = some true := H
   have A8 := Aside0.mk A80
   clear A80
   obtain rfl := Option.some.inj H
   go_enter Try.func4, Try.ntmps4
   go_wp2_with (first | ((with_reducible refine gate_dst (N := 2) rfl ?_); refine box_event ?hg (N := 2) ?hd (cs := #[.int .i64 a0_0, .int .i64 a0_1, .int .i64 a0_2, .int .i64 a0_3, .int .i64 a0_4, .int .i64 a0_5]) (t := 24) ?hr ?_; (case hd => rfl); (case hg => rfl); (case hr => first | (go_simp; done) | (go_simp; rfl)); intro gb555 hg w9 hbox hb; have n0_ := Aside0.mk (below_step (bw HB.out) hb); have n1_ := Aside0.mk (hbox); have n2_ := Aside0.mk ((by rw [hg]; exact (below_size (bw HB.out)) : w.heap.size ≤ gb555)); have n3_ := Aside0.mk ((by rw [hg]; exact (below_size (bw HB.out)) : w.heap.size ≤ gb555)); clear HB; have HB := n0_; have BK555 := n1_; have GW555 := n2_; have GE555 := n3_; clear n0_ n1_ n2_ n3_; clear hb hbox hg) | ((with_reducible refine gate_dst (N := 3) rfl ?_); refine box_event ?hg (N := 3) ?hd (cs := #[.int .i64 a1_0, .int .i64 a1_1]) (t := 23) ?hr ?_; (case hd => rfl); (case hg => rfl); (case hr => first | (go_simp; done) | (go_simp; rfl)); intro gb556 hg w10 hbox hb; have n0_ := Aside0.mk (blk_below (g := gb555) (o := .cells #[.int .i64 a0_0, .int .i64 a0_1, .int .i64 a0_2, .int .i64 a0_3, .int .i64 a0_4, .int .i64 a0_5] 24 (0, 0)) (bk BK555.out) hb); have n1_ := Aside0.mk (below_step (by repeat (first | (with_reducible first | exact HB.out | apply below_alloc | apply pw_below_drewN | apply below_drew1 | refine below_set ?_ GE555.out) | exact HB.out)) hb); have n2_ := Aside0.mk (hbox); have n3_ := Aside0.mk ((by rw [hg]; exact (below_size (by repeat (first | (with_reducible first | exact HB.out | apply below_alloc | apply pw_below_drewN | apply below_drew1 | refine below_set ?_ GE555.out) | exact HB.out))) : w.heap.size ≤ gb556)); have n4_ := Aside0.mk ((by rw [hg]; exact (below_size (by repeat (first | (with_reducible first | exact HB.out | apply below_alloc | apply pw_below_drewN | apply below_drew1 | refine below_set ?_ GE555.out) | exact HB.out))) : w.heap.size ≤ gb556)); have n5_ := Aside0.mk ((by rw [hg]; exact Nat.ne_of_lt (blk_lt (g := gb555) (o := .cells #[.int .i64 a0_0, .int .i64 a0_1, .int .i64 a0_2, .int .i64 a0_3, .int .i64 a0_4, .int .i64 a0_5] 24 (0, 0)) (bk BK555.out)) : gb555 ≠ gb556)); have n6_ := Aside0.mk ((by rw [hg]; exact Nat.ne_of_gt (blk_lt (g := gb555) (o := .cells #[.int .i64 a0_0, .int .i64 a0_1, .int .i64 a0_2, .int .i64 a0_3, .int .i64 a0_4, .int .i64 a0_5] 24 (0, 0)) (bk BK555.out)) : gb556 ≠ gb555)); clear BK555; clear HB; have BK555 := n0_; have HB := n1_; have BK556 := n2_; have GW556 := n3_; have GE556 := n4_; have NB555_556 := n5_; have NB556_555 := n6_; clear n0_ n1_ n2_ n3_ n4_ n5_ n6_; clear hb hbox hg; have hnb11 := NB555_556.out; have hnc11 := NB556_555.out; have hcz12_0 : w10.cell? ⟨gb555, 0, none⟩ = some (.int .i64 a0_0) := (blk_cell BK555.out 0).trans rfl; have hcz12_1 : w10.cell? ⟨gb555, 1, none⟩ = some (.int .i64 a0_1) := (blk_cell BK555.out 1).trans rfl; have hcz12_2 : w10.cell? ⟨gb555, 2, none⟩ = some (.int .i64 a0_2) := (blk_cell BK555.out 2).trans rfl; have hcz12_3 : w10.cell? ⟨gb555, 3, none⟩ = some (.int .i64 a0_3) := (blk_cell BK555.out 3).trans rfl; have hcz12_4 : w10.cell? ⟨gb555, 4, none⟩ = some (.int .i64 a0_4) := (blk_cell BK555.out 4).trans rfl; have hcz12_5 : w10.cell? ⟨gb555, 5, none⟩ = some (.int .i64 a0_5) := (blk_cell BK555.out 5).trans rfl; have hfz12_0 := blk_frozen BK555.out 0; have hfz12_1 := blk_frozen BK555.out 1; have hfz12_2 := blk_frozen BK555.out 2; have hfz12_3 := blk_frozen BK555.out 3; have hfz12_4 := blk_frozen BK555.out 4; have hfz12_5 := blk_frozen BK555.out 5; have hcz13_0 : w10.cell? ⟨gb556, 0, none⟩ = some (.int .i64 a1_0) := (blk_cell BK556.out 0).trans rfl; have hcz13_1 : w10.cell? ⟨gb556, 1, none⟩ = some (.int .i64 a1_1) := (blk_cell BK556.out 1).trans rfl; have hfz13_0 := blk_frozen BK556.out 0; have hfz13_1 := blk_frozen BK556.out 1) | ((with_reducible refine gate_callee (f := 8) rfl ?_); refine goesL_ (some 13) rfl rfl Try.func8 (by kernel_rfl) rfl #[.agg #[.int .i64 a0_0, .int .i64 a0_1], .agg #[.int .i64 a0_2, .int .i64 a0_3], .agg #[.int .i64 a0_4, .int .i64 a0_5], .agg #[.int .i64 a1_0, .int .i64 a1_1]] rfl (by (try simp only [List.map_toArray, List.map_cons, List.map_nil]); first | done | rfl | (simp only [List.length_drop, List.length_take]; rfl)) ?_; (with_reducible refine (tie_Conflict.calls k a0_0 a0_1 a0_2 a0_3 a0_4 a0_5 a1_0 a1_1 t557 _ A3.out).mono ?_); rintro e w14 ⟨rfl, hb⟩; refine ⟨_, rfl, ?_⟩; have n0_ := Aside0.mk (blk_below (g := gb555) (o := .cells #[.int .i64 a0_0, .int .i64 a0_1, .int .i64 a0_2, .int .i64 a0_3, .int .i64 a0_4, .int .i64 a0_5] 24 (0, 0)) (bk BK555.out) hb); have n1_ := Aside0.mk (blk_below (g := gb556) (o := .cells #[.int .i64 a1_0, .int .i64 a1_1] 23 (0, 0)) (bk BK556.out) hb); have n2_ := Aside0.mk (below_step (by repeat (first | (with_reducible first | exact HB.out | apply below_alloc | apply pw_below_drewN | apply below_drew1 | refine below_set ?_ GE555.out | refine below_set ?_ GE556.out) | exact HB.out)) hb); clear BK555; clear BK556; clear HB; have BK555 := n0_; have BK556 := n1_; have HB := n2_; clear n0_ n1_ n2_; (try clear hb); (try clear hb2); (try clear hk); (try clear hi); have hcz15_0 : w14.cell? ⟨gb555, 0, none⟩ = some (.int .i64 a0_0) := (blk_cell BK555.out 0).trans rfl; have hcz15_1 : w14.cell? ⟨gb555, 1, none⟩ = some (.int .i64 a0_1) := (blk_cell BK555.out 1).trans rfl; have hcz15_2 : w14.cell? ⟨gb555, 2, none⟩ = some (.int .i64 a0_2) := (blk_cell BK555.out 2).trans rfl; have hcz15_3 : w14.cell? ⟨gb555, 3, none⟩ = some (.int .i64 a0_3) := (blk_cell BK555.out 3).trans rfl; have hcz15_4 : w14.cell? ⟨gb555, 4, none⟩ = some (.int .i64 a0_4) := (blk_cell BK555.out 4).trans rfl; have hcz15_5 : w14.cell? ⟨gb555, 5, none⟩ = some (.int .i64 a0_5) := (blk_cell BK555.out 5).trans rfl; have hfz15_0 := blk_frozen BK555.out 0; have hfz15_1 := blk_frozen BK555.out 1; have hfz15_2 := blk_frozen BK555.out 2; have hfz15_3 := blk_frozen BK555.out 3; have hfz15_4 := blk_frozen BK555.out 4; have hfz15_5 := blk_frozen BK555.out 5; have hcz16_0 : w14.cell? ⟨gb556, 0, none⟩ = some (.int .i64 a1_0) := (blk_cell BK556.out 0).trans rfl; have hcz16_1 : w14.cell? ⟨gb556, 1, none⟩ = some (.int .i64 a1_1) := (blk_cell BK556.out 1).trans rfl; have hfz16_0 := blk_frozen BK556.out 0; have hfz16_1 := blk_frozen BK556.out 1) | ((with_reducible refine gate_callee (f := 8) rfl ?_); refine goesL_ (some 21) rfl rfl Try.func8 (by kernel_rfl) rfl #[.agg #[.int .i64 a0_2, .int .i64 a0_3], .agg #[.int .i64 a0_4, .int .i64 a0_5], .agg #[.int .i64 a0_0, .int .i64 a0_1], .agg #[.int .i64 a1_0, .int .i64 a1_1]] rfl (by (try simp only [List.map_toArray, List.map_cons, List.map_nil]); first | done | rfl | (simp only [List.length_drop, List.length_take]; rfl)) ?_; (with_reducible refine (tie_Conflict.calls k a0_2 a0_3 a0_4 a0_5 a0_0 a0_1 a1_0 a1_1 t558 _ A4.out).mono ?_); rintro e w17 ⟨rfl, hb⟩; refine ⟨_, rfl, ?_⟩; have n0_ := Aside0.mk (blk_below (g := gb555) (o := .cells #[.int .i64 a0_0, .int .i64 a0_1, .int .i64 a0_2, .int .i64 a0_3, .int .i64 a0_4, .int .i64 a0_5] 24 (0, 0)) (bk BK555.out) hb); have n1_ := Aside0.mk (blk_below (g := gb556) (o := .cells #[.int .i64 a1_0, .int .i64 a1_1] 23 (0, 0)) (bk BK556.out) hb); have n2_ := Aside0.mk (below_step (by repeat (first | (with_reducible first | exact HB.out | apply below_alloc | apply pw_below_drewN | apply below_drew1 | refine below_set ?_ GE555.out | refine below_set ?_ GE556.out) | exact HB.out)) hb); clear BK555; clear BK556; clear HB; have BK555 := n0_; have BK556 := n1_; have HB := n2_; clear n0_ n1_ n2_; (try clear hb); (try clear hb2); (try clear hk); (try clear hi); have hcz18_0 : w17.cell? ⟨gb555, 0, none⟩ = some (.int .i64 a0_0) := (blk_cell BK555.out 0).trans rfl; have hcz18_1 : w17.cell? ⟨gb555, 1, none⟩ = some (.int .i64 a0_1) := (blk_cell BK555.out 1).trans rfl; have hcz18_2 : w17.cell? ⟨gb555, 2, none⟩ = some (.int .i64 a0_2) := (blk_cell BK555.out 2).trans rfl; have hcz18_3 : w17.cell? ⟨gb555, 3, none⟩ = some (.int .i64 a0_3) := (blk_cell BK555.out 3).trans rfl; have hcz18_4 : w17.cell? ⟨gb555, 4, none⟩ = some (.int .i64 a0_4) := (blk_cell BK555.out 4).trans rfl; have hcz18_5 : w17.cell? ⟨gb555, 5, none⟩ = some (.int .i64 a0_5) := (blk_cell BK555.out 5).trans rfl; have hfz18_0 := blk_frozen BK555.out 0; have hfz18_1 := blk_frozen BK555.out 1; have hfz18_2 := blk_frozen BK555.out 2; have hfz18_3 := blk_frozen BK555.out 3; have hfz18_4 := blk_frozen BK555.out 4; have hfz18_5 := blk_frozen BK555.out 5; have hcz19_0 : w17.cell? ⟨gb556, 0, none⟩ = some (.int .i64 a1_0) := (blk_cell BK556.out 0).trans rfl; have hcz19_1 : w17.cell? ⟨gb556, 1, none⟩ = some (.int .i64 a1_1) := (blk_cell BK556.out 1).trans rfl; have hfz19_0 := blk_frozen BK556.out 0; have hfz19_1 := blk_frozen BK556.out 1) | (go_at_call 8; (with_reducible refine (tie_Conflict.calls k a0_4 a0_5 a0_0 a0_1 a0_2 a0_3 a1_0 a1_1 t559 _ A6.out).mono ?_); rintro e w20 ⟨rfl, hb⟩; have n0_ := Aside0.mk (blk_below (g := gb555) (o := .cells #[.int .i64 a0_0, .int .i64 a0_1, .int .i64 a0_2, .int .i64 a0_3, .int .i64 a0_4, .int .i64 a0_5] 24 (0, 0)) (bk BK555.out) hb); have n1_ := Aside0.mk (blk_below (g := gb556) (o := .cells #[.int .i64 a1_0, .int .i64 a1_1] 23 (0, 0)) (bk BK556.out) hb); have n2_ := Aside0.mk (below_step (by repeat (first | (with_reducible first | exact HB.out | apply below_alloc | apply pw_below_drewN | apply below_drew1 | refine below_set ?_ GE555.out | refine below_set ?_ GE556.out) | exact HB.out)) hb); clear BK555; clear BK556; clear HB; have BK555 := n0_; have BK556 := n1_; have HB := n2_; clear n0_ n1_ n2_; (try clear hb); (try clear hb2); (try clear hk); (try clear hi)) | (go_at_call 10; (with_reducible refine (zelligelaw08_lives.calls k  true _ A8.out).mono ?_); rintro e w21 ⟨rfl, hb⟩; have n0_ := Aside0.mk (blk_below (g := gb555) (o := .cells #[.int .i64 a0_0, .int .i64 a0_1, .int .i64 a0_2, .int .i64 a0_3, .int .i64 a0_4, .int .i64 a0_5] 24 (0, 0)) (bk BK555.out) hb); have n1_ := Aside0.mk (blk_below (g := gb556) (o := .cells #[.int .i64 a1_0, .int .i64 a1_1] 23 (0, 0)) (bk BK556.out) hb); have n2_ := Aside0.mk (below_step (by repeat (first | (with_reducible first | exact HB.out | apply below_alloc | apply pw_below_drewN | apply below_drew1 | refine below_set ?_ GE555.out | refine below_set ?_ GE556.out) | exact HB.out)) hb); clear BK555; clear BK556; clear HB; have BK555 := n0_; have BK556 := n1_; have HB := n2_; clear n0_ n1_ n2_; (try clear hb); (try clear hb2); (try clear hk); (try clear hi)))
   go_ret
   exact ⟨by first | rfl | (simp [errW_none, errW_some] <;> rfl) | (simp [*, errW_none, errW_some] <;> rfl), by repeat (first | (with_reducible first | exact HB.out | apply below_alloc | apply pw_below_drewN | apply below_drew1 | refine below_set ?_ GE555.out | refine below_set ?_ GE556.out) | exact HB.out)⟩
  ·rw [if_neg c7] at H
   have c7b0 : (t559 == t557) = false := by simpa using c7
   (try (have c7b1 : decide (t559 = t557) = false := by simpa using c7))
   (try (have c7b2 : (t559 == t557) = false := by simpa using c7))
   (try (have c7b3 : ¬ (t559 = t557) := by simpa using c7))
   clear c7
   exact absurd (Option.some.inj H) (by decide)
 ·rw [if_neg c5] at H
  have c5b0 : (t558 == t557) = false := by simpa using c5
  (try (have c5b1 : decide (t558 = t557) = false := by simpa using c5))
  (try (have c5b2 : (t558 == t557) = false := by simpa using c5))
  (try (have c5b3 : ¬ (t558 = t557) := by simpa using c5))
  clear c5
  exact absurd (Option.some.inj H) (by decide)
end Go.Proofs.Ytlkngfidohiepaa.F
end
section
namespace Go.Proofs.Ytlkngfidohiepaa.Tl
open Go Go.RowKit Go.Proofs.YtlkngfidohiepaaW.PrintWords Go.Proofs.Ytlkngfidohiepaa.F Go.Proofs.Ytlkngfidohiepaa.Wd Go.Proofs.Ytlkngfidohiepaa.Pm Go.Proofs.Ytlkngfidohiepaa.Pd Go.Proofs.Ytlkngfidohiepaa.Tm
set_option linter.unusedVariables false
theorem tie_turn (a0 a1 b0 b1 c0 c1 d0 d1 : Int) : tieS b0 b1 c0 c1 a0 a1 d0 d1 = tieS a0 a1 b0 b1 c0 c1 d0 d1 := by
 unfold tieS
 rw [decide_eq_decide, ar_turn, does_turn]
 exact ⟨fun ⟨⟨h1, h2, h3⟩, h, n1, n2, n3, q⟩ => ⟨⟨h3, h1, h2⟩, h, n3, n1, n2, q⟩, fun ⟨⟨h3, h1, h2⟩, h, n3, n1, n2, q⟩ => ⟨⟨h1, h2, h3⟩, h, n1, n2, n3, q⟩⟩
theorem co_turn (a0 a1 b0 b1 c0 c1 d0 d1 : Int) : coS b0 b1 c0 c1 a0 a1 d0 d1 = coS a0 a1 b0 b1 c0 c1 d0 d1 := by unfold coS; rw [tie_turn]
theorem turns_f (a0 a1 b0 b1 c0 c1 d0 d1 : Int) : zelligelaw08_TieTurns.f 3000 a0 a1 b0 b1 c0 c1 d0 d1 = some true := by
 obtain ⟨k, hk⟩ : ∃ k, k = 3000 := ⟨_, rfl⟩
 have h : 2001 ≤ k := by omega
 unfold zelligelaw08_TieTurns.f
 rw [← hk, Conflict_f _ _ _ _ _ _ _ _ h, Option.bind_some, Conflict_f _ _ _ _ _ _ _ _ h, Option.bind_some, if_pos (by rw [co_turn, beq_self_eq_true]), Conflict_f _ _ _ _ _ _ _ _ h, Option.bind_some,
  if_pos (by rw [co_turn, co_turn, beq_self_eq_true]), lives_true (by omega)]
 rfl
theorem turns_calls (a0_0 a0_1 a0_2 a0_3 a0_4 a0_5 a1_0 a1_1 : Int) (w : World) (h0_0 : (Lit.int .i64 a0_0).wf = true) (h0_1 : (Lit.int .i64 a0_1).wf = true) (h0_2 : (Lit.int .i64 a0_2).wf = true) (h0_3 : (Lit.int .i64 a0_3).wf = true) (h0_4 : (Lit.int .i64 a0_4).wf = true) (h0_5 : (Lit.int .i64 a0_5).wf = true) (h1_0 : (Lit.int .i64 a1_0).wf = true) (h1_1 : (Lit.int .i64 a1_1).wf = true) :
  Calls Try.prog 4 #[.agg #[.int .i64 a0_0, .int .i64 a0_1, .int .i64 a0_2, .int .i64 a0_3, .int .i64 a0_4, .int .i64 a0_5], .agg #[.int .i64 a1_0, .int .i64 a1_1]] w fun e w' => e = .returned (.bool true) ∧ Below w.heap.size w w' :=
 zelligelaw08_TieTurns.calls 3000 _ _ _ _ _ _ _ _ w (turns_f _ _ _ _ _ _ _ _)
end Go.Proofs.Ytlkngfidohiepaa.Tl
end
section
namespace Go.Proofs.Ytlkngfidohiepaa.RK
open Go Go.ChangeShapes Go.WideShapes Go.ChangeAt Go.RowKit Go.WideElems Go.Maps Go.Deep
variable {H : Type} {enc : TypeId × Value → H} {P : Program}
theorem okWide_array {k e : TypeId} {n : Nat} (hu : P.underlying k = some (.array n e)) {W : World} {r : Reach} {b0 : Nat} {v : Value} (h : Value.okWide P W r b0 k v) : ∃ cs : Array Value, v = .agg cs ∧ cs.size = P.cellsOf k := by
 simp only [Value.okWide, hu] at h
 obtain ⟨cs, h1, h2, _⟩ := h
 exact ⟨cs, h1, h2⟩
theorem list6 {α : Type} {l : List α} (h : l.length = 6) : ∃ a b c d e f, l = [a, b, c, d, e, f] := by
 match l, h with
 | [a, b, c, d, e, f], _ => exact ⟨a, b, c, d, e, f, rfl⟩
theorem cells_two {w : World} {sp : Nat → Bool} {held : Bool} {base fuel : Nat} {e : TypeId} {f0 f1 : Field} {k0 k1 : IntKind} {v0 v1 : Value} {x : DataW H × List MemPlace} (hs : P.underlying e = some (.struct #[f0, f1]))
  (o0 : f0.offset = 0) (o1 : f1.offset = 1) (s0 : P.cellsOf f0.type = 1) (s1 : P.cellsOf f1.type = 1) (h0 : P.underlying f0.type = some (.int k0)) (h1 : P.underlying f1.type = some (.int k1)) (h : DataW.trod enc P w base sp held fuel e [v0, v1] = some x) :
  ∃ a b : Int, v0 = .int k0 a ∧ v1 = .int k1 b ∧ (Lit.int k0 a).wf = true ∧ (Lit.int k1 b).wf = true := by
 obtain ⟨y0, y1, n, _, _, g0, g1⟩ := trod_struct2 hs h
 rw [o0, s0] at g0
 rw [o1, s1] at g1
 obtain ⟨a, ea, _, wa⟩ := DataW.trod_int h0 g0
 obtain ⟨b, eb, _, wb⟩ := DataW.trod_int h1 g1
 simp at ea eb
 exact ⟨a, b, ea, eb, wa, wb⟩
theorem open_pairs3 {w : World} {sp : Nat → Bool} {held : Bool} {r : Reach} {b0 base : Nat} {t e : TypeId} {f0 f1 : Field} {k0 k1 : IntKind} {v : Value} {d : DataW H} {p : List MemPlace} (hu : P.underlying t = some (.array 3 e)) (hs : P.underlying e = some (.struct #[f0, f1]))
  (o0 : f0.offset = 0) (o1 : f1.offset = 1) (s0 : P.cellsOf f0.type = 1) (s1 : P.cellsOf f1.type = 1) (h0 : P.underlying f0.type = some (.int k0)) (h1 : P.underlying f1.type = some (.int k1)) (two : P.cellsOf e = 2) (size : P.cellsOf t = 6)
  (hv : Value.okWide P w r b0 t v) (h : DataW.Trod enc P w base sp held t v d p) :
  ∃ a b a' b' a'' b'' : Int, v = .agg #[.int k0 a, .int k1 b, .int k0 a', .int k1 b', .int k0 a'', .int k1 b''] ∧ (Lit.int k0 a).wf = true ∧ (Lit.int k1 b).wf = true ∧ (Lit.int k0 a').wf = true ∧ (Lit.int k1 b').wf = true ∧ (Lit.int k0 a'').wf = true ∧ (Lit.int k1 b'').wf = true := by
 obtain ⟨cs, rfl, hsz⟩ := okWide_array hu hv
 obtain ⟨l⟩ := cs
 obtain ⟨c0, c1, c2, c3, c4, c5, rfl⟩ := list6 (hsz.trans size)
 obtain ⟨fuel, hf⟩ := h
 cases fuel with
 | zero => simp [DataW.trod] at hf
 | succ n =>
  rw [DataW.trod_step] at hf
  unfold DataW.trodStep at hf
  simp only [hu, Value.cells] at hf
  rw [if_pos (by rw [size]; rfl)] at hf
  simp only [Option.map_eq_some_iff] at hf
  obtain ⟨xs, hx, e1⟩ := hf
  rw [show List.range 3 = [0, 1, 2] from rfl, List.mapM_cons, List.mapM_cons, List.mapM_cons, List.mapM_nil] at hx
  simp only [bind, Option.bind_eq_some_iff, pure, Option.some.injEq, two] at hx
  obtain ⟨y0, g0, _, ⟨y1, g1, _, ⟨y2, g2, _, rfl, rfl⟩, rfl⟩, rfl⟩ := hx
  obtain ⟨a, b, rfl, rfl, wa, wb⟩ := cells_two hs o0 o1 s0 s1 h0 h1 g0
  obtain ⟨a', b', rfl, rfl, wa', wb'⟩ := cells_two hs o0 o1 s0 s1 h0 h1 g1
  obtain ⟨a'', b'', rfl, rfl, wa'', wb''⟩ := cells_two hs o0 o1 s0 s1 h0 h1 g2
  exact ⟨a, b, a', b', a'', b'', rfl, wa, wb, wa', wb', wa'', wb''⟩
end Go.Proofs.Ytlkngfidohiepaa.RK
end
