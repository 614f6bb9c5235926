/- LiftOrders: the law answers true for all points. -/
import Derived.Test.YtgjpemfjccajkaaFzelligelaw06LiftOrders
import Derived.Test.YtgjpemfjccajkaaFzelligeref06Can
namespace Go.Proofs.Ytgjpemfjccajkaa.Lift
open Go Go.RowKit Go.Proofs.YtgjpemfjccajkaaW.PrintWords Go.Proofs.Ytgjpemfjccajkaa.F Go.Proofs.Ytgjpemfjccajkaa.Dig

/-- The order of two points. -/
def ord (a b c d : Int) : Int := if a < c then -1 else if a > c then 1 else if b < d then -1 else if b > d then 1 else 0
theorem lives_true {k : Nat} (hk : 10 ≤ k) : zelligelaw06_lives.f k = some true :=
  at_rounds (g := fun k => zelligelaw06_lives.f k) (fun k => zelligelaw06_lives.mono k) hk (show zelligelaw06_lives.f 10 = some true by decide +kernel)
theorem nan_f (a : Int) : cmp_isNaN_int64.f a = some false := by unfold cmp_isNaN_int64.f; rw [bne_self_eq_false]
theorem compare_f (a b : Int) : cmp_Compare_int64.f a b = some (if a < b then -1 else if a > b then 1 else 0) := by
  unfold cmp_Compare_int64.f
  rw [nan_f, nan_f, Option.bind_some, Option.bind_some, if_neg (by decide), if_neg (by decide)]
  split
  · rfl
  · split <;> rfl
theorem or_f (x y : Int) {k : Nat} (hk : 10 ≤ k) : cmp_Or_int.f k [x, y] = some (if x = 0 then y else x) := by
  obtain ⟨k, rfl⟩ : ∃ m, k = m + 3 := ⟨k - 3, by omega⟩
  have r0 : rd [x, y] 0 = x := rfl
  have r1 : rd [x, y] 1 = y := rfl
  have e0 : wrap64 ((0 : Int) + 1) = 1 := w64 (by omega) (by omega)
  have e1 : wrap64 ((1 : Int) + 1) = 2 := w64 (by omega) (by omega)
  unfold cmp_Or_int.f
  rw [cmp_Or_int.l0, if_pos (by simp), if_pos (by omega), if_pos (by simp), r0, e0]
  by_cases h : x = 0
  · rw [if_pos h, if_pos h, cmp_Or_int.l0, if_pos (by simp), if_pos (by omega), if_pos (by simp), r1, e1]
    by_cases h2 : y = 0
    · rw [if_pos h2, cmp_Or_int.l0, if_neg (by simp), h2]
    · rw [if_neg h2]
  · rw [if_neg h, if_neg h]
theorem cmp_f (a b c d : Int) {k : Nat} (hk : 10 ≤ k) : lift_Cmp.f k a b c d = some (ord a b c d) := by
  unfold lift_Cmp.f
  rw [compare_f, compare_f, Option.bind_some, Option.bind_some, or_f _ _ hk, Option.bind_some]
  congr 1
  unfold ord
  split <;> split <;> (try split) <;> (try split) <;> omega
theorem rcmp_f (a b c d : Int) {k : Nat} (hk : 10 ≤ k) : zelligeref06_Cmp.f k a b c d = some (ord a b c d) := by
  obtain ⟨k, rfl⟩ : ∃ m, k = m + 1 := ⟨k - 1, by omega⟩
  unfold zelligeref06_Cmp.f ord
  by_cases h1 : a < c
  · rw [if_pos h1, if_pos h1, zelligeref06_Cmp.j0, if_pos rfl]
  · rw [if_neg h1, if_neg h1]
    by_cases h2 : a = c
    · rw [if_pos h2, if_neg (by omega), zelligeref06_Cmp.j0]
      by_cases h3 : b < d
      · rw [if_pos (decide_eq_true h3), if_pos h3]
      · rw [if_neg (by rw [decide_eq_true_eq]; exact h3), if_neg h3]
        by_cases h4 : b = d
        · rw [if_pos (by rw [h2, h4, beq_self_eq_true, beq_self_eq_true]; rfl), if_neg (by omega)]
        · rw [if_neg (by rw [Bool.and_eq_true, beq_iff_eq, beq_iff_eq]; exact fun h => h4 h.2), if_pos (by omega)]
    · rw [if_neg h2, if_pos (by omega), zelligeref06_Cmp.j0, if_neg (by decide), if_neg (by rw [Bool.and_eq_true, beq_iff_eq, beq_iff_eq]; exact fun h => h2 h.1)]
theorem ord_neg (a b c d : Int) : ord c d a b = -ord a b c d := by
  unfold ord
  split <;> (try split) <;> (try split) <;> (try split) <;> (try split) <;> (try split) <;> (try split) <;> (try split) <;> omega
theorem ord_le (a b c d : Int) : -1 ≤ ord a b c d ∧ ord a b c d ≤ 1 := by
  unfold ord
  split <;> (try split) <;> (try split) <;> (try split) <;> omega
theorem ord_by (a b c d x y : Int) : ord (a + x) (b + y) (c + x) (d + y) = ord a b c d := by
  unfold ord
  have e1 : (a + x < c + x) = (a < c) := propext ⟨by omega, by omega⟩
  have e2 : (a + x > c + x) = (a > c) := propext ⟨by omega, by omega⟩
  have e3 : (b + y < d + y) = (b < d) := propext ⟨by omega, by omega⟩
  have e4 : (b + y > d + y) = (b > d) := propext ⟨by omega, by omega⟩
  simp only [e1, e2, e3, e4]
theorem can_f {a b : Int} (ha : I64 a) (hb : I64 b) : zelligeref06_Can.f a b = some (decide (InC a ∧ InC b)) := by unfold zelligeref06_Can.f; rw [if_pos ⟨ha, hb⟩]
theorem orders_f (a b c d x y : Int) (ha : I64 a) (hb : I64 b) (hc : I64 c) (hd : I64 d) (hx : I64 x) (hy : I64 y) : zelligelaw06_LiftOrders.f 100 a b c d x y = some true := by
  have hl := ord_le a b c d
  have en : (ord c d a b != wrap64 (-ord a b c d)) = false := by rw [ord_neg, w64 (by omega) (by omega), bne_self_eq_false]
  have out : ∀ k, 20 ≤ k → zelligelaw06_LiftOrders.j1 k (ord a b c d) true a b c d x y = some true := by
    intro k hk
    obtain ⟨k, rfl⟩ : ∃ m, k = m + 1 := ⟨k - 1, by omega⟩
    rw [zelligelaw06_LiftOrders.j1, if_pos rfl, lives_true (by omega)]; rfl
  unfold zelligelaw06_LiftOrders.f
  rw [cmp_f _ _ _ _ (by omega), Option.bind_some, rcmp_f _ _ _ _ (by omega), Option.bind_some, if_pos rfl, cmp_f _ _ _ _ (by omega), Option.bind_some, en, show (100 : Nat) = 99 + 1 from rfl, zelligelaw06_LiftOrders.j0, if_neg (by decide), can_f ha hb, Option.bind_some]
  by_cases h1 : InC a ∧ InC b
  · rw [if_pos (decide_eq_true h1), can_f hc hd, Option.bind_some]
    by_cases h2 : InC c ∧ InC d
    · rw [if_pos (decide_eq_true h2), can_f hx hy, Option.bind_some]
      by_cases h3 : InC x ∧ InC y
      · rw [decide_eq_true h3, show (99 : Nat) = 98 + 1 from rfl, zelligelaw06_LiftOrders.j1, if_neg (by decide), w64 (x := a + x) (by omega) (by omega), w64 (x := b + y) (by omega) (by omega), w64 (x := c + x) (by omega) (by omega), w64 (x := d + y) (by omega) (by omega), cmp_f _ _ _ _ (by omega), Option.bind_some, ord_by, if_pos rfl, lives_true (by omega)]
        rfl
      · rw [decide_eq_false h3]
        exact out _ (by omega)
    · rw [if_neg (by rw [decide_eq_true_eq]; exact h2)]
      exact out _ (by omega)
  · rw [if_neg (by rw [decide_eq_true_eq]; exact h1)]
    exact out _ (by omega)
theorem orders_calls (a b c d x y : Int) (w : World) (ha : (Lit.int .i64 a).wf = true) (hb : (Lit.int .i64 b).wf = true) (hc : (Lit.int .i64 c).wf = true) (hd : (Lit.int .i64 d).wf = true) (hx : (Lit.int .i64 x).wf = true) (hy : (Lit.int .i64 y).wf = true) :
    Calls Try.prog 6 #[.agg #[.int .i64 a, .int .i64 b], .agg #[.int .i64 c, .int .i64 d], .agg #[.int .i64 x, .int .i64 y]] w fun e w' => e = .returned (.bool true) ∧ Below w.heap.size w w' :=
  zelligelaw06_LiftOrders.calls 100 a b c d x y true w (orders_f a b c d x y (bounds_i64 ha) (bounds_i64 hb) (bounds_i64 hc) (bounds_i64 hd) (bounds_i64 hx) (bounds_i64 hy))
end Go.Proofs.Ytgjpemfjccajkaa.Lift
