/- lift.Home on plain numbers (as in chapter 6). -/
import Derived.Test.YtfangodjmppooaaFliftHome
namespace Go.Proofs.Ytfangodjmppooaa.LiftH
open Go Go.RowKit Go.Proofs.YtfangodjmppooaaW.PrintWords Go.Proofs.Ytfangodjmppooaa.F
set_option linter.unusedVariables false
abbrev InC (n : Int) : Prop := -1099511627776 ≤ n ∧ n ≤ 1099511627776
abbrev HomeOk (x y s : Int) : Prop := (1 ≤ s ∧ s ≤ 1099511627776) ∧ (InC x ∧ InC y)
theorem hw64 {x : Int} (h : -9223372036854775808 ≤ x) (h' : x ≤ 9223372036854775807) : wrap64 x = x := by unfold wrap64; omega
theorem divs {n m : Int} (hm : 1 ≤ m ∧ m ≤ 1099511627776) (hn : InC n) : (-1099511627776 ≤ n / m ∧ n / m ≤ 1099511627776) ∧ 0 ≤ n % m ∧ n % m < m := by
  refine ⟨⟨Int.le_ediv_of_mul_le (by omega) (by omega), ?_⟩, Int.emod_nonneg n (by omega), Int.emod_lt_of_pos n (by omega)⟩
  rcases Int.lt_or_le n 0 with h | h
  · have := Int.ediv_neg_of_neg_of_pos h (show 0 < m by omega); omega
  · have := Int.ediv_le_self m h; omega
theorem within_f (a : Int) : lift_within.f a = some (decide (InC a)) := by
  unfold lift_within.f
  by_cases h : a ≥ -1099511627776
  · rw [if_pos h]
    congr 1
    rw [decide_eq_decide]
    exact ⟨fun k => ⟨h, k⟩, fun k => k.2⟩
  · rw [if_neg h, decide_eq_false (fun k => h k.1)]
theorem lcan_f (a b : Int) : lift_can.f a b = some (decide (InC a ∧ InC b)) := by
  unfold lift_can.f
  rw [within_f, Option.bind_some]
  by_cases h : InC a
  · rw [if_pos (decide_eq_true h), within_f, Option.bind_some]
    congr 1
    rw [decide_eq_decide]
    exact ⟨fun k => ⟨h, k⟩, fun k => k.2⟩
  · rw [if_neg (by rw [decide_eq_true_eq]; exact h), decide_eq_false (fun k => h k.1)]
theorem ltorus_f (s : Int) : lift_torus.f s = some (decide (1 ≤ s ∧ s ≤ 1099511627776)) := by
  unfold lift_torus.f
  by_cases h : s ≥ 1
  · rw [if_pos h]
    congr 1
    rw [decide_eq_decide]
    exact ⟨fun k => ⟨h, k⟩, fun k => k.2⟩
  · rw [if_neg h, decide_eq_false (fun k => h k.1)]
theorem part_f {n s : Int} (hn : InC n) (hs : 1 ≤ s ∧ s ≤ 1099511627776) : lift_part.f n s = some (n % s, n / s) := by
  have hd := divs hs hn
  unfold lift_part.f
  rw [if_neg (by omega)]
  rcases Int.lt_or_le n 0 with h | h
  · obtain ⟨p, rfl⟩ : ∃ p : Nat, n = -(p : Int) := ⟨n.natAbs, by omega⟩
    have e1 : Int.tmod (-(p : Int)) s = -((p : Int) % s) := by rw [Int.neg_tmod, Int.tmod_eq_emod_of_nonneg (by omega)]
    have e2 : Int.tdiv (-(p : Int)) s = -((p : Int) / s) := by rw [Int.neg_tdiv, Int.tdiv_eq_ediv_of_nonneg (by omega)]
    have h1 := Int.emod_nonneg (p : Int) (show s ≠ 0 by omega)
    have h2 := Int.emod_lt_of_pos (p : Int) (show 0 < s by omega)
    have h3 := Int.mul_ediv_add_emod (p : Int) s
    have h4 : (p : Int) / s ≤ p := Int.ediv_le_self _ (by omega)
    have h5 : 0 ≤ (p : Int) / s := Int.ediv_nonneg (by omega) (by omega)
    have hu := fun q r => (Int.ediv_emod_unique (a := -(p : Int)) (b := s) (r := r) (q := q) (by omega)).2
    rw [e1, e2]
    by_cases h0 : (p : Int) % s = 0
    · obtain ⟨u1, u2⟩ := hu (-((p : Int) / s)) 0 ⟨by rw [Int.mul_neg]; omega, by omega, by omega⟩
      rw [if_neg (by omega), u1, u2, h0, hw64 (by omega) (by omega)]
      rfl
    · obtain ⟨u1, u2⟩ := hu (-((p : Int) / s) - 1) (s - (p : Int) % s) ⟨by rw [Int.mul_sub, Int.mul_neg, Int.mul_one]; omega, by omega, by omega⟩
      rw [if_pos (by omega), u1, u2, hw64 (x := -((p : Int) / s)) (by omega) (by omega), hw64 (by omega) (by omega), hw64 (by omega) (by omega)]
      congr 2
      omega
  · rw [Int.tmod_eq_emod_of_nonneg h, Int.tdiv_eq_ediv_of_nonneg h, if_neg (by omega), hw64 (by omega) (by omega)]
theorem lhome_f (x y s : Int) {k : Nat} (hk : 1 ≤ k) : lift_Home.f k x y s = some (if HomeOk x y s then (x % s, y % s, x / s, y / s, true) else (0, 0, 0, 0, false)) := by
  obtain ⟨k, rfl⟩ : ∃ m, k = m + 1 := ⟨k - 1, by omega⟩
  unfold lift_Home.f
  rw [ltorus_f, Option.bind_some]
  by_cases h1 : 1 ≤ s ∧ s ≤ 1099511627776
  · rw [if_pos (decide_eq_true h1), lcan_f, Option.bind_some]
    by_cases h2 : InC x ∧ InC y
    · rw [decide_eq_true h2, lift_Home.j0, if_neg (by decide), part_f h2.1 h1, Option.bind_some, part_f h2.2 h1, Option.bind_some, if_pos ⟨h1, h2⟩]
    · rw [decide_eq_false h2, lift_Home.j0, if_pos (by decide), if_neg (fun h => h2 h.2)]
  · rw [if_neg (by rw [decide_eq_true_eq]; exact h1), lift_Home.j0, if_pos rfl, if_neg (fun h => h1 h.1)]
end Go.Proofs.Ytfangodjmppooaa.LiftH
