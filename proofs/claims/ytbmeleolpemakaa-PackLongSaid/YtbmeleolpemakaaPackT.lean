/- Take and the reference's Take come to the same: the number that bytes begin with. Plain lists and whole numbers. -/
import Derived.Test.YtbmeleolpemakaaPackB
import Derived.Test.YtbmeleolpemakaaFpacktake
import Derived.Test.YtbmeleolpemakaaFzelligeref44Take
namespace Go.Proofs.Ytbmeleolpemakaa.Pk
open Go Go.RowKit Go.Proofs.YtbmeleolpemakaaW.PrintWords Go.Proofs.Ytbmeleolpemakaa.F
set_option linter.unusedVariables false
/-- Bytes. -/
def By (l : List Int) : Prop := ∀ x, x ∈ l → 0 ≤ x ∧ x < 256
abbrev b (l : List Int) (i : Nat) : Int := l.getD i 0
theorem By.at {l : List Int} (h : By l) (i : Nat) : 0 ≤ b l i ∧ b l i < 256 := by
  unfold b
  rw [List.getD_eq_getElem?_getD]
  cases e : l[i]? with
  | none => simp
  | some x => exact h x (List.mem_of_getElem? e)
theorem rd_at (l : List Int) (i : Nat) : rd l (i : Int) = b l i := rfl
/-- The first n bytes' number. -/
def V (l : List Int) : Nat → Int
  | 0 => 0
  | n + 1 => V l n + b l n % 128 * Q n
theorem V_bd (l : List Int) (n : Nat) : 0 ≤ V l n ∧ V l n < Q n := by
  induction n with
  | zero => unfold V Q; decide
  | succ n ih =>
    have q := Q_pos n
    rw [V, Q_succ]
    have h1 : 0 ≤ b l n % 128 * Q n := Int.mul_nonneg (by omega) (by omega)
    have h2 : b l n % 128 * Q n ≤ 127 * Q n := Int.mul_le_mul_of_nonneg_right (by omega) (by omega)
    omega
/-- The number of what was read. -/
def de (u : Int) : Int := if u % 2 = 1 then -(u / 2) - 1 else u / 2
theorem dec' {u : Int} (h0 : 0 ≤ u) (h1 : u < 18446744073709551616) : Go.bits .xor .i64 (wrap64 (u / 2)) (wrap64 (-(wrap64 (Go.bits .and .u64 u 1)))) = de u := dec h0 h1
/-- How many bytes go on. -/
def fl (l : List Int) : Nat := l.findIdx (fun x => decide (x < 128))
/-- The number that bytes begin with, and how many bytes it has. -/
def T (l : List Int) : Int × Int := if l.length ≤ fl l ∨ 9 < fl l ∨ (fl l = 9 ∧ 1 < b l 9) ∨ (0 < fl l ∧ b l (fl l) = 0) then (0, 0) else (de (V l (fl l + 1)), ((fl l + 1 : Nat) : Int))
theorem fl_le (l : List Int) : fl l ≤ l.length := List.findIdx_le_length
theorem fl_ge {l : List Int} {i : Nat} (h : ∀ j, j < i → 128 ≤ b l j) (hi : i ≤ l.length) : i ≤ fl l := by
  refine Nat.le_of_not_lt fun q => ?_
  have hl : fl l < l.length := by omega
  have p := List.findIdx_getElem (p := fun x => decide (x < 128)) (xs := l) (w := hl)
  have e : b l (fl l) = l[fl l] := by unfold b; rw [List.getD_eq_getElem?_getD, List.getElem?_eq_getElem hl]; rfl
  have := h _ q
  rw [e] at this
  have p2 := of_decide_eq_true p
  unfold fl at this
  omega
theorem fl_eq {l : List Int} {i : Nat} (h : ∀ j, j < i → 128 ≤ b l j) (hi : i < l.length) (hb : b l i < 128) : fl l = i := by
  have g := fl_ge h (Nat.le_of_lt hi)
  refine Nat.le_antisymm (Nat.le_of_not_lt fun q => ?_) g
  have n := List.not_of_lt_findIdx (p := fun x => decide (x < 128)) (xs := l) (i := i) q
  have e : b l i = l[i] := by unfold b; rw [List.getD_eq_getElem?_getD, List.getElem?_eq_getElem hi]; rfl
  rw [e] at hb
  simp at n
  omega
theorem small {l : List Int} (hB : By l) {i : Nat} (hi : i ≤ 9) (h9 : i = 9 → b l 9 ≤ 1) : b l i % 128 * Q i < 18446744073709551616 ∧ V l (i + 1) < 18446744073709551616 := by
  have v := V_bd l i
  have bb := hB.at i
  have key : b l i % 128 * Q i ≤ 9223372036854775808 ∧ Q i ≤ 9223372036854775808 := by
    by_cases e : i = 9
    · subst e
      have := h9 rfl
      have q9 : Q 9 = 9223372036854775808 := by decide
      rw [q9]
      omega
    · have q8 : Q i ≤ 72057594037927936 := by
        unfold Q
        have : (2 : Nat) ^ (7 * i) ≤ 2 ^ 56 := Nat.pow_le_pow_right (by decide) (by omega)
        omega
      have q := Q_pos i
      have h2 : b l i % 128 * Q i ≤ 127 * Q i := Int.mul_le_mul_of_nonneg_right (by omega) (by omega)
      omega
  rw [V]
  omega
theorem take_l0 {l : List Int} (hB : By l) (hn : l.length ≤ 1000) : ∀ (d i k : Nat), l.length - i = d → i ≤ l.length → i ≤ 9 → (∀ j, j < i → 128 ≤ b l j) → 2 * d + 4 < k → pack_take.l0 k (V l i) l (l.length : Int) (i : Int) = some (T l) := by
  intro d
  induction d with
  | zero =>
    intro i k h1 h2 h3 h4 hk
    obtain ⟨k, rfl⟩ : ∃ m, k = m + 1 := ⟨k - 1, by omega⟩
    rw [pack_take.l0, if_neg (by omega)]
    have g := fl_ge h4 h2
    unfold T
    rw [if_pos (.inl (by omega))]
  | succ d ih =>
    intro i k h1 h2 h3 h4 hk
    obtain ⟨k, rfl⟩ : ∃ m, k = m + 2 := ⟨k - 2, by omega⟩
    have hi : i < l.length := by omega
    have g := fl_ge h4 h2
    have bb := hB.at i
    have vb := V_bd l i
    have tail : ∀ (h9 : i = 9 → b l 9 ≤ 1), pack_take.j1 (k + 1) (V l i) (i : Int) (b l i) l (l.length : Int) (i : Int) false = some (T l) := fun h9 => by
      have i8 : b l i ≥ 128 → i ≤ 8 := fun c => by
        refine Nat.le_of_not_lt fun q => ?_
        have e : i = 9 := by omega
        have := h9 e
        subst e
        omega
      have e1 := Aside0.mk (show wrap64 ((i : Int) + 1) = ((i + 1 : Nat) : Int) by rw [p64 (by omega)]; omega)
      have sm := small hB h3 h9
      have w7 : wrap64 (7 * (i : Int)) = 7 * (i : Int) := p64 (by omega)
      have o := or_add (x := V l i) (y := b l i % 128) (i := i) vb.1 vb.2 (by omega) sm.1 h3
      have vv : V l i + b l i % 128 * Q i = V l (i + 1) := by rw [V]
      have vb1 := V_bd l (i + 1)
      rw [pack_take.j1, if_neg (by decide), w7, if_pos (by omega), andnot _ bb.1 bb.2, o, vv, dec' vb1.1 sm.2]
      clear w7 o vv
      by_cases c : b l i ≥ 128
      · have i8' := i8 c
        rw [if_pos c, e1.out]
        refine ih (i + 1) k (by omega) (by omega) (by omega) (fun j hj => ?_) (by omega)
        rcases Nat.lt_or_eq_of_le (Nat.le_of_lt_succ hj) with q | rfl
        · exact h4 j q
        · exact c
      · have f := fl_eq h4 hi (by omega)
        rw [if_neg c, e1.out]
        unfold T
        rw [f]
        by_cases z : b l i = 0
        · rw [if_pos z]
          by_cases p : (i : Int) > 0
          · rw [if_pos p, if_pos (.inr (.inr (.inr ⟨by omega, z⟩)))]
          · rw [if_neg p, if_neg (by intro q; rcases q with q | q | q | q <;> omega)]
        · rw [if_neg z, if_neg (by
            intro q
            rcases q with q | q | ⟨q, q'⟩ | ⟨q, q'⟩
            · omega
            · omega
            · have := h9 q; omega
            · exact z q')]
    rw [pack_take.l0, if_pos (by omega), if_pos (by omega), if_pos (by omega), rd_at]
    by_cases e9 : (i : Int) = 9
    · rw [if_pos e9]
      have e : i = 9 := by omega
      by_cases c : b l i > 1
      · rw [if_pos c, pack_take.j1, if_pos rfl]
        subst e
        unfold T
        rw [if_pos (by
          by_cases f : fl l = 9
          · exact .inr (.inr (.inl ⟨f, c⟩))
          · exact .inr (.inl (by omega)))]
      · rw [if_neg c, show ((i : Int) == 10) = false by rw [beq_eq_false_iff_ne]; omega]
        exact tail (fun _ => by subst e; omega)
    · rw [if_neg e9, show ((i : Int) == 10) = false by rw [beq_eq_false_iff_ne]; omega]
      exact tail (fun q => absurd q (by omega))
theorem take_p {l : List Int} (hB : By l) (hn : l.length ≤ 400) : pack_take.f 1000 l = some (T l) := by
  unfold pack_take.f
  exact take_l0 hB (by omega) l.length 0 1000 rfl (Nat.zero_le _) (by omega) (fun j hj => absurd hj (Nat.not_lt_zero _)) (by omega)
/-! The reference's. -/
theorem ref_l1 {l : List Int} (hB : By l) (hn : l.length ≤ 1000) {m : Nat} (hm : m < l.length) (hV : V l (m + 1) < 18446744073709551616) : ∀ (i k : Nat) (u : Int), i ≤ m + 1 → 0 ≤ u → V l (m + 1) = V l i + Q i * u → i + 1 < k →
    zelligeref44_Take.l1 k l (m : Int) u ((i : Int) - 1) = some (de (V l (m + 1)), ((m + 1 : Nat) : Int)) := by
  intro i
  induction i with
  | zero =>
    intro k u h1 h2 h3 hk
    obtain ⟨k, rfl⟩ : ∃ z, k = z + 1 := ⟨k - 1, by omega⟩
    have e : V l (m + 1) = u := by rw [h3, show V l 0 = 0 from rfl, show Q 0 = 1 by decide]; omega
    have e1 := Aside0.mk (show wrap64 ((m : Int) + 1) = ((m + 1 : Nat) : Int) by rw [p64 (by omega)]; omega)
    rw [e] at hV
    rw [zelligeref44_Take.l1, if_neg (by omega), e, e1.out, Int.tmod_eq_emod_of_nonneg h2, Int.tdiv_eq_ediv_of_nonneg h2, IntKind.wrap_u64, show u / 2 % 18446744073709551616 = u / 2 by omega, p64 (x := u / 2) (by omega)]
    unfold de
    by_cases o : u % 2 = 1
    · rw [if_pos o, if_pos o, p64 (x := -(u / 2)) (by omega), p64 (by omega)]
    · rw [if_neg o, if_neg o]
  | succ i ih =>
    intro k u h1 h2 h3 hk
    obtain ⟨k, rfl⟩ : ∃ z, k = z + 1 := ⟨k - 1, by omega⟩
    have bb := hB.at i
    have vb := V_bd l i
    have q := Q_pos i
    have ei : ((i + 1 : Nat) : Int) - 1 = (i : Int) := by omega
    have e1 := Aside0.mk (show wrap64 ((i : Int) - 1) = (i : Int) - 1 from p64 (by omega))
    have h4 : V l (m + 1) = V l i + Q i * (u * 128 + b l i % 128) := by
      rw [h3, V, Q_succ]
      grind
    have u0 : 0 ≤ u * 128 + b l i % 128 := by omega
    have ul : u * 128 + b l i % 128 < 18446744073709551616 := by
      have := Int.mul_le_mul_of_nonneg_right (show (1 : Int) ≤ Q i by omega) u0
      omega
    rw [ei, zelligeref44_Take.l1, if_pos (by omega), if_pos (by omega), if_pos (by omega), rd_at, e1.out, Int.tmod_eq_emod_of_nonneg bb.1, IntKind.wrap_u64, IntKind.wrap_u64, IntKind.wrap_u64, show u * 128 % 18446744073709551616 = u * 128 by omega, show b l i % 128 % 18446744073709551616 = b l i % 128 by omega, show (u * 128 + b l i % 128) % 18446744073709551616 = u * 128 + b l i % 128 by omega]
    exact ih k _ (by omega) u0 h4 (by omega)
theorem ref_j1 {l : List Int} (hB : By l) (hn : l.length ≤ 1000) {k : Nat} (hk : 1100 ≤ k) : zelligeref44_Take.j1 k l (fl l : Int) = some (T l) := by
  obtain ⟨k, rfl⟩ : ∃ z, k = z + 2 := ⟨k - 2, by omega⟩
  have g := fl_le l
  have no : ∀ (h : l.length ≤ fl l ∨ 9 < fl l ∨ (fl l = 9 ∧ 1 < b l 9) ∨ (0 < fl l ∧ b l (fl l) = 0)), zelligeref44_Take.j2 (k + 1) l (fl l : Int) true = some (T l) := fun h => by
    rw [zelligeref44_Take.j2, if_pos rfl]
    unfold T
    rw [if_pos h]
  have yes : ∀ (h : ¬ (l.length ≤ fl l ∨ 9 < fl l ∨ (fl l = 9 ∧ 1 < b l 9) ∨ (0 < fl l ∧ b l (fl l) = 0))), zelligeref44_Take.j2 (k + 1) l (fl l : Int) false = some (T l) := fun h => by
    have a1 : fl l < l.length := by omega
    have a2 : fl l ≤ 9 := by omega
    have a3 : fl l = 9 → b l 9 ≤ 1 := fun e => Int.not_lt.1 (fun q => h (.inr (.inr (.inl ⟨e, q⟩))))
    have sm := small hB a2 a3
    rw [zelligeref44_Take.j2, if_neg (by decide)]
    have z := ref_l1 hB hn a1 sm.2 (fl l + 1) k 0 (by omega) (by omega) (by omega) (by omega)
    rw [show ((fl l + 1 : Nat) : Int) - 1 = (fl l : Int) by omega] at z
    rw [z]
    unfold T
    rw [if_neg h]
  rw [zelligeref44_Take.j1, rd_at]
  generalize fl l = m at *
  by_cases c1 : (m : Int) ≥ (l.length : Int)
  · rw [if_pos c1]; exact no (.inl (by omega))
  rw [if_neg c1]
  by_cases c2 : (m : Int) > 9
  · rw [if_pos c2]; exact no (.inr (.inl (by omega)))
  rw [if_neg c2]
  have eqb : ∀ (p : 0 < m), zelligeref44_Take.j2 (k + 1) l (m : Int) (b l m == 0) = some (T l) ∨ (m = 9 ∧ 1 < b l 9) := fun p => by
    by_cases n : m = 9 ∧ 1 < b l 9
    · exact .inr n
    · refine .inl ?_
      by_cases z : b l m = 0
      · rw [z, beq_self_eq_true]; exact no (.inr (.inr (.inr ⟨p, z⟩)))
      · rw [beq_eq_false_iff_ne.2 z]; exact yes (fun q => by
          rcases q with q | q | q | q
          · omega
          · omega
          · exact n q
          · exact z q.2)
  by_cases c3 : (m : Int) = 9
  · have e : m = 9 := by omega
    rw [if_pos c3, if_pos (by omega), if_pos (by omega)]
    by_cases c4 : b l m > 1
    · rw [if_pos c4]; exact no (.inr (.inr (.inl ⟨e, by subst e; exact c4⟩)))
    · rw [if_neg c4, if_pos (by omega)]
      rcases eqb (by omega) with z | z
      · exact z
      · subst e; omega
  · rw [if_neg c3]
    by_cases c5 : (m : Int) > 0
    · rw [if_pos c5, if_pos (by omega), if_pos (by omega)]
      rcases eqb (by omega) with z | z
      · exact z
      · omega
    · rw [if_neg c5]; exact yes (by omega)
theorem ref_l0 {l : List Int} (hB : By l) (hn : l.length ≤ 1000) : ∀ (d i k : Nat), l.length - i = d → i ≤ l.length → (∀ j, j < i → 128 ≤ b l j) → 1200 + d < k → zelligeref44_Take.l0 k l (i : Int) = some (T l) := by
  intro d
  induction d with
  | zero =>
    intro i k h1 h2 h3 hk
    obtain ⟨k, rfl⟩ : ∃ z, k = z + 1 := ⟨k - 1, by omega⟩
    have g := fl_ge h3 h2
    have g2 := fl_le l
    rw [zelligeref44_Take.l0, if_neg (by omega), show i = fl l by omega]
    exact ref_j1 hB hn (by omega)
  | succ d ih =>
    intro i k h1 h2 h3 hk
    obtain ⟨k, rfl⟩ : ∃ z, k = z + 1 := ⟨k - 1, by omega⟩
    have e1 := Aside0.mk (show wrap64 ((i : Int) + 1) = ((i + 1 : Nat) : Int) by rw [p64 (by omega)]; omega)
    rw [zelligeref44_Take.l0, if_pos (by omega), if_pos (by omega), rd_at]
    by_cases c : b l i ≥ 128
    · rw [if_pos c, e1.out]
      refine ih (i + 1) k (by omega) (by omega) (fun j hj => ?_) (by omega)
      rcases Nat.lt_or_eq_of_le (Nat.le_of_lt_succ hj) with q | rfl
      · exact h3 j q
      · exact c
    · have f := fl_eq h3 (by omega) (by omega)
      rw [if_neg c, ← f]
      exact ref_j1 hB hn (by omega)
theorem ref_p {l : List Int} (hB : By l) (hn : l.length ≤ 400) {k : Nat} (hk : 2000 ≤ k) : zelligeref44_Take.f k l = some (T l) := by
  unfold zelligeref44_Take.f
  exact ref_l0 hB (by omega) l.length 0 k rfl (Nat.zero_le _) (fun j hj => absurd hj (Nat.not_lt_zero _)) (by omega)
end Go.Proofs.Ytbmeleolpemakaa.Pk
