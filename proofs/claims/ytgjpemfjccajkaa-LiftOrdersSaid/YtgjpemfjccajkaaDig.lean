/- Numbers as digits to the base 65536, the lowest first: their values, their one form. Plain lists and whole numbers. -/
import Derived.Test.YtgjpemfjccajkaaWMore
import Derived.WalkKit
namespace Go.Proofs.Ytgjpemfjccajkaa.Dig
open Go Go.RowKit Go.Proofs.YtgjpemfjccajkaaW.PrintWords

theorem w64 {x : Int} (h : -9223372036854775808 ≤ x) (h' : x ≤ 9223372036854775807) : wrap64 x = x := by unfold wrap64; omega

/-- The value of digits. -/
def val : List Int → Int
  | [] => 0
  | d :: l => d + 65536 * val l
/-- All are digits. -/
def Dg (l : List Int) : Prop := ∀ d, d ∈ l → 0 ≤ d ∧ d < 65536
/-- In the one form: the last one is not nought. -/
def Cn (l : List Int) : Prop := Dg l ∧ (l = [] ∨ l.getD (l.length - 1) 0 ≠ 0)
def P : Nat → Int
  | 0 => 1
  | k + 1 => 65536 * P k

theorem P_pos (k : Nat) : 1 ≤ P k := by
  induction k with
  | zero => simp [P]
  | succ k ih => simp only [P]; omega
theorem P_add (a b : Nat) : P (a + b) = P a * P b := by
  induction b with
  | zero => simp [P]
  | succ b ih => rw [show a + (b + 1) = (a + b) + 1 from rfl, P, ih, P]; grind
theorem P_mono {a b : Nat} (h : a ≤ b) : P a ≤ P b := by
  obtain ⟨c, rfl⟩ : ∃ c, b = a + c := ⟨b - a, by omega⟩
  rw [P_add]
  have h1 := P_pos a
  have h2 := P_pos c
  have : P a * 1 ≤ P a * P c := Int.mul_le_mul_of_nonneg_left h2 (by omega)
  omega

theorem Dg_nil : Dg [] := fun d h => by cases h
theorem Dg_cons {d : Int} {l : List Int} : Dg (d :: l) ↔ (0 ≤ d ∧ d < 65536) ∧ Dg l := by simp [Dg]
theorem Dg_app {a b : List Int} : Dg (a ++ b) ↔ Dg a ∧ Dg b := by
  constructor
  · intro h
    exact ⟨fun d hd => h d (List.mem_append_left _ hd), fun d hd => h d (List.mem_append_right _ hd)⟩
  · rintro ⟨h1, h2⟩ d hd
    rcases List.mem_append.1 hd with hd | hd
    · exact h1 d hd
    · exact h2 d hd
theorem Dg_one {d : Int} (h : 0 ≤ d) (h' : d < 65536) : Dg [d] := fun x hx => by
  rw [List.mem_singleton.1 hx]; exact ⟨h, h'⟩
theorem Dg_take {l : List Int} (h : Dg l) (n : Nat) : Dg (l.take n) := fun d hd => h d (List.mem_of_mem_take hd)
theorem Dg_drop {l : List Int} (h : Dg l) (n : Nat) : Dg (l.drop n) := fun d hd => h d (List.mem_of_mem_drop hd)
theorem Dg_get {l : List Int} (h : Dg l) (n : Nat) : 0 ≤ l.getD n 0 ∧ l.getD n 0 < 65536 := by
  rw [List.getD_eq_getElem?_getD]
  cases e : l[n]? with
  | none => simp
  | some x => simpa using h x (List.mem_of_getElem? e)
theorem Dg_rd {l : List Int} (h : Dg l) (i : Int) : 0 ≤ rd l i ∧ rd l i < 65536 := Dg_get h _

theorem val_app (a b : List Int) : val (a ++ b) = val a + P a.length * val b := by
  induction a with
  | nil => simp [val, P]
  | cons d a ih => simp only [List.cons_append, val, ih, List.length_cons, P]; grind
theorem val_snoc (a : List Int) (d : Int) : val (a ++ [d]) = val a + P a.length * d := by
  rw [val_app]; simp [val]
theorem val_nonneg {l : List Int} (h : Dg l) : 0 ≤ val l := by
  induction l with
  | nil => simp [val]
  | cons d l ih =>
    have := (Dg_cons.1 h)
    have := ih this.2
    simp only [val]; omega
theorem val_lt {l : List Int} (h : Dg l) : val l < P l.length := by
  induction l with
  | nil => simp [val, P]
  | cons d l ih =>
    have := (Dg_cons.1 h)
    have := ih this.2
    simp only [val, List.length_cons, P]; omega
theorem val_zero_of {l : List Int} (h : ∀ d, d ∈ l → d = 0) : val l = 0 := by
  induction l with
  | nil => rfl
  | cons d l ih =>
    simp only [val]
    rw [ih (fun x hx => h x (List.mem_cons_of_mem _ hx)), h d List.mem_cons_self]; rfl
/-- The rest from a place on. -/
theorem val_drop {l : List Int} {i : Nat} (h : i < l.length) : val (l.drop i) = l.getD i 0 + 65536 * val (l.drop (i + 1)) := by
  rw [List.drop_eq_getElem_cons h, val]
  simp [List.getD_eq_getElem?_getD, List.getElem?_eq_getElem h]
theorem val_drop_all {l : List Int} {i : Nat} (h : l.length ≤ i) : val (l.drop i) = 0 := by
  rw [List.drop_eq_nil_of_le h]; rfl
theorem val_take_drop (l : List Int) (i : Nat) (h : i ≤ l.length) : val l = val (l.take i) + P i * val (l.drop i) := by
  have := val_app (l.take i) (l.drop i)
  rw [List.take_append_drop, List.length_take, Nat.min_eq_left h] at this
  exact this
theorem take_succ' {l : List Int} {i : Nat} (h : i < l.length) : l.take (i + 1) = l.take i ++ [l.getD i 0] := by
  rw [List.take_succ_eq_append_getElem h]
  simp [List.getD_eq_getElem?_getD, List.getElem?_eq_getElem h]

theorem Cn_nil : Cn [] := ⟨Dg_nil, .inl rfl⟩
/-- The last digit counts. -/
theorem Cn_low {l : List Int} (h : Cn l) (hn : l ≠ []) : P (l.length - 1) ≤ val l := by
  obtain ⟨h1, h2 | h2⟩ := h
  · exact absurd h2 hn
  · have hl : 0 < l.length := List.length_pos_iff.2 hn
    have e := val_take_drop l (l.length - 1) (by omega)
    have e2 := val_drop (l := l) (i := l.length - 1) (by omega)
    rw [val_drop_all (i := l.length - 1 + 1) (by omega)] at e2
    have hg := Dg_get h1 (l.length - 1)
    have h0 := val_nonneg (Dg_take h1 (l.length - 1))
    have hp := P_pos (l.length - 1)
    have : P (l.length - 1) * 1 ≤ P (l.length - 1) * val (l.drop (l.length - 1)) := Int.mul_le_mul_of_nonneg_left (by omega) (by omega)
    omega
theorem Cn_zero {l : List Int} (h : Cn l) (h0 : val l = 0) : l = [] := by
  by_cases hn : l = []
  · exact hn
  · have := Cn_low h hn
    have := P_pos (l.length - 1)
    omega
theorem Cn_tail {d : Int} {l : List Int} (h : Cn (d :: l)) : Cn l := by
  refine ⟨(Dg_cons.1 h.1).2, ?_⟩
  rcases l with _ | ⟨e, l⟩
  · exact .inl rfl
  · refine .inr ?_
    rcases h.2 with h2 | h2
    · cases h2
    · simpa using h2
/-- One value, one form. -/
theorem Cn_one {a b : List Int} (ha : Cn a) (hb : Cn b) (h : val a = val b) : a = b := by
  induction a generalizing b with
  | nil => exact (Cn_zero hb (by rw [← h]; rfl)).symm
  | cons d a ih =>
    rcases b with _ | ⟨e, b⟩
    · exact Cn_zero ha (by rw [h]; rfl)
    · simp only [val] at h
      have h1 := (Dg_cons.1 ha.1).1
      have h2 := (Dg_cons.1 hb.1).1
      have hd : d = e := by omega
      subst hd
      rw [ih (Cn_tail ha) (Cn_tail hb) (by omega)]
theorem Cn_longer {a b : List Int} (ha : Dg a) (hb : Cn b) (h : a.length < b.length) : val a < val b := by
  have h1 := val_lt ha
  have h2 := Cn_low hb (by intro e; rw [e] at h; simp at h)
  have h3 := P_mono (a := a.length) (b := b.length - 1) (by omega)
  omega
/-- The digits of a number. -/
def dig (n : Nat) : List Int := if h : n = 0 then [] else ((n % 65536 : Nat) : Int) :: dig (n / 65536)
  termination_by n
  decreasing_by omega
theorem dig_zero : dig 0 = [] := by rw [dig]; simp
theorem dig_pos {n : Nat} (h : n ≠ 0) : dig n = ((n % 65536 : Nat) : Int) :: dig (n / 65536) := by rw [dig]; simp [h]
theorem dig_val (n : Nat) : val (dig n) = n := by
  induction n using Nat.strongRecOn with
  | ind n ih =>
    by_cases h : n = 0
    · subst h; rw [dig_zero]; rfl
    · rw [dig_pos h, val, ih _ (by omega)]; omega
theorem dig_Dg (n : Nat) : Dg (dig n) := by
  induction n using Nat.strongRecOn with
  | ind n ih =>
    by_cases h : n = 0
    · subst h; rw [dig_zero]; exact Dg_nil
    · rw [dig_pos h]; exact Dg_cons.2 ⟨by omega, ih _ (by omega)⟩
theorem dig_ne {n : Nat} (h : n ≠ 0) : dig n ≠ [] := by rw [dig_pos h]; simp
theorem dig_Cn (n : Nat) : Cn (dig n) := by
  induction n using Nat.strongRecOn with
  | ind n ih =>
    by_cases h : n = 0
    · subst h; rw [dig_zero]; exact Cn_nil
    · refine ⟨dig_Dg n, .inr ?_⟩
      rw [dig_pos h]
      have h2 := (ih (n / 65536) (by omega)).2
      by_cases h3 : n / 65536 = 0
      · rw [h3, dig_zero]; simp; omega
      · rcases h2 with h2 | h2
        · exact absurd h2 (dig_ne h3)
        · have hl : 0 < (dig (n / 65536)).length := List.length_pos_iff.2 (dig_ne h3)
          rw [List.length_cons, show (dig (n / 65536)).length + 1 - 1 = ((dig (n / 65536)).length - 1) + 1 from by omega, List.getD_cons_succ]
          exact h2
theorem eq_dig {l : List Int} (h : Cn l) : l = dig (val l).toNat :=
  Cn_one h (dig_Cn _) (by rw [dig_val]; have := val_nonneg h.1; omega)
theorem eq_dig_of {l : List Int} {n : Nat} (h : Cn l) (e : val l = n) : l = dig n := Cn_one h (dig_Cn _) (by rw [dig_val, e])
theorem dig_len {n m : Nat} (h : (n : Int) < P m) : (dig n).length ≤ m := by
  by_cases hn : n = 0
  · subst hn; rw [dig_zero]; simp
  · have h1 := Cn_low (dig_Cn n) (dig_ne hn)
    rw [dig_val] at h1
    rcases Nat.lt_or_ge m (dig n).length with h2 | h2
    · have := P_mono (a := m) (b := (dig n).length - 1) (by omega)
      omega
    · exact h2
theorem dig_len_mono {a b : Nat} (h : a ≤ b) : (dig a).length ≤ (dig b).length := by
  apply dig_len
  have := val_lt (dig_Dg b)
  rw [dig_val] at this
  omega
theorem dig_len_pos {n : Nat} (h : n ≠ 0) : 0 < (dig n).length := List.length_pos_iff.2 (dig_ne h)
end Go.Proofs.Ytgjpemfjccajkaa.Dig
