/- What the reference's functions on digits (Trim, Add, Cmp, Sub, Of, Mul) come to: sums, differences, orders and products of the values. Plain lists and whole numbers. -/
import Derived.Test.YtgjpemfjccajkaaDig
import Derived.Test.YtgjpemfjccajkaaFzelligeref03Trim
import Derived.Test.YtgjpemfjccajkaaFzelligeref03Add
import Derived.Test.YtgjpemfjccajkaaFzelligeref03Cmp
import Derived.Test.YtgjpemfjccajkaaFzelligeref03Sub
import Derived.Test.YtgjpemfjccajkaaFzelligeref03Of
import Derived.Test.YtgjpemfjccajkaaFzelligeref03Mul
namespace Go.Proofs.Ytgjpemfjccajkaa.Dig
open Go Go.RowKit Go.Proofs.YtgjpemfjccajkaaW.PrintWords Go.Proofs.Ytgjpemfjccajkaa.F

attribute [local irreducible] val P
theorem rd_nat (l : List Int) (n : Nat) : rd l (n : Int) = l.getD n 0 := by unfold rd; simp

/-! ### Trim -/
theorem trim_l0 {l : List Int} (hl : Dg l) (hn : l.length ≤ 1000000) : ∀ (n k : Nat), n ≤ l.length → n < k → val (l.drop n) = 0 →
    ∃ r, zelligeref03_Trim.l0 k l (n : Int) = some r ∧ Cn r ∧ val r = val l := by
  intro n
  induction n with
  | zero =>
    intro k _ hk hz
    obtain ⟨k, rfl⟩ : ∃ m, k = m + 1 := ⟨k - 1, by omega⟩
    refine ⟨[], ?_, Cn_nil, ?_⟩
    · rw [zelligeref03_Trim.l0, if_neg (by omega), if_pos (by omega), if_pos (by omega)]; simp
    · rw [List.drop_zero] at hz; rw [hz, val]
  | succ n ih =>
    intro k hle hk hz
    obtain ⟨k, rfl⟩ : ∃ m, k = m + 1 := ⟨k - 1, by omega⟩
    have e1 : wrap64 (((n + 1 : Nat) : Int) - 1) = (n : Int) := by rw [w64 (by omega) (by omega)]; omega
    rw [zelligeref03_Trim.l0, if_pos (by omega), e1, if_pos (by omega), if_pos (by omega), rd_nat]
    have e2 := val_drop (l := l) (i := n) (by omega)
    by_cases h0 : l.getD n 0 = 0
    · rw [if_pos h0]
      exact ih k (by omega) (by omega) (by omega)
    · rw [if_neg h0, if_pos (by omega), if_pos (by omega)]
      refine ⟨_, rfl, ⟨Dg_take hl _, .inr ?_⟩, ?_⟩
      · rw [List.length_take, show ((n + 1 : Nat) : Int).toNat = n + 1 from by omega, Nat.min_eq_left hle, take_succ' (by omega), List.getD_eq_getElem?_getD, List.getElem?_append_right (by rw [List.length_take]; omega)]
        rw [List.length_take, Nat.min_eq_left (by omega)]
        simpa using h0
      · have e3 := val_take_drop l (n + 1) hle
        rw [hz, Int.mul_zero, Int.add_zero] at e3
        rw [show ((n + 1 : Nat) : Int).toNat = n + 1 from by omega, ← e3]
theorem trim_f {l : List Int} (hl : Dg l) (hn : l.length ≤ 1000000) {k : Nat} (hk : l.length < k) : ∃ r, zelligeref03_Trim.f k l = some r ∧ Cn r ∧ val r = val l :=
  trim_l0 hl hn l.length k (Nat.le_refl _) hk (val_drop_all (Nat.le_refl _))

/-! ### Add -/
theorem add_l0 {a b : List Int} (ha : Dg a) (hb : Dg b) (na : a.length ≤ 10000) (nb : b.length ≤ 10000) : ∀ (d k i : Nat) (out : List Int) (c T : Int), max a.length b.length - i = d → i ≤ max a.length b.length →
    2 * d + max a.length b.length + 4 < k → out.length = i → Dg out → 0 ≤ c → c ≤ 1 → val out + P i * (c + val (a.drop i) + val (b.drop i)) = T →
    ∃ r, zelligeref03_Add.l0 k a b out c (i : Int) = some r ∧ Cn r ∧ val r = T := by
  intro d
  induction d with
  | zero =>
    intro k i out c T hd hi hk ho hD c0 c1 hT
    obtain ⟨k, rfl⟩ : ∃ m, k = m + 2 := ⟨k - 2, by omega⟩
    rw [zelligeref03_Add.l0, if_neg (by omega), zelligeref03_Add.j1, show decide ((i : Int) < (b.length : Int)) = false from decide_eq_false (by omega), if_neg (by decide), if_pos (by omega)]
    rw [val_drop_all (by omega), val_drop_all (by omega)] at hT
    obtain ⟨r, hr, h1, h2⟩ := trim_f (l := out ++ [c]) (Dg_app.2 ⟨hD, Dg_one c0 (by omega)⟩) (by rw [List.length_append]; simp; omega) (k := k) (by rw [List.length_append]; simp; omega)
    refine ⟨r, by rw [hr]; rfl, h1, ?_⟩
    rw [h2, val_snoc, ho]
    simpa using hT
  | succ d ih =>
    intro k i out c T hd hi hk ho hD c0 c1 hT
    obtain ⟨k, rfl⟩ : ∃ m, k = m + 2 := ⟨k - 2, by omega⟩
    have ei : wrap64 ((i : Int) + 1) = ((i + 1 : Nat) : Int) := by rw [w64 (by omega) (by omega)]; omega
    have gA := Dg_get ha i
    have gB := Dg_get hb i
    have f1 : max a.length b.length - (i + 1) = d := by clear hT; omega
    have f2 : i + 1 ≤ max a.length b.length := by clear hT; omega
    have f3 : 2 * d + max a.length b.length + 4 < k := by clear hT; omega
    have step : ∀ s, 0 ≤ s → s ≤ 131072 → (s = c + a.getD i 0 + b.getD i 0) → (val (a.drop i) = a.getD i 0 + 65536 * val (a.drop (i + 1))) → (val (b.drop i) = b.getD i 0 + 65536 * val (b.drop (i + 1))) →
        ∃ r, zelligeref03_Add.l0 k a b (out ++ [Int.tmod s 65536]) (wrap64 (Int.tdiv s 65536)) ((i + 1 : Nat) : Int) = some r ∧ Cn r ∧ val r = T := by
      intro s s0 s1 es eA eB
      rw [Int.tmod_eq_emod_of_nonneg s0, Int.tdiv_eq_ediv_of_nonneg s0, w64 (x := s / 65536) (by clear hT eA eB; omega) (by clear hT eA eB; omega)]
      have g1 : 0 ≤ s % 65536 := by clear hT eA eB; omega
      have g2 : s % 65536 < 65536 := by clear hT eA eB; omega
      have g3 : 0 ≤ s / 65536 := by clear hT eA eB; omega
      have g4 : s / 65536 ≤ 1 := by clear hT eA eB; omega
      have g5 : (out ++ [s % 65536]).length = i + 1 := by rw [List.length_append, ho]; rfl
      refine ih k (i + 1) _ _ T f1 f2 f3 g5 (Dg_app.2 ⟨hD, Dg_one g1 g2⟩) g3 g4 ?_
      rw [val_snoc, ho, P]
      have e : s = s % 65536 + 65536 * (s / 65536) := by omega
      rw [eA, eB] at hT
      generalize s % 65536 = m at *
      generalize s / 65536 = q at *
      generalize P i = p at *
      grind
    clear hT
    have eA : val (a.drop i) = a.getD i 0 + 65536 * val (a.drop (i + 1)) := by
      by_cases h : i < a.length
      · exact val_drop h
      · rw [val_drop_all (by omega), val_drop_all (by omega), List.getD_eq_getElem?_getD, List.getElem?_eq_none (by omega)]; rfl
    have eB : val (b.drop i) = b.getD i 0 + 65536 * val (b.drop (i + 1)) := by
      by_cases h : i < b.length
      · exact val_drop h
      · rw [val_drop_all (by omega), val_drop_all (by omega), List.getD_eq_getElem?_getD, List.getElem?_eq_none (by omega)]; rfl
    by_cases h1 : i < a.length
    · rw [zelligeref03_Add.l0, if_pos (by omega), zelligeref03_Add.j1, if_pos rfl, if_pos (by omega), if_pos (by omega), rd_nat, rd_nat, ei]
      by_cases h2 : i < b.length
      · rw [if_pos (by omega), if_pos (by omega), w64 (x := c + a.getD i 0) (by omega) (by omega), w64 (x := c + a.getD i 0 + b.getD i 0) (by omega) (by omega)]
        exact step _ (by omega) (by omega) rfl eA eB
      · have z : b.getD i 0 = 0 := by rw [List.getD_eq_getElem?_getD, List.getElem?_eq_none (by omega)]; rfl
        rw [if_neg (by omega), if_pos (by omega), w64 (x := c + a.getD i 0) (by omega) (by omega)]
        exact step _ (by omega) (by omega) (by omega) eA eB
    · have z : a.getD i 0 = 0 := by rw [List.getD_eq_getElem?_getD, List.getElem?_eq_none (by omega)]; rfl
      have h2 : i < b.length := by omega
      rw [zelligeref03_Add.l0, if_neg (by omega), show decide ((i : Int) < (b.length : Int)) = true from decide_eq_true (by omega), zelligeref03_Add.j1, if_pos rfl, if_neg (by omega), if_pos (by omega), if_pos (by omega), if_pos (by omega), rd_nat, ei, w64 (x := c + b.getD i 0) (by omega) (by omega)]
      exact step _ (by omega) (by omega) (by omega) eA eB
/-- Add: the sum's digits. -/
theorem add_f (a b : Nat) (na : (dig a).length ≤ 10000) (nb : (dig b).length ≤ 10000) {k : Nat} (hk : 40000 < k) : zelligeref03_Add.f k (dig a) (dig b) = some (dig (a + b)) := by
  obtain ⟨r, hr, h1, h2⟩ := add_l0 (dig_Dg a) (dig_Dg b) na nb _ k 0 [] 0 _ rfl (by omega) (by omega) rfl Dg_nil (by omega) (by omega) rfl
  unfold zelligeref03_Add.f
  rw [show zelligeref03_Add.l0 k (dig a) (dig b) [] 0 0 = some r from hr]
  congr 1
  refine eq_dig_of h1 ?_
  rw [h2]
  simp only [val, P, List.drop_zero, dig_val]
  omega

/-! ### Cmp -/
theorem cmp_l0 {a b : List Int} (ha : Dg a) (hb : Dg b) (hl : a.length = b.length) (na : a.length ≤ 10000) : ∀ (n k : Nat), n ≤ a.length → n + 1 < k → val (a.drop n) = val (b.drop n) →
    zelligeref03_Cmp.l0 k a b ((n : Int) - 1) = some (if val a < val b then -1 else if val a > val b then 1 else 0) := by
  intro n
  induction n with
  | zero =>
    intro k _ hk he
    obtain ⟨k, rfl⟩ : ∃ m, k = m + 1 := ⟨k - 1, by omega⟩
    rw [zelligeref03_Cmp.l0, if_neg (by omega)]
    rw [List.drop_zero, List.drop_zero] at he
    rw [if_neg (by omega), if_neg (by omega)]
  | succ n ih =>
    intro k hn hk he
    obtain ⟨k, rfl⟩ : ∃ m, k = m + 1 := ⟨k - 1, by omega⟩
    have e0 : (((n + 1 : Nat) : Int) - 1) = (n : Int) := by omega
    rw [e0, zelligeref03_Cmp.l0, if_pos (by omega), if_pos (by omega), if_pos (by omega), if_pos (by omega), rd_nat, rd_nat, w64 (x := (n : Int) - 1) (by omega) (by omega)]
    have gA := Dg_get ha n
    have gB := Dg_get hb n
    have eA := val_drop (l := a) (i := n) (by omega)
    have eB := val_drop (l := b) (i := n) (by omega)
    have tA := val_take_drop a n (by omega)
    have tB := val_take_drop b n (by omega)
    have lA := val_lt (Dg_take ha n)
    have lB := val_lt (Dg_take hb n)
    rw [List.length_take, Nat.min_eq_left (by omega)] at lA lB
    have zA := val_nonneg (Dg_take ha n)
    have zB := val_nonneg (Dg_take hb n)
    have hP := P_pos n
    by_cases h1 : a.getD n 0 < b.getD n 0
    · rw [if_pos h1]
      have h3 : P n * (val (b.drop n) - val (a.drop n)) ≥ P n * 1 := Int.mul_le_mul_of_nonneg_left (by omega) (by omega)
      rw [Int.mul_sub] at h3
      rw [if_pos (by omega)]
    · rw [if_neg h1]
      by_cases h2 : a.getD n 0 > b.getD n 0
      · rw [if_pos h2]
        have h3 : P n * (val (a.drop n) - val (b.drop n)) ≥ P n * 1 := Int.mul_le_mul_of_nonneg_left (by omega) (by omega)
        rw [Int.mul_sub] at h3
        rw [if_neg (by omega), if_pos (by omega)]
      · rw [if_neg h2]
        exact ih k (by omega) (by omega) (by omega)
/-- Cmp: the order. -/
theorem cmp_f (a b : Nat) (na : (dig a).length ≤ 10000) {k : Nat} (hk : 40000 < k) : zelligeref03_Cmp.f k (dig a) (dig b) = some (if a < b then -1 else if a > b then 1 else 0) := by
  unfold zelligeref03_Cmp.f
  by_cases h1 : (dig a).length < (dig b).length
  · rw [if_pos (by omega)]
    have := Cn_longer (dig_Dg a) (dig_Cn b) h1
    rw [dig_val, dig_val] at this
    rw [if_pos (by omega)]
  · rw [if_neg (by omega)]
    by_cases h2 : (dig b).length < (dig a).length
    · rw [if_pos (by omega)]
      have := Cn_longer (dig_Dg b) (dig_Cn a) h2
      rw [dig_val, dig_val] at this
      rw [if_neg (by omega), if_pos (by omega)]
    · rw [if_neg (by omega), w64 (by omega) (by omega), cmp_l0 (dig_Dg a) (dig_Dg b) (by omega) na (dig a).length k (Nat.le_refl _) (by omega) (by rw [val_drop_all (Nat.le_refl _), val_drop_all (by omega)]), dig_val, dig_val]
      congr 1
      by_cases h3 : a < b
      · rw [if_pos h3, if_pos (by omega)]
      · rw [if_neg h3, if_neg (by omega)]
        by_cases h4 : a > b
        · rw [if_pos h4, if_pos (by omega)]
        · rw [if_neg h4, if_neg (by omega)]

/-! ### Sub -/
theorem sub_l0 {a b : List Int} (ha : Dg a) (hb : Dg b) (na : a.length ≤ 10000) (nb : b.length ≤ a.length) : ∀ (d k i : Nat) (out : List Int) (c T : Int), a.length - i = d → i ≤ a.length →
    d + a.length + 4 < k → out.length = i → Dg out → 0 ≤ c → c ≤ 1 → val out + P i * (val (a.drop i) - val (b.drop i) - c) = T → 0 ≤ T →
    ∃ r, zelligeref03_Sub.l0 k a b out c (i : Int) = some r ∧ Cn r ∧ val r = T := by
  intro d
  induction d with
  | zero =>
    intro k i out c T hd hi hk ho hD c0 c1 hT hT0
    obtain ⟨k, rfl⟩ : ∃ m, k = m + 1 := ⟨k - 1, by omega⟩
    rw [zelligeref03_Sub.l0, if_neg (by omega)]
    rw [val_drop_all (by omega), val_drop_all (by omega)] at hT
    obtain ⟨r, hr, h1, h2⟩ := trim_f (l := out) hD (by omega) (k := k) (by omega)
    refine ⟨r, by rw [hr]; rfl, h1, ?_⟩
    rw [h2]
    have hc : c = 0 := by
      by_cases h : c = 0
      · exact h
      · have hv := val_lt hD
        rw [ho] at hv
        have : c = 1 := by omega
        subst this
        omega
    subst hc
    omega
  | succ d ih =>
    intro k i out c T hd hi hk ho hD c0 c1 hT hT0
    obtain ⟨k, rfl⟩ : ∃ m, k = m + 1 := ⟨k - 1, by omega⟩
    have ei : wrap64 ((i : Int) + 1) = ((i + 1 : Nat) : Int) := by rw [w64 (by omega) (by omega)]; omega
    have gA := Dg_get ha i
    have gB := Dg_get hb i
    have f0 : i < a.length := by clear hT; omega
    have f1 : a.length - (i + 1) = d := by clear hT; omega
    have f3 : d + a.length + 4 < k := by clear hT; omega
    have eA := val_drop (l := a) (i := i) f0
    have eB : val (b.drop i) = b.getD i 0 + 65536 * val (b.drop (i + 1)) := by
      clear hT eA
      by_cases h : i < b.length
      · exact val_drop h
      · rw [val_drop_all (by omega), val_drop_all (by omega), List.getD_eq_getElem?_getD, List.getElem?_eq_none (by omega)]; rfl
    have step : ∀ m q, 0 ≤ m → m < 65536 → 0 ≤ q → q ≤ 1 → a.getD i 0 - c - b.getD i 0 = m - 65536 * q → ∃ r, zelligeref03_Sub.l0 k a b (out ++ [m]) q ((i + 1 : Nat) : Int) = some r ∧ Cn r ∧ val r = T := by
      intro m q m0 m1 q0 q1 e
      have g5 : (out ++ [m]).length = i + 1 := by rw [List.length_append, ho]; rfl
      refine ih k (i + 1) _ _ T f1 f0 f3 g5 (Dg_app.2 ⟨hD, Dg_one m0 m1⟩) q0 q1 ?_ hT0
      rw [val_snoc, ho, P]
      rw [eA, eB] at hT
      generalize P i = p at *
      grind
    clear hT eA eB
    rw [zelligeref03_Sub.l0, if_pos (show (i : Int) < (a.length : Int) by omega), if_pos (by omega), rd_nat, rd_nat, ei, w64 (x := a.getD i 0 - c) (by omega) (by omega)]
    by_cases h2 : i < b.length
    · rw [if_pos (by omega), w64 (x := a.getD i 0 - c - b.getD i 0) (by omega) (by omega)]
      by_cases h3 : a.getD i 0 - c - b.getD i 0 < 0
      · rw [if_pos h3, if_pos (by omega), w64 (by omega) (by omega)]
        exact step _ _ (by omega) (by omega) (by omega) (by omega) (by omega)
      · rw [if_neg h3, if_pos (by omega)]
        exact step _ _ (by omega) (by omega) (by omega) (by omega) (by omega)
    · have z : b.getD i 0 = 0 := by rw [List.getD_eq_getElem?_getD, List.getElem?_eq_none (by omega)]; rfl
      rw [if_neg (by omega)]
      by_cases h3 : a.getD i 0 - c < 0
      · rw [if_pos h3, if_pos (by omega), w64 (by omega) (by omega)]
        exact step _ _ (by omega) (by omega) (by omega) (by omega) (by omega)
      · rw [if_neg h3, if_pos (by omega)]
        exact step _ _ (by omega) (by omega) (by omega) (by omega) (by omega)
/-- Sub: the difference's digits. -/
theorem sub_f (a b : Nat) (h : b ≤ a) (na : (dig a).length ≤ 10000) {k : Nat} (hk : 40000 < k) : zelligeref03_Sub.f k (dig a) (dig b) = some (dig (a - b)) := by
  obtain ⟨r, hr, h1, h2⟩ := sub_l0 (dig_Dg a) (dig_Dg b) na (dig_len_mono h) _ k 0 [] 0 _ rfl (by omega) (by omega) rfl Dg_nil (by omega) (by omega) rfl (by simp only [val, P, List.drop_zero, dig_val]; omega)
  unfold zelligeref03_Sub.f
  rw [show zelligeref03_Sub.l0 k (dig a) (dig b) [] 0 0 = some r from hr]
  congr 1
  refine eq_dig_of h1 ?_
  rw [h2]
  simp only [val, P, List.drop_zero, dig_val]
  omega

/-! ### Of -/
/-- Of two words of 32 bits. -/
theorem of_two (x y : Int) (x0 : 0 ≤ x) (x1 : x < 4294967296) (y0 : 0 ≤ y) (y1 : y < 4294967296) {k : Nat} (hk : 20 < k) : zelligeref03_Of.f k [x, y] = some (dig (x + 4294967296 * y).toNat) := by
  obtain ⟨k, rfl⟩ : ∃ m, k = m + 3 := ⟨k - 3, by omega⟩
  unfold zelligeref03_Of.f
  have t1 : ∀ z : Int, 0 ≤ z → z < 4294967296 → wrap64 (Int.tmod z 65536) = z % 65536 ∧ wrap64 (IntKind.u32.wrap (Int.tdiv z 65536)) = z / 65536 := by
    intro z z0 z1
    rw [Int.tmod_eq_emod_of_nonneg z0, Int.tdiv_eq_ediv_of_nonneg z0]
    refine ⟨w64 (by omega) (by omega), ?_⟩
    have : IntKind.u32.wrap (z / 65536) = z / 65536 := by simp [IntKind.wrap, IntKind.bits, IntKind.signed]; omega
    rw [this, w64 (by omega) (by omega)]
  have r0 : rd [x, y] 0 = x := rfl
  have r1 : rd [x, y] 1 = y := rfl
  have e0 : wrap64 ((0 : Int) + 1) = 1 := w64 (by omega) (by omega)
  have e1 : wrap64 ((1 : Int) + 1) = 2 := w64 (by omega) (by omega)
  rw [zelligeref03_Of.l0, if_pos (by simp), if_pos (by omega), r0, (t1 x x0 x1).1, (t1 x x0 x1).2, e0]
  simp only [Option.bind_some]
  rw [if_pos (by simp), zelligeref03_Of.l0, if_pos (by simp), if_pos (by omega), r1, (t1 y y0 y1).1, (t1 y y0 y1).2, e1]
  simp only [Option.bind_some]
  rw [if_pos (by simp), zelligeref03_Of.l0, if_neg (by simp)]
  obtain ⟨r, hr, h1, h2⟩ := trim_f (l := ([] ++ [x % 65536, x / 65536]) ++ [y % 65536, y / 65536]) (by
    intro d hd
    simp at hd
    rcases hd with rfl | rfl | rfl | rfl <;> omega) (by simp) (k := k) (by simp; omega)
  rw [hr]
  simp only [Option.bind_some]
  congr 1
  refine eq_dig_of h1 ?_
  rw [h2]
  simp only [List.nil_append, List.cons_append, val]
  omega
end Go.Proofs.Ytgjpemfjccajkaa.Dig
