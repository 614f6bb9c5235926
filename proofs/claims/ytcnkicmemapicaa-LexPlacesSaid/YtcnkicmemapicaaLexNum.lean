/- What Number of lex, and of its reference, come to: the same number, place and truth. Plain bytes and numbers. -/
import Derived.Test.YtcnkicmemapicaaFlexNumber
import Derived.Test.YtcnkicmemapicaaFzelligeref22Number
namespace Go.Proofs.Ytcnkicmemapicaa.Lex
open Go Go.RowKit Go.Proofs.YtcnkicmemapicaaW.PrintWords Go.Proofs.Ytcnkicmemapicaa.F

theorem w64 {x : Int} (h : -9223372036854775808 ≤ x) (h' : x ≤ 9223372036854775807) : wrap64 x = x := by unfold wrap64; omega
theorem mod_digit {c : Int} (h : 48 ≤ c) (h' : c ≤ 57) : (c - 48) % 256 = c - 48 := by omega

/-- One digit more. -/
def more (n d : Int) : Int := if n > 461168601842738790 ∨ n = 461168601842738790 ∧ d > 4 then 4611686018427387904 else 10 * n + d
theorem more_le {n d : Int} (n0 : 0 ≤ n) (n1 : n ≤ 4611686018427387904) (d0 : 0 ≤ d) (d1 : d ≤ 9) : 0 ≤ more n d ∧ more n d ≤ 4611686018427387904 := by
  unfold more; split <;> omega
/-- The digits from a place on: where they end, and the number. -/
def go (s : ByteArray) : Nat → Int → Int → Int × Int
  | 0, i, n => (i, n)
  | d + 1, i, n => if 48 ≤ bt s i ∧ bt s i ≤ 57 then go s d (i + 1) (more n (bt s i - 48)) else (i, n)
theorem go_le (s : ByteArray) : ∀ (d : Nat) (i n : Int), 0 ≤ n → n ≤ 4611686018427387904 → i ≤ (go s d i n).1 ∧ (go s d i n).1 ≤ i + d ∧ 0 ≤ (go s d i n).2 ∧ (go s d i n).2 ≤ 4611686018427387904 := by
  intro d
  induction d with
  | zero => intro i n h0 h1; simp only [go]; omega
  | succ d ih =>
    intro i n h0 h1
    simp only [go]
    split
    · rename_i h
      have hm := more_le (n := n) (d := bt s i - 48) h0 h1 (by omega) (by omega)
      have := ih (i + 1) (more n (bt s i - 48)) hm.1 hm.2
      omega
    · simp only; omega

theorem digit_f (c : Int) : lex_digit.f c = some (decide (48 ≤ c ∧ c ≤ 57)) := by
  unfold lex_digit.f
  by_cases h : c ≥ 48
  · rw [if_pos h]
    congr 1
    rw [decide_eq_decide]
    omega
  · rw [if_neg h]
    congr 1
    exact (decide_eq_false (by omega)).symm

theorem lex_l0 (s : ByteArray) (hs : s.size ≤ 1000) (less : Bool) : ∀ (d k : Nat) (i n : Int), 0 ≤ i → (s.size : Int) - i = d → 0 ≤ n → n ≤ 4611686018427387904 → 2 * d + 2 < k →
    lex_Number.l0 k s i less n = some (if less = true then -(go s d i n).2 else (go s d i n).2, (go s d i n).1, true) := by
  intro d
  induction d with
  | zero =>
    intro k i n i0 hd n0 n1 hk
    obtain ⟨k, rfl⟩ : ∃ m, k = m + 2 := ⟨k - 2, by omega⟩
    rw [lex_Number.l0, if_neg (by omega), lex_Number.j4, if_neg (by decide)]
    simp only [go]
    by_cases hl : less = true
    · rw [if_pos hl, if_pos hl, w64 (by omega) (by omega)]
    · rw [if_neg hl, if_neg hl]
  | succ d ih =>
    intro k i n i0 hd n0 n1 hk
    obtain ⟨k, rfl⟩ : ∃ m, k = m + 2 := ⟨k - 2, by omega⟩
    rw [lex_Number.l0, if_pos (by omega), if_pos i0, digit_f, Option.bind_some, lex_Number.j4]
    by_cases h : 48 ≤ bt s i ∧ bt s i ≤ 57
    · rw [if_pos (decide_eq_true h), if_pos i0, if_pos (by omega), mod_digit h.1 h.2, w64 (x := i + 1) (by omega) (by omega)]
      have hm := more_le (n := n) (d := bt s i - 48) n0 n1 (by omega) (by omega)
      simp only [go]
      rw [if_pos h]
      have := ih k (i + 1) (more n (bt s i - 48)) (by omega) (by omega) hm.1 hm.2 (by omega)
      by_cases hg : n > (4611686018427387904 - (bt s i - 48)) / 10
      · have e : more n (bt s i - 48) = 4611686018427387904 := by unfold more; rw [if_pos (by omega)]
        rw [if_pos hg]
        rw [e] at this ⊢
        exact this
      · have e : more n (bt s i - 48) = 10 * n + (bt s i - 48) := by unfold more; rw [if_neg (by omega)]
        rw [if_neg hg, w64 (x := 10 * n) (by omega) (by omega), w64 (by omega) (by omega)]
        rw [e] at this ⊢
        exact this
    · rw [if_neg (by rw [decide_eq_true_eq]; exact h)]
      simp only [go]
      rw [if_neg h]
      by_cases hl : less = true
      · rw [if_pos hl, if_pos hl, w64 (by omega) (by omega)]
      · rw [if_neg hl, if_neg hl]
/-- The reference's loop, behind its first digit. -/
theorem ref_l0 (s : ByteArray) (hs : s.size ≤ 1000) (neg : Bool) (fr : Int) : ∀ (d k : Nat) (i n : Int), 0 ≤ i → fr < i → (s.size : Int) - i = d → 0 ≤ n → n ≤ 4611686018427387904 → 2 * d + 2 < k →
    zelligeref22_Number.l0 k s i neg n fr = some (if neg = true then -(go s d i n).2 else (go s d i n).2, (go s d i n).1, true) := by
  intro d
  induction d with
  | zero =>
    intro k i n i0 hf hd n0 n1 hk
    obtain ⟨k, rfl⟩ : ∃ m, k = m + 2 := ⟨k - 2, by omega⟩
    rw [zelligeref22_Number.l0, if_neg (by omega), zelligeref22_Number.j4, if_neg (by decide), if_neg (by omega)]
    simp only [go]
    by_cases hl : neg = true
    · rw [if_pos hl, if_pos hl, w64 (by omega) (by omega)]
    · rw [if_neg hl, if_neg hl]
  | succ d ih =>
    intro k i n i0 hf hd n0 n1 hk
    obtain ⟨k, rfl⟩ : ∃ m, k = m + 2 := ⟨k - 2, by omega⟩
    have stop : ¬ (48 ≤ bt s i ∧ bt s i ≤ 57) → zelligeref22_Number.j4 (k + 1) s i neg n fr false = some (if neg = true then -(go s (d + 1) i n).2 else (go s (d + 1) i n).2, (go s (d + 1) i n).1, true) := by
      intro h
      rw [zelligeref22_Number.j4, if_neg (by decide), if_neg (by omega)]
      simp only [go]
      rw [if_neg h]
      by_cases hl : neg = true
      · rw [if_pos hl, if_pos hl, w64 (by omega) (by omega)]
      · rw [if_neg hl, if_neg hl]
    rw [zelligeref22_Number.l0, if_pos (by omega), if_pos i0]
    by_cases h1 : bt s i ≥ 48
    · rw [if_pos h1]
      by_cases h2 : bt s i ≤ 57
      · have h : 48 ≤ bt s i ∧ bt s i ≤ 57 := ⟨h1, h2⟩
        rw [if_pos h2, if_pos (show i > fr from hf), zelligeref22_Number.j4, if_pos rfl, if_pos i0, if_pos (by omega), mod_digit h.1 h.2, w64 (x := i + 1) (by omega) (by omega)]
        have hm := more_le (n := n) (d := bt s i - 48) n0 n1 (by omega) (by omega)
        simp only [go]
        rw [if_pos h]
        have := ih k (i + 1) (more n (bt s i - 48)) (by omega) (by omega) (by omega) hm.1 hm.2 (by omega)
        have big : n > 461168601842738790 ∨ n = 461168601842738790 ∧ bt s i - 48 > 4 → more n (bt s i - 48) = 4611686018427387904 := by intro hg; unfold more; rw [if_pos hg]
        have small : ¬ (n > 461168601842738790 ∨ n = 461168601842738790 ∧ bt s i - 48 > 4) → more n (bt s i - 48) = 10 * n + (bt s i - 48) ∧ wrap64 (wrap64 (10 * n) + (bt s i - 48)) = 10 * n + (bt s i - 48) := by
          intro hg
          refine ⟨by unfold more; rw [if_neg hg], ?_⟩
          rw [w64 (x := 10 * n) (by omega) (by omega), w64 (by omega) (by omega)]
        by_cases g1 : n > 461168601842738790
        · rw [if_pos g1]
          rw [big (.inl g1)] at this ⊢
          exact this
        · rw [if_neg g1]
          by_cases g2 : n = 461168601842738790
          · rw [if_pos g2]
            by_cases g3 : bt s i - 48 > 4
            · rw [if_pos g3]
              rw [big (.inr ⟨g2, g3⟩)] at this ⊢
              exact this
            · have hs' := small (by omega)
              rw [if_neg g3, hs'.2]
              rw [hs'.1] at this ⊢
              exact this
          · have hs' := small (by omega)
            rw [if_neg g2, hs'.2]
            rw [hs'.1] at this ⊢
            exact this
      · rw [if_neg h2]
        exact stop (by omega)
    · rw [if_neg h1]
      exact stop (by omega)

/-- A place of a text. -/
def at_ (s : ByteArray) (a : Int) : Int := if a < 0 then 0 else if a > (s.size : Int) then (s.size : Int) else a
theorem at_le (s : ByteArray) (a : Int) : 0 ≤ at_ s a ∧ at_ s a ≤ s.size := by unfold at_; split <;> (try split) <;> omega
theorem within_f (s : ByteArray) (a : Int) : lex_within.f s a = some (at_ s a) := by
  unfold lex_within.f at_ mx mn
  congr 1
  split <;> split <;> (try split) <;> omega
theorem at_f (s : ByteArray) (a : Int) : zelligeref22_At.f s a = some (at_ s a) := by
  unfold zelligeref22_At.f at_
  split
  · rfl
  · split <;> rfl
/-- The number behind the sign. -/
def tail (s : ByteArray) (i : Int) (neg : Bool) : Int × Int × Bool :=
  if i = s.size then (0, i, false)
  else if ¬ (48 ≤ bt s i ∧ bt s i ≤ 57) then (0, i, false)
  else if bt s i = 48 then (if neg = true then (0, i, false) else (0, i + 1, true))
  else (if neg = true then -(go s ((s.size : Int) - i).toNat i 0).2 else (go s ((s.size : Int) - i).toNat i 0).2, (go s ((s.size : Int) - i).toNat i 0).1, true)
/-- The number that begins at a place. -/
def num (s : ByteArray) (a : Int) (m : Bool) : Int × Int × Bool :=
  if m = true ∧ at_ s a < s.size ∧ bt s (at_ s a) = 45 then tail s (at_ s a + 1) true else tail s (at_ s a) false

theorem lex_j1 (s : ByteArray) (hs : s.size ≤ 1000) (i : Int) (i0 : 0 ≤ i) (i1 : i ≤ s.size) (neg : Bool) (k : Nat) (hk : 3000 < k) : lex_Number.j1 k s i neg = some (tail s i neg) := by
  obtain ⟨k, rfl⟩ : ∃ m, k = m + 2 := ⟨k - 2, by omega⟩
  unfold tail
  rw [lex_Number.j1]
  by_cases h0 : i = s.size
  · rw [if_pos h0, if_pos h0, lex_Number.j2, if_pos rfl]
  · rw [if_neg h0, if_neg h0, if_pos i0, if_pos (by omega), digit_f, Option.bind_some]
    by_cases h1 : 48 ≤ bt s i ∧ bt s i ≤ 57
    · rw [if_pos (decide_eq_true h1), if_neg (show ¬ ¬ (48 ≤ bt s i ∧ bt s i ≤ 57) from fun h => h h1)]
      by_cases hn : neg = true
      · subst hn
        rw [if_pos rfl]
        by_cases h2 : bt s i = 48
        · rw [if_pos h2, if_pos rfl, show (bt s i == 48) = true from beq_iff_eq.2 h2, lex_Number.j2, if_pos rfl]
        · rw [if_neg h2, show (bt s i == 48) = false from beq_eq_false_iff_ne.2 h2, lex_Number.j2, if_neg (by decide), if_pos i0, if_pos (by omega), if_neg h2]
          exact lex_l0 s hs true _ k i 0 i0 (by omega) (by omega) (by omega) (by omega)
      · rw [if_neg hn]
        have hn' : neg = false := by simpa using hn
        subst hn'
        rw [lex_Number.j2, if_neg (by decide), if_pos i0, if_pos (by omega)]
        by_cases h2 : bt s i = 48
        · rw [if_pos h2, if_pos h2, if_neg (by decide), w64 (by omega) (by omega)]
        · rw [if_neg h2, if_neg h2]
          exact lex_l0 s hs false _ k i 0 i0 (by omega) (by omega) (by omega) (by omega)
    · rw [if_neg (by rw [decide_eq_true_eq]; exact h1), if_pos h1, lex_Number.j2, if_pos rfl]
/-- Number of lex. -/
theorem lex_f (s : ByteArray) (hs : s.size ≤ 1000) (a : Int) (m : Bool) {k : Nat} (hk : 4000 < k) : lex_Number.f k s a m = some (num s a m) := by
  obtain ⟨k, rfl⟩ : ∃ m, k = m + 1 := ⟨k - 1, by omega⟩
  have hb := at_le s a
  unfold lex_Number.f num
  rw [within_f, Option.bind_some]
  have no : lex_Number.j0 (k + 1) s (at_ s a) false = some (tail s (at_ s a) false) := by
    rw [lex_Number.j0, if_neg (by decide)]
    exact lex_j1 s hs _ hb.1 hb.2 false k (by omega)
  by_cases hm : m = true
  · rw [if_pos hm]
    by_cases h1 : at_ s a < (s.size : Int)
    · rw [if_pos h1, if_pos hb.1]
      by_cases h2 : bt s (at_ s a) = 45
      · rw [if_pos ⟨hm, h1, h2⟩, show (bt s (at_ s a) == 45) = true from beq_iff_eq.2 h2, lex_Number.j0, if_pos rfl, w64 (by omega) (by omega)]
        exact lex_j1 s hs _ (by omega) (by omega) true k (by omega)
      · rw [if_neg (fun h => h2 h.2.2), show (bt s (at_ s a) == 45) = false from beq_eq_false_iff_ne.2 h2]
        exact no
    · rw [if_neg h1, if_neg (fun h => h1 h.2.1)]
      exact no
  · rw [if_neg hm, if_neg (fun h => hm h.1)]
    exact no

theorem ref_loop (s : ByteArray) (hs : s.size ≤ 1000) (i : Int) (i0 : 0 ≤ i) (i1 : i ≤ s.size) (neg : Bool) (hz : neg = true ∨ ¬ (i < s.size ∧ bt s i = 48)) (k : Nat) (hk : 3000 < k) : zelligeref22_Number.l0 k s i neg 0 i = some (tail s i neg) := by
  obtain ⟨k, rfl⟩ : ∃ m, k = m + 2 := ⟨k - 2, by omega⟩
  have stop : zelligeref22_Number.j4 (k + 1) s i neg 0 i false = some (0, i, false) := by
    rw [zelligeref22_Number.j4, if_neg (by decide), if_pos rfl]
  unfold tail
  rw [zelligeref22_Number.l0]
  by_cases h0 : i = s.size
  · rw [if_neg (by omega), if_pos h0]; exact stop
  · rw [if_pos (by omega), if_neg h0, if_pos i0]
    by_cases h1 : bt s i ≥ 48
    · rw [if_pos h1]
      by_cases h2 : bt s i ≤ 57
      · have h : 48 ≤ bt s i ∧ bt s i ≤ 57 := ⟨h1, h2⟩
        rw [if_pos h2, if_neg (show ¬ i > i by omega), if_neg (show ¬ ¬ (48 ≤ bt s i ∧ bt s i ≤ 57) from fun h' => h' h)]
        by_cases h3 : bt s i = 48
        · have hn : neg = true := by
            rcases hz with hz | hz
            · exact hz
            · exact absurd ⟨by omega, h3⟩ hz
          rw [show (bt s i != 48) = false from by rw [h3]; rfl, if_pos h3, if_pos hn]
          exact stop
        · rw [show (bt s i != 48) = true from bne_iff_ne.2 h3, if_neg h3, zelligeref22_Number.j4, if_pos rfl, if_pos i0, if_pos (by omega), if_neg (by omega), if_neg (by omega), mod_digit h.1 h.2, w64 (x := i + 1) (by omega) (by omega), w64 (x := 10 * 0) (by omega) (by omega), w64 (by omega) (by omega)]
          have e : more 0 (bt s i - 48) = 10 * 0 + (bt s i - 48) := by unfold more; rw [if_neg (by omega)]
          have hl : ((s.size : Int) - i).toNat = ((s.size : Int) - (i + 1)).toNat + 1 := by omega
          have := ref_l0 s hs neg i ((s.size : Int) - (i + 1)).toNat k (i + 1) (10 * 0 + (bt s i - 48)) (by omega) (by omega) (by omega) (by omega) (by omega) (by omega)
          rw [this, hl]
          simp only [go]
          rw [if_pos h, e]
      · rw [if_neg h2, if_pos (by omega)]; exact stop
    · rw [if_neg h1, if_pos (by omega)]; exact stop
theorem ref_j1 (s : ByteArray) (hs : s.size ≤ 1000) (i : Int) (i0 : 0 ≤ i) (i1 : i ≤ s.size) (neg : Bool) (k : Nat) (hk : 3010 < k) : zelligeref22_Number.j1 k s i neg = some (tail s i neg) := by
  obtain ⟨k, rfl⟩ : ∃ m, k = m + 2 := ⟨k - 2, by omega⟩
  have loop : neg = true ∨ ¬ (i < s.size ∧ bt s i = 48) → zelligeref22_Number.j2 (k + 1) s i neg false = some (tail s i neg) := by
    intro hz
    rw [zelligeref22_Number.j2, if_neg (by decide)]
    exact ref_loop s hs i i0 i1 neg hz k (by omega)
  rw [zelligeref22_Number.j1]
  by_cases h0 : i < (s.size : Int)
  · rw [if_pos h0, if_pos i0]
    by_cases h1 : bt s i = 48
    · rw [if_pos h1]
      cases neg with
      | true => exact loop (.inl rfl)
      | false =>
        rw [show (!false) = true from rfl, zelligeref22_Number.j2, if_pos rfl, w64 (by omega) (by omega)]
        unfold tail
        rw [if_neg (by omega), if_neg (by omega), if_pos h1, if_neg (by decide)]
    · rw [if_neg h1]
      exact loop (.inr (fun h => h1 h.2))
  · rw [if_neg h0]
    exact loop (.inr (fun h => h0 h.1))
/-- Number of the reference. -/
theorem ref_f (s : ByteArray) (hs : s.size ≤ 1000) (a : Int) (m : Bool) {k : Nat} (hk : 4000 < k) : zelligeref22_Number.f k s a m = some (num s a m) := by
  obtain ⟨k, rfl⟩ : ∃ m, k = m + 1 := ⟨k - 1, by omega⟩
  have hb := at_le s a
  unfold zelligeref22_Number.f num
  rw [at_f, Option.bind_some]
  have no : zelligeref22_Number.j0 (k + 1) s (at_ s a) false false = some (tail s (at_ s a) false) := by
    rw [zelligeref22_Number.j0, if_neg (by decide)]
    exact ref_j1 s hs _ hb.1 hb.2 false k (by omega)
  by_cases hm : m = true
  · rw [if_pos hm]
    by_cases h1 : at_ s a < (s.size : Int)
    · rw [if_pos h1, if_pos hb.1]
      by_cases h2 : bt s (at_ s a) = 45
      · rw [if_pos ⟨hm, h1, h2⟩, show (bt s (at_ s a) == 45) = true from beq_iff_eq.2 h2, zelligeref22_Number.j0, if_pos rfl, w64 (by omega) (by omega)]
        exact ref_j1 s hs _ (by omega) (by omega) true k (by omega)
      · rw [if_neg (fun h => h2 h.2.2), show (bt s (at_ s a) == 45) = false from beq_eq_false_iff_ne.2 h2]
        exact no
    · rw [if_neg h1, if_neg (fun h => h1 h.2.1)]
      exact no
  · rw [if_neg hm, if_neg (fun h => hm h.1)]
    exact no
end Go.Proofs.Ytcnkicmemapicaa.Lex
