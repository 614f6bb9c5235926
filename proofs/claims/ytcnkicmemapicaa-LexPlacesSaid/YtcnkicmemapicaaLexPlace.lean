/- LexPlaces: the law answers true for all texts and places. -/
import Derived.Test.YtcnkicmemapicaaLexLaws
import Derived.Test.YtcnkicmemapicaaFzelligelaw22LexPlaces
namespace Go.Proofs.Ytcnkicmemapicaa.Lex
open Go Go.RowKit Go.Proofs.YtcnkicmemapicaaW.PrintWords Go.Proofs.Ytcnkicmemapicaa.F
set_option linter.unusedVariables false

theorem pw64 {x : Int} (h : -9223372036854775808 ≤ x) (h' : x ≤ 9223372036854775807) : wrap64 x = x := by unfold wrap64; omega
theorem bt_get (s : ByteArray) (n : Nat) : bt s (n : Int) = ((s.get! n).toNat : Int) := by
  unfold bt
  rw [Int.toNat_natCast]
  by_cases h : n < s.size
  · rw [dif_pos h]
    congr 2
    simp [ByteArray.get!, getElem!_pos, h]
    rfl
  · rw [dif_neg h]
    have h' : ¬ n < s.data.size := h
    have e : s.data[n]! = (default : UInt8) := getElem!_neg s.data n h'
    have : s.get! n = 0 := e
    rw [this]
    rfl
/-- The letter at a place, by its bytes. -/
def dec (n i b0 b1 b2 b3 : Nat) : Nat × Nat :=
  if b0 < 0x80 then (b0, 1)
  else if b0 / 32 == 6 && (decide (i + 1 < n) && b1 / 64 == 2) then
    if (b0 % 32) * 64 + b1 % 64 ≥ 0x80 then ((b0 % 32) * 64 + b1 % 64, 2) else (Utf8.runeError, 1)
  else if b0 / 16 == 14 && (decide (i + 1 < n) && b1 / 64 == 2) && (decide (i + 2 < n) && b2 / 64 == 2) then
    if (b0 % 16) * 4096 + (b1 % 64) * 64 + b2 % 64 ≥ 0x800 && Utf8.valid (((b0 % 16) * 4096 + (b1 % 64) * 64 + b2 % 64 : Nat)) then ((b0 % 16) * 4096 + (b1 % 64) * 64 + b2 % 64, 3) else (Utf8.runeError, 1)
  else if b0 / 8 == 30 && (decide (i + 1 < n) && b1 / 64 == 2) && (decide (i + 2 < n) && b2 / 64 == 2) && (decide (i + 3 < n) && b3 / 64 == 2) then
    if (b0 % 8) * 262144 + (b1 % 64) * 4096 + (b2 % 64) * 64 + b3 % 64 ≥ 0x10000 && Utf8.valid (((b0 % 8) * 262144 + (b1 % 64) * 4096 + (b2 % 64) * 64 + b3 % 64 : Nat)) then ((b0 % 8) * 262144 + (b1 % 64) * 4096 + (b2 % 64) * 64 + b3 % 64, 4) else (Utf8.runeError, 1)
  else (Utf8.runeError, 1)
theorem dec_eq (s : ByteArray) (i : Nat) : Utf8.decode s i = dec s.size i (s.get! (i + 0)).toNat (s.get! (i + 1)).toNat (s.get! (i + 2)).toNat (s.get! (i + 3)).toNat := rfl

/-- How many bytes a letter that begins so may have, and the least number that so many are for. -/
def many (c : Nat) : Int := if c < 194 then 1 else if c ≤ 223 then 2 else if c ≤ 239 then 3 else if c ≤ 244 then 4 else 1
def least (c : Nat) : Int := if c < 194 then 0 else if c ≤ 223 then 128 else if c ≤ 239 then 2048 else if c ≤ 244 then 65536 else 0
theorem many_eq (c : Nat) : (if 240 ≤ c ∧ c ≤ 244 then 4 else if 224 ≤ c ∧ c ≤ 239 then 3 else if decide (194 ≤ c ∧ c ≤ 223) = true then 2 else 1 : Int) = many c := by
  unfold many
  simp only [decide_eq_true_eq]
  by_cases h1 : c < 194
  · rw [if_neg (by omega), if_neg (by omega), if_neg (by omega), if_pos h1]
  · by_cases h2 : c ≤ 223
    · rw [if_neg (by omega), if_neg (by omega), if_pos (by omega), if_neg h1, if_pos h2]
    · by_cases h3 : c ≤ 239
      · rw [if_neg (by omega), if_pos (by omega), if_neg h1, if_neg h2, if_pos h3]
      · by_cases h4 : c ≤ 244
        · rw [if_pos (by omega), if_neg h1, if_neg h2, if_neg h3, if_pos h4]
        · rw [if_neg (by omega), if_neg (by omega), if_neg (by omega), if_neg h1, if_neg h2, if_neg h3, if_neg h4]
theorem least_eq (c : Nat) : (if 240 ≤ c ∧ c ≤ 244 then 65536 else if 224 ≤ c ∧ c ≤ 239 then 2048 else if decide (194 ≤ c ∧ c ≤ 223) = true then 128 else 0 : Int) = least c := by
  unfold least
  simp only [decide_eq_true_eq]
  by_cases h1 : c < 194
  · rw [if_neg (by omega), if_neg (by omega), if_neg (by omega), if_pos h1]
  · by_cases h2 : c ≤ 223
    · rw [if_neg (by omega), if_neg (by omega), if_pos (by omega), if_neg h1, if_pos h2]
    · by_cases h3 : c ≤ 239
      · rw [if_neg (by omega), if_pos (by omega), if_neg h1, if_neg h2, if_pos h3]
      · by_cases h4 : c ≤ 244
        · rw [if_pos (by omega), if_neg h1, if_neg h2, if_neg h3, if_pos h4]
        · rw [if_neg (by omega), if_neg (by omega), if_neg (by omega), if_neg h1, if_neg h2, if_neg h3, if_neg h4]
theorem long_head {s : ByteArray} {i : Nat} (hi : i < s.size) (k c : Nat) (hc : bt s (i : Int) = (c : Int)) (h8 : c < 256) : zelligeref22_long.f (k + 6) s (i : Int) = zelligeref22_long.j5 (k + 1) s (i : Int) (c : Int) (many c) (least c) := by
  rw [zelligeref22_long.f, if_pos (by omega), if_pos (by omega), hc, pw64 (x := (c : Int)) (by omega) (by omega)]
  have step : ∀ (b : Bool) (n l : Int), zelligeref22_long.j0 (k + 6) s (i : Int) (c : Int) n l b = zelligeref22_long.j1 (k + 5) s (i : Int) (c : Int) (if b = true then 2 else n) (if b = true then 128 else l) := by
    intro b n l
    rw [zelligeref22_long.j0]
    cases b
    · rw [if_neg (by decide), if_neg (by decide), if_neg (by decide)]
    · rw [if_pos rfl, if_pos rfl, if_pos rfl]
  have step1 : ∀ (n l : Int), zelligeref22_long.j1 (k + 5) s (i : Int) (c : Int) n l = zelligeref22_long.j3 (k + 3) s (i : Int) (c : Int) (if 224 ≤ c ∧ c ≤ 239 then 3 else n) (if 224 ≤ c ∧ c ≤ 239 then 2048 else l) := by
    intro n l
    rw [zelligeref22_long.j1]
    by_cases h1 : (c : Int) ≥ 224
    · rw [if_pos h1, zelligeref22_long.j2]
      by_cases h2 : (c : Int) ≤ 239
      · rw [if_pos (decide_eq_true h2), if_pos (by omega), if_pos (by omega)]
      · rw [if_neg (by rw [decide_eq_true_eq]; exact h2), if_neg (by omega), if_neg (by omega)]
    · rw [if_neg h1, zelligeref22_long.j2, if_neg (by decide), if_neg (by omega), if_neg (by omega)]
  have step3 : ∀ (n l : Int), zelligeref22_long.j3 (k + 3) s (i : Int) (c : Int) n l = zelligeref22_long.j5 (k + 1) s (i : Int) (c : Int) (if 240 ≤ c ∧ c ≤ 244 then 4 else n) (if 240 ≤ c ∧ c ≤ 244 then 65536 else l) := by
    intro n l
    rw [zelligeref22_long.j3]
    by_cases h1 : (c : Int) ≥ 240
    · rw [if_pos h1, zelligeref22_long.j4]
      by_cases h2 : (c : Int) ≤ 244
      · rw [if_pos (decide_eq_true h2), if_pos (by omega), if_pos (by omega)]
      · rw [if_neg (by rw [decide_eq_true_eq]; exact h2), if_neg (by omega), if_neg (by omega)]
    · rw [if_neg h1, zelligeref22_long.j4, if_neg (by decide), if_neg (by omega), if_neg (by omega)]
  have fin : ∀ b : Bool, b = decide (194 ≤ c ∧ c ≤ 223) → zelligeref22_long.j0 (k + 6) s (i : Int) (c : Int) 1 0 b = zelligeref22_long.j5 (k + 1) s (i : Int) (c : Int) (many c) (least c) := by
    intro b hb
    rw [step, step1, step3, hb]
    congr 1
    · exact many_eq c
    · exact least_eq c
  by_cases h1 : (c : Int) ≥ 194
  · rw [if_pos h1]
    exact fin _ (by rw [decide_eq_decide]; omega)
  · rw [if_neg h1]
    exact fin _ (decide_eq_false (by omega)).symm
theorem valid_iff (v : Nat) : Utf8.valid (v : Int) = true ↔ v < 55296 ∨ 57344 ≤ v ∧ v ≤ 1114111 := by
  unfold Utf8.valid
  simp only [Bool.or_eq_true, Bool.and_eq_true, decide_eq_true_eq]
  omega
/-- The letter's width, by its bytes. -/
theorem dec_width (n i b0 b1 b2 b3 : Nat) : (dec n i b0 b1 b2 b3).2 =
    if b0 < 128 then 1
    else if b0 / 32 = 6 ∧ (i + 1 < n ∧ b1 / 64 = 2) then (if 128 ≤ (b0 % 32) * 64 + b1 % 64 then 2 else 1)
    else if (b0 / 16 = 14 ∧ (i + 1 < n ∧ b1 / 64 = 2)) ∧ (i + 2 < n ∧ b2 / 64 = 2) then
      (if 2048 ≤ (b0 % 16) * 4096 + (b1 % 64) * 64 + b2 % 64 ∧ ((b0 % 16) * 4096 + (b1 % 64) * 64 + b2 % 64 < 55296 ∨ 57344 ≤ (b0 % 16) * 4096 + (b1 % 64) * 64 + b2 % 64 ∧ (b0 % 16) * 4096 + (b1 % 64) * 64 + b2 % 64 ≤ 1114111) then 3 else 1)
    else if ((b0 / 8 = 30 ∧ (i + 1 < n ∧ b1 / 64 = 2)) ∧ (i + 2 < n ∧ b2 / 64 = 2)) ∧ (i + 3 < n ∧ b3 / 64 = 2) then
      (if 65536 ≤ (b0 % 8) * 262144 + (b1 % 64) * 4096 + (b2 % 64) * 64 + b3 % 64 ∧ ((b0 % 8) * 262144 + (b1 % 64) * 4096 + (b2 % 64) * 64 + b3 % 64 < 55296 ∨ 57344 ≤ (b0 % 8) * 262144 + (b1 % 64) * 4096 + (b2 % 64) * 64 + b3 % 64 ∧ (b0 % 8) * 262144 + (b1 % 64) * 4096 + (b2 % 64) * 64 + b3 % 64 ≤ 1114111) then 4 else 1)
    else 1 := by
  unfold dec
  simp only [Bool.and_eq_true, decide_eq_true_eq, beq_iff_eq, valid_iff, ge_iff_le]
  by_cases h0 : b0 < 128
  · rw [if_pos h0, if_pos h0]
  · rw [if_neg h0, if_neg h0]
    by_cases h1 : b0 / 32 = 6 ∧ (i + 1 < n ∧ b1 / 64 = 2)
    · rw [if_pos h1, if_pos h1]
      split <;> rfl
    · rw [if_neg h1, if_neg h1]
      by_cases h2 : (b0 / 16 = 14 ∧ (i + 1 < n ∧ b1 / 64 = 2)) ∧ (i + 2 < n ∧ b2 / 64 = 2)
      · rw [if_pos h2, if_pos h2]
        split <;> rfl
      · rw [if_neg h2, if_neg h2]
        by_cases h3 : ((b0 / 8 = 30 ∧ (i + 1 < n ∧ b1 / 64 = 2)) ∧ (i + 2 < n ∧ b2 / 64 = 2)) ∧ (i + 3 < n ∧ b3 / 64 = 2)
        · rw [if_pos h3, if_pos h3]
          split <;> rfl
        · rw [if_neg h3, if_neg h3]
section
variable {s : ByteArray} (hs : s.size ≤ 140737488351232) {i : Nat} (hi : i < s.size)
include hs hi
omit hs hi in
theorem tail_one (k c : Nat) (l : Int) : zelligeref22_long.j5 (k + 2) s (i : Int) (c : Int) 1 l = some 1 := by
  rw [zelligeref22_long.j5, beq_self_eq_true]
  split
  · rw [zelligeref22_long.j6, if_pos rfl]
  · rw [zelligeref22_long.j6, if_pos rfl]
theorem tail_short (k c : Nat) (n l : Int) (hn : n ≤ 4) (h : (s.size : Int) < i + n) : zelligeref22_long.j5 (k + 2) s (i : Int) (c : Int) n l = some 1 := by
  rw [zelligeref22_long.j5, pw64 (by omega) (by omega), if_pos (by omega), zelligeref22_long.j6, if_pos rfl]
omit hi in
theorem tail_two (k c : Nat) (l : Int) (hc : c < 256) (h : i + 2 ≤ s.size) : zelligeref22_long.j5 (k + 6) s (i : Int) (c : Int) 2 l = zelligeref22_long.l0 (k + 1) s (i : Int) 2 l ((c : Int) - 192) ((1 : Nat) : Int) := by
  rw [zelligeref22_long.j5, pw64 (by omega) (by omega), if_neg (by omega), zelligeref22_long.j6, if_neg (by decide), if_pos rfl, zelligeref22_long.j7, if_neg (by decide), zelligeref22_long.j8, if_neg (by decide), zelligeref22_long.j9, pw64 (by omega) (by omega)]
  rfl
omit hi in
theorem tail_three (k c : Nat) (l : Int) (hc : c < 256) (h : i + 3 ≤ s.size) : zelligeref22_long.j5 (k + 6) s (i : Int) (c : Int) 3 l = zelligeref22_long.l0 (k + 1) s (i : Int) 3 l ((c : Int) - 224) ((1 : Nat) : Int) := by
  rw [zelligeref22_long.j5, pw64 (by omega) (by omega), if_neg (by omega), zelligeref22_long.j6, if_neg (by decide), if_neg (by decide), zelligeref22_long.j7, if_pos rfl, zelligeref22_long.j8, if_neg (by decide), zelligeref22_long.j9, pw64 (by omega) (by omega)]
  rfl
omit hi in
theorem tail_four (k c : Nat) (l : Int) (hc : c < 256) (h : i + 4 ≤ s.size) : zelligeref22_long.j5 (k + 6) s (i : Int) (c : Int) 4 l = zelligeref22_long.l0 (k + 1) s (i : Int) 4 l ((c : Int) - 240) ((1 : Nat) : Int) := by
  rw [zelligeref22_long.j5, pw64 (by omega) (by omega), if_neg (by omega), zelligeref22_long.j6, if_neg (by decide), if_neg (by decide), zelligeref22_long.j7, if_neg (by decide), zelligeref22_long.j8, if_pos rfl, zelligeref22_long.j9, pw64 (by omega) (by omega)]
  rfl
theorem l0_bad (k j b : Nat) (n l v : Int) (hj : (j : Int) < n) (h : i + j < s.size) (hb : bt s ((i + j : Nat) : Int) = (b : Int)) (hbb : b < 256) (hq : ¬ b / 64 = 2) : zelligeref22_long.l0 (k + 1) s (i : Int) n l v (j : Int) = some 1 := by
  have e : wrap64 ((i : Int) + (j : Int)) = ((i + j : Nat) : Int) := by rw [pw64 (by omega) (by omega)]; omega
  rw [zelligeref22_long.l0, if_pos hj, e, if_pos (by omega), if_pos (by omega), hb, pw64 (x := (b : Int)) (by omega) (by omega)]
  by_cases h1 : (b : Int) < 128
  · rw [if_pos h1]
  · rw [if_neg h1, if_pos (by omega)]
theorem l0_good (k j b : Nat) (n l v : Int) (hj : (j : Int) < n) (h : i + j < s.size) (hb : bt s ((i + j : Nat) : Int) = (b : Int)) (hbb : b < 256) (hq : b / 64 = 2) (hv : 0 ≤ v ∧ v ≤ 100000000) :
    zelligeref22_long.l0 (k + 1) s (i : Int) n l v (j : Int) = zelligeref22_long.l0 k s (i : Int) n l (v * 64 + b - 128) ((j + 1 : Nat) : Int) := by
  have e : wrap64 ((i : Int) + (j : Int)) = ((i + j : Nat) : Int) := by rw [pw64 (by omega) (by omega)]; omega
  rw [zelligeref22_long.l0, if_pos hj, e, if_pos (by omega), if_pos (by omega), hb, pw64 (x := (b : Int)) (by omega) (by omega), if_neg (by omega), if_neg (by omega), pw64 (x := v * 64) (by omega) (by omega), pw64 (x := v * 64 + (b : Int)) (by omega) (by omega),
    pw64 (x := v * 64 + (b : Int) - 128) (by omega) (by omega), pw64 (x := (j : Int) + 1) (by omega) (by omega)]
  rfl
omit hs hi in
theorem l0_end (k j : Nat) (n l v : Int) (hj : n = (j : Int)) : zelligeref22_long.l0 (k + 1) s (i : Int) n l v (j : Int) = some (if l ≤ v ∧ (v < 55296 ∨ 57344 ≤ v ∧ v ≤ 1114111) then n else 1) := by
  rw [zelligeref22_long.l0, if_neg (by omega)]
  by_cases h1 : v < l
  · rw [if_pos h1, if_neg (by omega)]
  · rw [if_neg h1]
    by_cases h2 : v ≥ 55296
    · rw [if_pos h2]
      by_cases h3 : v ≤ 57343
      · rw [if_pos h3, if_neg (by omega)]
      · rw [if_neg h3]
        by_cases h4 : v > 1114111
        · rw [if_pos h4, if_neg (by omega)]
        · rw [if_neg h4, if_pos (by omega)]
    · rw [if_neg h2, if_neg (by omega), if_pos (by omega)]
theorem long_w (k c b1 b2 b3 : Nat) (h0 : bt s ((i : Nat) : Int) = (c : Int)) (h1 : bt s ((i + 1 : Nat) : Int) = (b1 : Int)) (h2 : bt s ((i + 2 : Nat) : Int) = (b2 : Int)) (h3 : bt s ((i + 3 : Nat) : Int) = (b3 : Int))
    (c0 : c < 256) (c1 : b1 < 256) (c2 : b2 < 256) (c3 : b3 < 256) : zelligeref22_long.f (k + 20) s (i : Int) = some (((dec s.size i c b1 b2 b3).2 : Nat) : Int) := by
  rw [long_head hi (k + 14) c h0 c0, dec_width]
  by_cases r1 : c < 194
  · rw [show many c = 1 from by unfold many; rw [if_pos r1], tail_one]
    by_cases q : c < 128
    · rw [if_pos q]; rfl
    · rw [if_neg q, if_neg (c := (c / 16 = 14 ∧ _) ∧ _) (by omega), if_neg (c := ((c / 8 = 30 ∧ _) ∧ _) ∧ _) (by omega)]
      by_cases q1 : c / 32 = 6 ∧ (i + 1 < s.size ∧ b1 / 64 = 2)
      · rw [if_pos q1, if_neg (by omega)]; rfl
      · rw [if_neg q1]; rfl
  · rw [if_neg (c := c < 128) (by omega)]
    by_cases r2 : c ≤ 223
    · rw [show many c = 2 from by unfold many; rw [if_neg r1, if_pos r2]]
      by_cases q : i + 2 ≤ s.size
      · rw [show k + 14 + 1 = (k + 9) + 6 from rfl, tail_two hs _ _ _ c0 q]
        by_cases g1 : b1 / 64 = 2
        · rw [show k + 9 + 1 = (k + 8) + 1 + 1 from rfl, l0_good hs hi _ 1 b1 _ _ _ (by omega) (by omega) h1 c1 g1 (by omega), l0_end _ (1 + 1) 2 _ _ (by omega), if_pos (c := c / 32 = 6 ∧ _) ⟨by omega, by omega, g1⟩, if_pos (c := 128 ≤ _) (by omega),
            show least c = 128 from by unfold least; rw [if_neg r1, if_pos r2], if_pos (by omega)]
          rfl
        · rw [l0_bad hs hi _ 1 b1 _ _ _ (by omega) (by omega) h1 c1 g1, if_neg (by omega), if_neg (by omega), if_neg (by omega)]; rfl
      · rw [tail_short hs hi _ _ _ _ (by omega) (by omega), if_neg (by omega), if_neg (by omega), if_neg (by omega)]; rfl
    · by_cases r3 : c ≤ 239
      · rw [show many c = 3 from by unfold many; rw [if_neg r1, if_neg r2, if_pos r3], if_neg (c := c / 32 = 6 ∧ _) (by omega)]
        by_cases q : i + 3 ≤ s.size
        · rw [show k + 14 + 1 = (k + 9) + 6 from rfl, tail_three hs _ _ _ c0 q]
          by_cases g1 : b1 / 64 = 2
          · rw [l0_good hs hi _ 1 b1 _ _ _ (by omega) (by omega) h1 c1 g1 (by omega)]
            by_cases g2 : b2 / 64 = 2
            · rw [show k + 9 = (k + 7) + 1 + 1 from rfl, l0_good hs hi _ 2 b2 _ _ _ (by omega) (by omega) h2 c2 g2 (by omega), l0_end _ (2 + 1) 3 _ _ (by omega), if_pos (c := (c / 16 = 14 ∧ _) ∧ _) ⟨⟨by omega, by omega, g1⟩, by omega, g2⟩,
                show least c = 2048 from by unfold least; rw [if_neg r1, if_neg r2, if_pos r3]]
              by_cases z : 2048 ≤ (c % 16) * 4096 + (b1 % 64) * 64 + b2 % 64 ∧ ((c % 16) * 4096 + (b1 % 64) * 64 + b2 % 64 < 55296 ∨ 57344 ≤ (c % 16) * 4096 + (b1 % 64) * 64 + b2 % 64 ∧ (c % 16) * 4096 + (b1 % 64) * 64 + b2 % 64 ≤ 1114111)
              · rw [if_pos z, if_pos (by omega)]; rfl
              · rw [if_neg z, if_neg (by omega)]; rfl
            · rw [show k + 9 = (k + 8) + 1 from rfl, l0_bad hs hi _ 2 b2 _ _ _ (by omega) (by omega) h2 c2 g2, if_neg (by omega), if_neg (by omega)]; rfl
          · rw [l0_bad hs hi _ 1 b1 _ _ _ (by omega) (by omega) h1 c1 g1, if_neg (by omega), if_neg (by omega)]; rfl
        · rw [tail_short hs hi _ _ _ _ (by omega) (by omega), if_neg (by omega), if_neg (by omega)]; rfl
      · rw [if_neg (c := c / 32 = 6 ∧ _) (by omega), if_neg (c := (c / 16 = 14 ∧ _) ∧ _) (by omega)]
        by_cases r4 : c ≤ 244
        · rw [show many c = 4 from by unfold many; rw [if_neg r1, if_neg r2, if_neg r3, if_pos r4]]
          by_cases q : i + 4 ≤ s.size
          · rw [show k + 14 + 1 = (k + 9) + 6 from rfl, tail_four hs _ _ _ c0 q]
            by_cases g1 : b1 / 64 = 2
            · rw [l0_good hs hi _ 1 b1 _ _ _ (by omega) (by omega) h1 c1 g1 (by omega)]
              by_cases g2 : b2 / 64 = 2
              · rw [show k + 9 = (k + 8) + 1 from rfl, l0_good hs hi _ 2 b2 _ _ _ (by omega) (by omega) h2 c2 g2 (by omega)]
                by_cases g3 : b3 / 64 = 2
                · rw [show k + 8 = (k + 6) + 1 + 1 from rfl, l0_good hs hi _ 3 b3 _ _ _ (by omega) (by omega) h3 c3 g3 (by omega), l0_end _ (3 + 1) 4 _ _ (by omega), if_pos (c := ((c / 8 = 30 ∧ _) ∧ _) ∧ _) ⟨⟨⟨by omega, by omega, g1⟩, by omega, g2⟩, by omega, g3⟩,
                    show least c = 65536 from by unfold least; rw [if_neg r1, if_neg r2, if_neg r3, if_pos r4]]
                  by_cases z : 65536 ≤ (c % 8) * 262144 + (b1 % 64) * 4096 + (b2 % 64) * 64 + b3 % 64 ∧ ((c % 8) * 262144 + (b1 % 64) * 4096 + (b2 % 64) * 64 + b3 % 64 < 55296 ∨ 57344 ≤ (c % 8) * 262144 + (b1 % 64) * 4096 + (b2 % 64) * 64 + b3 % 64 ∧ (c % 8) * 262144 + (b1 % 64) * 4096 + (b2 % 64) * 64 + b3 % 64 ≤ 1114111)
                  · rw [if_pos z, if_pos (by omega)]; rfl
                  · rw [if_neg z, if_neg (by omega)]; rfl
                · rw [show k + 8 = (k + 7) + 1 from rfl, l0_bad hs hi _ 3 b3 _ _ _ (by omega) (by omega) h3 c3 g3, if_neg (by omega)]; rfl
              · rw [show k + 9 = (k + 8) + 1 from rfl, l0_bad hs hi _ 2 b2 _ _ _ (by omega) (by omega) h2 c2 g2, if_neg (by omega)]; rfl
            · rw [l0_bad hs hi _ 1 b1 _ _ _ (by omega) (by omega) h1 c1 g1, if_neg (by omega)]; rfl
          · rw [tail_short hs hi _ _ _ _ (by omega) (by omega), if_neg (by omega)]; rfl
        · rw [show many c = 1 from by unfold many; rw [if_neg r1, if_neg r2, if_neg r3, if_neg r4], tail_one]
          by_cases q : ((c / 8 = 30 ∧ (i + 1 < s.size ∧ b1 / 64 = 2)) ∧ (i + 2 < s.size ∧ b2 / 64 = 2)) ∧ (i + 3 < s.size ∧ b3 / 64 = 2)
          · rw [if_pos q, if_neg (by omega)]; rfl
          · rw [if_neg q]; rfl
theorem long_f {k : Nat} (hk : 20 ≤ k) : zelligeref22_long.f k s (i : Int) = some (((Utf8.decode s i).2 : Nat) : Int) := by
  obtain ⟨k, rfl⟩ : ∃ m, k = m + 20 := ⟨k - 20, by omega⟩
  rw [dec_eq]
  exact long_w hs hi k _ _ _ _ (bt_get s (i + 0)) (bt_get s (i + 1)) (bt_get s (i + 2)) (bt_get s (i + 3)) (UInt8.toNat_lt _) (UInt8.toNat_lt _) (UInt8.toNat_lt _) (UInt8.toNat_lt _)
end
/-! ### Place -/
theorem bt_dec {s : ByteArray} {i : Nat} (hi : i < s.size) : bt s (i : Int) = 10 ↔ ((Utf8.decode s i).1 : Int) = 10 := by
  have hb := bt_get s i
  by_cases h : (s[i]'hi).toNat < 128
  · rw [decode_ascii s i hi h]
    have e : (s.get! i).toNat = (s[i]'hi).toNat := by rw [← get_at s i hi, Nat.add_zero]
    rw [hb, e]
  · have e : (s.get! i).toNat = (s[i]'hi).toNat := by rw [← get_at s i hi, Nat.add_zero]
    have h2 := (decode_high s i hi (by omega)).1
    rw [hb, e]
    constructor
    · intro h3; omega
    · intro h3; omega
theorem place_l0 (s : ByteArray) (hs : s.size ≤ 200) (a : Nat) (ha : a ≤ s.size) : ∀ (d b k pos : Nat) (x y : Int), s.size - pos ≤ d → s.size ≤ pos + b → d + 30 < k → 0 ≤ x → 0 ≤ y → x + d ≤ 1000 → y + d ≤ 1000 → pos ≤ 1000 →
    zelligeref22_Place.l0 k s (a : Int) x y (pos : Int) = some (lex_Place.g b s (a : Int) pos x y) := by
  intro d
  induction d with
  | zero =>
    intro b k pos x y hd hb hk hx hy hx2 hy2 hp
    obtain ⟨k, rfl⟩ : ∃ m, k = m + 1 := ⟨k - 1, by omega⟩
    rw [zelligeref22_Place.l0, if_neg (by omega), lex_Place.g_end _ _ _ _ _ _ (by omega)]
  | succ d ih =>
    intro b k pos x y hd hb hk hx hy hx2 hy2 hp
    obtain ⟨k, rfl⟩ : ∃ m, k = m + 1 := ⟨k - 1, by omega⟩
    by_cases h1 : pos < s.size
    · obtain ⟨b, rfl⟩ : ∃ m, b = m + 1 := ⟨b - 1, by omega⟩
      rw [zelligeref22_Place.l0, lex_Place.g, if_pos h1]
      by_cases h2 : (pos : Int) < (a : Int)
      · have hw := lex_width s pos h1
        have hw4 := decode_small s pos
        have hl := long_f (s := s) (by omega) h1 (k := k) (by omega)
        have hd10 := bt_dec h1
        generalize (Utf8.decode s pos).2 = wd at hw hw4 hl ⊢
        generalize (Utf8.decode s pos).1 = c at hd10 ⊢
        have e := Aside0.mk (show wrap64 ((pos : Int) + ((wd : Nat) : Int)) = ((pos + wd : Nat) : Int) by rw [pw64 (by omega) (by omega)]; omega)
        rw [if_pos h2, if_pos (by omega), if_pos (by omega), if_neg (c := (a : Int) ≤ (pos : Int)) (by omega), hl, Option.bind_some, Option.bind_some, e.out]
        by_cases h3 : bt s (pos : Int) = 10
        · rw [if_pos h3, if_pos (hd10.1 h3), pw64 (x := x + 1) (by omega) (by omega)]
          exact ih b k _ _ _ (by omega) (by omega) (by omega) (by omega) (by omega) (by omega) (by omega) (by omega)
        · rw [if_neg h3, if_neg (fun h => h3 (hd10.2 h)), pw64 (x := y + 1) (by omega) (by omega)]
          exact ih b k _ _ _ (by omega) (by omega) (by omega) (by omega) (by omega) (by omega) (by omega) (by omega)
      · rw [if_neg h2, if_pos (by omega)]
    · rw [zelligeref22_Place.l0, if_neg (by omega), lex_Place.g_end _ _ _ _ _ _ h1]
theorem within_at (s : ByteArray) (at' : Int) : ∃ a : Nat, a ≤ s.size ∧ lex_within.f s at' = some (a : Int) ∧ zelligeref22_At.f s at' = some (a : Int) := by
  unfold lex_within.f zelligeref22_At.f mx mn
  by_cases h1 : at' < 0
  · refine ⟨0, by omega, ?_, by rw [if_pos h1]; rfl⟩
    rw [if_neg (show ¬ (s.size : Int) < at' by omega), if_pos h1]; rfl
  · by_cases h2 : at' > (s.size : Int)
    · refine ⟨s.size, by omega, ?_, by rw [if_neg h1, if_pos h2]⟩
      rw [if_pos (show (s.size : Int) < at' from h2), if_neg (by omega)]
    · refine ⟨at'.toNat, by omega, ?_, by rw [if_neg h1, if_neg h2]; congr 1; omega⟩
      rw [if_neg (show ¬ (s.size : Int) < at' from h2), if_neg h1]; congr 1; omega
/-! ### Strange -/
theorem strange_l0 (s : ByteArray) (hs : s.size ≤ 200) : ∀ (d b k pos : Nat), s.size - pos ≤ d → s.size ≤ pos + b → d < k → pos ≤ 1000 →
    zelligeref22_Strange.l0 k s (pos : Int) = some (lex_Strange.g b s pos) := by
  intro d
  induction d with
  | zero =>
    intro b k pos hd hb hk hp
    obtain ⟨k, rfl⟩ : ∃ m, k = m + 1 := ⟨k - 1, by omega⟩
    rw [zelligeref22_Strange.l0, if_neg (by omega), lex_Strange.g_end _ _ _ (by omega)]
  | succ d ih =>
    intro b k pos hd hb hk hp
    obtain ⟨k, rfl⟩ : ∃ m, k = m + 1 := ⟨k - 1, by omega⟩
    by_cases h1 : pos < s.size
    · obtain ⟨b, rfl⟩ : ∃ m, b = m + 1 := ⟨b - 1, by omega⟩
      have e1 : wrap64 ((pos : Int) + 1) = ((pos + 1 : Nat) : Int) := by rw [pw64 (by omega) (by omega)]; omega
      have hb := bt_get s pos
      have eg : (s.get! pos).toNat = (s[pos]'h1).toNat := by rw [← get_at s pos h1, Nat.add_zero]
      rw [zelligeref22_Strange.l0, lex_Strange.g, if_pos h1, if_pos (by omega), if_pos (by omega), e1]
      by_cases hh : (s[pos]'h1).toNat < 128
      · rw [decode_ascii s pos h1 hh, hb, eg]
        by_cases h2 : (((s[pos]'h1).toNat : Nat) : Int) = 10
        · rw [if_pos h2, if_pos h2]
          exact ih b k (pos + 1) (by omega) (by omega) (by omega) (by omega)
        · rw [if_neg h2, if_neg h2]
          by_cases h3 : (((s[pos]'h1).toNat : Nat) : Int) < 32
          · rw [if_pos h3, if_pos h3]
          · rw [if_neg h3, if_neg h3]
            by_cases h4 : (((s[pos]'h1).toNat : Nat) : Int) > 126
            · rw [if_pos h4, if_pos h4]
            · rw [if_neg h4, if_neg h4]
              exact ih b k (pos + 1) (by omega) (by omega) (by omega) (by omega)
      · have h2 := (decode_high s pos h1 (by omega)).1
        rw [hb, eg, if_neg (by omega), if_neg (by omega), if_pos (by omega), if_neg (by omega), if_neg (by omega), if_pos (by omega)]
    · rw [zelligeref22_Strange.l0, if_neg (by omega), lex_Strange.g_end _ _ _ h1]
theorem places_f (s : ByteArray) (hs : s.size ≤ 140737488351232) (a : Int) : zelligelaw22_LexPlaces.f 5000 s a = some true := by
  obtain ⟨t, ht, hl⟩ := short_f s hs
  obtain ⟨n, hn, h1, h2⟩ := within_at t a
  have p1 : lex_Place.f t a = some (lex_Place.g t.size t (n : Int) 0 1 1) := by unfold lex_Place.f; rw [if_pos (by omega), h1, Option.bind_some]
  have p2 : zelligeref22_Place.f 5000 t a = some (lex_Place.g t.size t (n : Int) 0 1 1) := by
    unfold zelligeref22_Place.f
    rw [h2, Option.bind_some]
    exact place_l0 t hl n hn t.size t.size 5000 0 1 1 (by omega) (by omega) (by omega) (by omega) (by omega) (by omega) (by omega) (by omega)
  have p3 : lex_Strange.f t = some (lex_Strange.g t.size t 0) := by unfold lex_Strange.f; rw [if_pos (by omega)]
  have p4 : zelligeref22_Strange.f 5000 t = some (lex_Strange.g t.size t 0) := by
    unfold zelligeref22_Strange.f
    exact strange_l0 t hl t.size t.size 5000 0 (by omega) (by omega) (by omega) (by omega)
  unfold zelligelaw22_LexPlaces.f
  rw [ht, Option.bind_some, p1, Option.bind_some, p2, Option.bind_some, if_pos rfl, if_pos rfl, p3, Option.bind_some, p4, Option.bind_some, if_pos rfl, lives_true (by omega)]
  rfl
theorem places_calls (a0 : ByteArray) (a1 : Int) (w : World) (w0 : a0.size ≤ 140737488351232) (_w1 : (Lit.int .i64 a1).wf = true) :
    Calls Try.prog 6 #[.string a0, .int .i64 a1] w fun e w' => e = .returned (.bool true) ∧ Below w.heap.size w w' :=
  zelligelaw22_LexPlaces.calls 5000 a0 a1 true w (places_f a0 w0 a1)
end Go.Proofs.Ytcnkicmemapicaa.Lex
