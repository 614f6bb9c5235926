/- LexGoesOn: the law answers true for all texts and words. -/
import Derived.Test.YtcnkicmemapicaaLexLaws2
import Derived.Test.YtcnkicmemapicaaFzelligelaw22LexGoesOn
namespace Go.Proofs.Ytcnkicmemapicaa.Lex
open Go Go.RowKit Go.Proofs.YtcnkicmemapicaaW.PrintWords Go.Proofs.Ytcnkicmemapicaa.F

theorem at_zero (s : ByteArray) : at_ s 0 = 0 := by unfold at_; rw [if_neg (by omega), if_neg (by omega)]
theorem tail_le (s : ByteArray) (i : Int) (i0 : 0 ≤ i) (i1 : i ≤ s.size) (neg : Bool) : 0 ≤ (tail s i neg).2.1 ∧ (tail s i neg).2.1 ≤ s.size := by
  unfold tail
  have hg := go_le s ((s.size : Int) - i).toNat i 0 (by omega) (by omega)
  split
  · simp only; omega
  · split
    · simp only; omega
    · split
      · split <;> (simp only; omega)
      · simp only; omega
theorem num_le (s : ByteArray) (m : Bool) : 0 ≤ (num s 0 m).2.1 ∧ (num s 0 m).2.1 ≤ s.size := by
  unfold num
  rw [at_zero]
  split
  · rename_i h
    exact tail_le s (0 + 1) (by omega) (by omega) true
  · exact tail_le s 0 (by omega) (by omega) false
theorem tail_no {s : ByteArray} {i : Int} {neg : Bool} (h : (tail s i neg).2.2 = false) : (tail s i neg).2.1 = i := by
  unfold tail at h ⊢
  split at h
  · rename_i h0; rw [if_pos h0]
  · rename_i h0
    rw [if_neg h0]
    split at h
    · rename_i h1; rw [if_pos h1]
    · rename_i h1
      rw [if_neg h1]
      split at h
      · rename_i h2
        rw [if_pos h2]
        split at h
        · rename_i h3; rw [if_pos h3]
        · cases h
      · cases h
theorem tail_yes {s : ByteArray} {i : Int} {neg : Bool} (h0 : i ≠ s.size) (h1 : bt s i = 55) : (tail s i neg).2.2 = true := by
  unfold tail
  rw [if_neg h0, if_neg (by omega), if_neg (by omega)]
theorem seven_data (s : ByteArray) (n : Nat) : (s.extract 0 n ++ (⟨#[55]⟩ : ByteArray)).data.toList = s.data.toList.take n ++ [55] := by
  rw [ByteArray.toList_data_append, Lib.extract_data]
  simp
theorem seven_size (s : ByteArray) (n : Nat) (h : n ≤ s.size) : (s.extract 0 n ++ (⟨#[55]⟩ : ByteArray)).size = n + 1 := by
  rw [← size_len, seven_data, List.length_append, List.length_take, size_len]
  simp
  omega
theorem seven_at (s : ByteArray) (n : Nat) (h : n ≤ s.size) : bt (s.extract 0 n ++ (⟨#[55]⟩ : ByteArray)) (n : Int) = 55 := by
  rw [bt_nat _ _ (by rw [seven_size s n h]; omega), seven_data, List.getD_eq_getElem?_getD, List.getElem?_append_right (by rw [List.length_take]; omega), List.length_take, Nat.min_eq_left (by rw [size_len]; exact h), Nat.sub_self]
  rfl
/-- What stands ahead of where a number does not go on can be gone on with. -/
theorem goes_on (s : ByteArray) (m : Bool) (h : (num s 0 m).2.2 = false) : (num (s.extract 0 (num s 0 m).2.1.toNat ++ (⟨#[55]⟩ : ByteArray)) 0 m).2.2 = true := by
  by_cases hm : m = true ∧ at_ s 0 < s.size ∧ bt s (at_ s 0) = 45
  · have e : num s 0 m = tail s (0 + 1) true := by unfold num; rw [if_pos hm, at_zero]
    rw [e] at h ⊢
    rw [tail_no h]
    obtain ⟨h1, h2, h3⟩ := hm
    rw [at_zero] at h2 h3
    have hz : ((0 : Int) + 1).toNat = 1 := rfl
    rw [hz]
    have hs1 := seven_size s 1 (by omega)
    have b0 : bt (s.extract 0 1 ++ (⟨#[55]⟩ : ByteArray)) ((0 : Nat) : Int) = 45 := by
      rw [bt_nat _ _ (by omega), seven_data, List.getD_eq_getElem?_getD, List.getElem?_append_left (by rw [List.length_take, size_len]; omega), List.getElem?_take, if_pos (by omega), ← List.getD_eq_getElem?_getD, ← bt_nat s 0 (by omega)]
      exact h3
    unfold num
    rw [at_zero, if_pos ⟨h1, by omega, b0⟩]
    exact tail_yes (by omega) (seven_at s 1 (by omega))
  · have e : num s 0 m = tail s 0 false := by unfold num; rw [if_neg hm, at_zero]
    rw [e] at h ⊢
    rw [tail_no h]
    have hz : (0 : Int).toNat = 0 := rfl
    rw [hz]
    have hs1 := seven_size s 0 (by omega)
    have b0 := seven_at s 0 (by omega)
    unfold num
    rw [at_zero, if_neg (by rintro ⟨_, _, h3⟩; rw [show ((0 : Int)) = ((0 : Nat) : Int) from rfl, b0] at h3; omega)]
    exact tail_yes (by omega) b0
/-- The law's end. -/
theorem end_f (s : ByteArray) (hs : s.size ≤ 900) (m : Bool) {k : Nat} (hk : 5000 < k) :
    ((lex_Number.f k s 0 m).bind fun bt187 => (if 0 ≤ bt187.2.1 then (if bt187.2.1 ≤ (s.size : Int) then (if (s.extract 0 (bt187.2.1 : Int).toNat).size + 1 ≤ 9223372036854775807 then ((lex_Number.f k ((s.extract 0 (bt187.2.1 : Int).toNat) ++ (⟨#[55]⟩ : ByteArray)) 0 m).bind fun bt190 => (if bt187.2.2 = true then ((zelligelaw22_lives.f k).bind fun t193 => (some t193)) else (if bt190.2.2 = true then ((zelligelaw22_lives.f k).bind fun t194 => (some t194)) else (some false)))) else (none)) else (none)) else (none))) = some true := by
  have hb := num_le s m
  have hsz : (s.extract 0 (num s 0 m).2.1.toNat).size ≤ 900 := by rw [ByteArray.size_extract]; omega
  have hs7 := seven_size s (num s 0 m).2.1.toNat (by omega)
  rw [lex_f s (by omega) 0 m (by omega), Option.bind_some, if_pos hb.1, if_pos hb.2, if_pos (by omega), lex_f _ (by omega) 0 m (by omega), Option.bind_some, lives_true (by omega)]
  by_cases h : (num s 0 m).2.2 = true
  · rw [if_pos h]; rfl
  · rw [if_neg h, if_pos (goes_on s m (by simpa using h))]; rfl
section
variable (s : ByteArray) (hs : s.size ≤ 900) (m : Bool) (ws : List ByteArray) (hw : ws.length ≤ 100) (n : Nat) (hn : n ≤ s.size)
include hs hw hn
/-- A word that goes on up to n. -/
theorem good_l0 : ∀ (d k i : Nat) (g : Bool), ws.length - i = d → i ≤ ws.length → d + 5001 < k → (g = true ∨ ∃ j, i ≤ j ∧ j < ws.length ∧ n ≤ cl s.data.toList (rdOf ByteArray.empty ws (j : Int)).data.toList) →
    zelligelaw22_LexGoesOn.l0 k s ws m (n : Int) g (i : Int) = some true := by
  intro d
  induction d with
  | zero =>
    intro k i g hd hi hk hg
    obtain ⟨k, rfl⟩ : ∃ m, k = m + 1 := ⟨k - 1, by omega⟩
    have hg' : g = true := by
      rcases hg with h | ⟨j, h1, h2, _⟩
      · exact h
      · omega
    rw [zelligelaw22_LexGoesOn.l0, if_neg (by omega), if_pos hg']
    exact end_f s hs m (by omega)
  | succ d ih =>
    intro k i g hd hi hk hg
    obtain ⟨k, rfl⟩ : ∃ m, k = m + 1 := ⟨k - 1, by omega⟩
    have ew := w64n (x := (i : Int) + 1) (n := i + 1) (by omega) (by omega)
    rw [zelligelaw22_LexGoesOn.l0, if_pos (by omega), ew.out]
    by_cases h : g = true
    · rw [if_pos h]
      exact ih k (i + 1) true (by omega) (by omega) (by omega) (.inl rfl)
    · rw [if_neg h, if_pos (by omega)]
      have hg' : ∃ j, i ≤ j ∧ j < ws.length ∧ n ≤ cl s.data.toList (rdOf ByteArray.empty ws (j : Int)).data.toList := by
        rcases hg with h' | h'
        · exact absurd h' h
        · exact h'
      obtain ⟨j, h1, h2, h3⟩ := hg'
      generalize hW : rdOf ByteArray.empty ws (i : Int) = w
      have hc := cl_le s.data.toList w.data.toList
      rw [size_len, size_len] at hc
      by_cases h4 : (w.size : Int) ≥ (n : Int)
      · rw [if_pos h4, if_pos (by omega), if_pos (by omega), if_pos (by omega)]
        refine ih k (i + 1) _ (by omega) (by omega) (by omega) ?_
        by_cases h5 : n ≤ cl s.data.toList w.data.toList
        · refine .inl ?_
          rw [Lib.extract_toList, Lib.extract_toList, beq_iff_eq, List.drop_zero, List.drop_zero, Nat.sub_zero, show ((n : Int)).toNat = n by omega]
          exact ((take_cl s.data.toList w.data.toList n (by rw [size_len]; omega) (by rw [size_len]; omega)).2 h5).symm
        · refine .inr ⟨j, ?_, h2, h3⟩
          rcases Nat.lt_or_ge i j with h6 | h6
          · exact h6
          · obtain rfl : j = i := by omega
            rw [hW] at h3
            exact absurd h3 h5
      · rw [if_neg h4]
        refine ih k (i + 1) _ (by omega) (by omega) (by omega) (.inr ⟨j, ?_, h2, h3⟩)
        rcases Nat.lt_or_ge i j with h6 | h6
        · exact h6
        · obtain rfl : j = i := by omega
          rw [hW] at h3
          omega
end
/-- The farthest is reached by a word. -/
theorem far_by (U : List UInt8) : ∀ ws : List ByteArray, ws ≠ [] → ∃ j, j < ws.length ∧ far U ws ≤ cl U (rdOf ByteArray.empty ws (j : Int)).data.toList
  | [], h => absurd rfl h
  | w :: ws, _ => by
    by_cases h0 : far U ws ≤ cl U w.data.toList
    · refine ⟨0, by simp, ?_⟩
      simp only [far, rdOf]
      simp
      exact Nat.max_le.2 ⟨Nat.le_refl _, h0⟩
    · have hne : ws ≠ [] := by
        rintro rfl
        simp [far] at h0
      obtain ⟨j, h1, h2⟩ := far_by U ws hne
      refine ⟨j + 1, by simp; omega, ?_⟩
      have e : rdOf ByteArray.empty (w :: ws) ((j + 1 : Nat) : Int) = rdOf ByteArray.empty ws (j : Int) := by
        unfold rdOf
        rw [show ((j + 1 : Nat) : Int).toNat = j + 1 by omega, show ((j : Nat) : Int).toNat = j by omega, List.getD_cons_succ]
      rw [e]
      simp only [far]
      omega
theorem goeson_law (s : ByteArray) (ws : List ByteArray) (m : Bool) : zelligelaw22_LexGoesOn.f 500000 s ws m = some true := by
  obtain ⟨t, ht, hl⟩ := short_any s
  obtain ⟨r, hr, h1, h2⟩ := few_f ws (k := 500000) (by omega)
  have hz : (at_ t 0).toNat = 0 := by rw [at_zero]; rfl
  obtain ⟨q, hq⟩ : ∃ q : Nat, 500000 = q + 1 := ⟨499999, by omega⟩
  unfold zelligelaw22_LexGoesOn.f
  rw [ht, Option.bind_some, hr, Option.bind_some, Option.bind_some, if_pos (by simp; omega), List.nil_append, words_f t (by omega) 0 r (by omega) (fun w hw => by have := h2 w hw; omega) (by omega), Option.bind_some, hz, List.drop_zero]
  have e0 : ∀ n, zelligelaw22_LexGoesOn.j0 500000 t r m n false = some true := by
    intro n
    rw [hq, zelligelaw22_LexGoesOn.j0, if_neg (by decide)]
    exact end_f t (by omega) m (by omega)
  cases hf : first t.data.toList r 0 with
  | some p =>
    obtain ⟨i, l⟩ := p
    simp only [out]
    rw [if_pos trivial]
    exact e0 _
  | none =>
    have e1 : out 0 none (far t.data.toList r) = (-1, ((far t.data.toList r : Nat) : Int), false) := by simp only [out, Nat.zero_add]
    rw [e1, if_neg (show ¬ ((-1, ((far t.data.toList r : Nat) : Int), false) : Int × Int × Bool).2.2 = true from Bool.false_ne_true)]
    by_cases hlen : r.length = 0
    · rw [show decide ((r.length : Int) > 0) = false from decide_eq_false (by omega)]
      exact e0 _
    · rw [show decide ((r.length : Int) > 0) = true from decide_eq_true (by omega), hq, zelligelaw22_LexGoesOn.j0, if_pos rfl]
      have hfar := far_le t.data.toList r
      rw [size_len] at hfar
      obtain ⟨j, h3, h4⟩ := far_by t.data.toList r (by rintro rfl; simp at hlen)
      exact good_l0 t (by omega) m r (by omega) (far t.data.toList r) hfar r.length q 0 false (by omega) (by omega) (by omega) (.inr ⟨j, by omega, h3, h4⟩)
theorem goeson_calls (a0 : ByteArray) (A1 : Option Addr) (c1 : Nat) (l1 : List ByteArray) (a2 : Bool) (w : World) (_w0 : a0.size ≤ 140737488351232) (hc : l1.length ≤ c1) (hr : Kd.C Kd.string w A1 l1.length l1) :
    Calls Try.prog 5 #[.string a0, .slice A1 l1.length c1, .bool a2] w fun e w' => e = .returned (.bool true) ∧ Below w.heap.size w w' :=
  zelligelaw22_LexGoesOn.calls 500000 a0 A1 c1 l1 a2 true w hr hc (goeson_law a0 l1 a2)
end Go.Proofs.Ytcnkicmemapicaa.Lex
