/- What Words of lex's reference comes to. Plain bytes and numbers. -/
import Derived.Test.YtcnkicmemapicaaLexWord
namespace Go.Proofs.Ytcnkicmemapicaa.Lex
open Go Go.RowKit Go.Proofs.YtcnkicmemapicaaW.PrintWords Go.Proofs.Ytcnkicmemapicaa.F

theorem rd_mem {ws : List ByteArray} {i : Nat} (h : i < ws.length) : rdOf ByteArray.empty ws (i : Int) ∈ ws := by
  have e : rdOf ByteArray.empty ws (i : Int) = ws[i] := by simp [rdOf, List.getD_eq_getElem?_getD, List.getElem?_eq_getElem h]
  rw [e]
  exact List.getElem_mem h
theorem w64n {x : Int} {n : Nat} (h : x = (n : Int)) (hn : n ≤ 9223372036854775807) : Aside0 (wrap64 x = (n : Int)) := ⟨by rw [w64 (by omega) (by omega)]; exact h⟩
section
variable (s : ByteArray) (hs : s.size ≤ 1000) (a : Nat) (ha : a ≤ s.size) (ws : List ByteArray) (hw : ws.length ≤ 100) (hl : ∀ w, w ∈ ws → w.size ≤ 1000)
include hs ha hw hl
/-- One look at all words: does one go on at n? -/
theorem r_l2 (n : Nat) (hn : n ≤ 1000) (r : Int × Int × Bool) : ∀ (d k i : Nat) (on : Bool), ws.length - i = d → i ≤ ws.length → d + 1 < k →
    (on = true → a + n < s.size) →
    ((on = true ∨ n < far (s.data.toList.drop a) (ws.drop i)) → (∀ k', k ≤ k' + d + 1 → zelligeref22_Words.l1 k' s (a : Int) ws ((n + 1 : Nat) : Int) = some r) → zelligeref22_Words.l2 k s (a : Int) ws (n : Int) on (i : Int) = some r) ∧
    (¬ (on = true ∨ n < far (s.data.toList.drop a) (ws.drop i)) → zelligeref22_Words.l2 k s (a : Int) ws (n : Int) on (i : Int) = some (-1, ((a + n : Nat) : Int), false)) := by
  intro d
  induction d with
  | zero =>
    intro k i on hd hi hk hon
    obtain ⟨k, rfl⟩ : ∃ m, k = m + 1 := ⟨k - 1, by omega⟩
    rw [zelligeref22_Words.l2, if_neg (by omega), List.drop_eq_nil_of_le (show ws.length ≤ i by omega)]
    simp only [far]
    constructor
    · intro h hr
      have ho : on = true := by rcases h with h | h; exact h; omega
      rw [if_pos ho, w64 (by omega) (by omega)]
      exact hr k (by omega)
    · intro h
      rw [if_neg (fun ho => h (.inl ho)), w64 (by omega) (by omega)]
      congr 3
  | succ d ih =>
    intro k i on hd hi hk hon
    obtain ⟨k, rfl⟩ : ∃ m, k = m + 1 := ⟨k - 1, by omega⟩
    have hil : i < ws.length := by omega
    have hw' := hl _ (rd_mem hil)
    have ew := w64n (x := ((i : Int) + 1)) (n := i + 1) (by omega) (by omega)
    have ean := w64n (x := ((a : Int) + (n : Int))) (n := a + n) (by omega) (by omega)
    have en1 := w64n (x := ((n : Int) + 1)) (n := n + 1) (by omega) (by omega)
    have ean1 := w64n (x := (((a + n : Nat) : Int) + 1)) (n := a + n + 1) (by omega) (by omega)
    rw [zelligeref22_Words.l2, if_pos (by omega), ean.out, ew.out, rd_drop hil]
    simp only [far]
    generalize hW : rdOf ByteArray.empty ws (i : Int) = w at *
    have hc := cl_le (s.data.toList.drop a) w.data.toList
    rw [List.length_drop, size_len, size_len] at hc
    by_cases h1 : a + n < s.size
    · rw [if_pos (by omega)]
      by_cases ho : on = true
      · rw [if_pos ho]
        have := ih k (i + 1) true (by omega) (by omega) (by omega) (fun _ => h1)
        exact ⟨fun _ hr => this.1 (.inl rfl) (fun k' hk' => hr k' (by omega)), fun h => absurd (.inl ho) h⟩
      · rw [if_neg ho, if_pos (by omega)]
        have hF : on = false := by simpa using ho
        subst hF
        -- the word's own answer
        have step : ∀ b : Bool, (b = true ↔ n < cl (s.data.toList.drop a) w.data.toList) → 
            ((false = true ∨ n < max (cl (s.data.toList.drop a) w.data.toList) (far (s.data.toList.drop a) (ws.drop (i + 1)))) → (∀ k', k + 1 ≤ k' + (d + 1) + 1 → zelligeref22_Words.l1 k' s (a : Int) ws ((n + 1 : Nat) : Int) = some r) → zelligeref22_Words.l2 k s (a : Int) ws (n : Int) b ((i + 1 : Nat) : Int) = some r) ∧
            (¬ (false = true ∨ n < max (cl (s.data.toList.drop a) w.data.toList) (far (s.data.toList.drop a) (ws.drop (i + 1)))) → zelligeref22_Words.l2 k s (a : Int) ws (n : Int) b ((i + 1 : Nat) : Int) = some (-1, ((a + n : Nat) : Int), false)) := by
          intro b hb
          have := ih k (i + 1) b (by omega) (by omega) (by omega) (fun _ => h1)
          constructor
          · intro h hr
            refine this.1 ?_ (fun k' hk' => hr k' (by omega))
            rcases h with h | h
            · cases h
            · by_cases h5 : n < cl (s.data.toList.drop a) w.data.toList
              · exact .inl (hb.2 h5)
              · exact .inr (by omega)
          · intro h
            refine this.2 ?_
            rintro (h5 | h5)
            · exact h (.inr (by have := hb.1 h5; omega))
            · exact h (.inr (by omega))
        by_cases h2 : (w.size : Int) > (n : Int)
        · rw [if_pos h2, en1.out, if_pos (by omega), if_pos (by omega), if_pos (by omega), ean1.out, if_pos (by omega), if_pos (by omega)]
          refine step _ ?_
          rw [Lib.extract_toList, Lib.extract_toList, List.drop_zero, Nat.sub_zero, show ((n + 1 : Nat) : Int).toNat = n + 1 by omega, show ((a : Int)).toNat = a by omega, show ((a + n + 1 : Nat) : Int).toNat - a = n + 1 by omega, beq_iff_eq]
          have := take_cl (s.data.toList.drop a) w.data.toList (n + 1) (by rw [List.length_drop, size_len]; omega) (by rw [size_len]; omega)
          rw [eq_comm, this]
          omega
        · rw [if_neg h2]
          refine step false ?_
          constructor
          · intro h; cases h
          · intro h; omega
    · have hoF : ¬ on = true := fun ho => h1 (hon ho)
      have hfar := far_le (s.data.toList.drop a) (ws.drop (i + 1))
      rw [List.length_drop, size_len] at hfar
      rw [if_neg (by omega), if_neg hoF]
      refine ⟨fun h => ?_, fun _ => rfl⟩
      rcases h with h | h
      · exact absurd h hoF
      · omega
/-- All places, one behind the other. -/
theorem r_l1 : ∀ (e k n : Nat), far (s.data.toList.drop a) ws - n = e → n ≤ far (s.data.toList.drop a) ws → 200 * (e + 1) < k →
    zelligeref22_Words.l1 k s (a : Int) ws (n : Int) = some (-1, ((a + far (s.data.toList.drop a) ws : Nat) : Int), false) := by
  have hfar := far_le (s.data.toList.drop a) ws
  rw [List.length_drop, size_len] at hfar
  intro e
  induction e with
  | zero =>
    intro k n he hn hk
    obtain ⟨k, rfl⟩ : ∃ m, k = m + 1 := ⟨k - 1, by omega⟩
    have el := w64n (x := (s.size : Int) - (a : Int)) (n := s.size - a) (by omega) (by omega)
    rw [zelligeref22_Words.l1, el.out, if_pos (by omega)]
    have := (r_l2 s hs a ha ws hw hl n (by omega) (0, 0, false) ws.length k 0 false (by omega) (by omega) (by omega) (by intro h; cases h)).2 (by
      rw [List.drop_zero]
      rintro (h | h)
      · cases h
      · omega)
    rw [show far (s.data.toList.drop a) ws = n by omega]
    exact this
  | succ e ih =>
    intro k n he hn hk
    have f1 : n < far (s.data.toList.drop a) ws := by omega
    have f2 : far (s.data.toList.drop a) ws - (n + 1) = e := by omega
    have f3 : n ≤ 1000 := by omega
    have f5 : n ≤ s.size - a := by omega
    obtain ⟨k, rfl⟩ : ∃ m, k = m + 1 := ⟨k - 1, by omega⟩
    have f4 : ∀ k', k ≤ k' + ws.length + 1 → 200 * (e + 1) < k' := by intro k' h; omega
    have f6 : ws.length + 1 < k := by omega
    have el := w64n (x := (s.size : Int) - (a : Int)) (n := s.size - a) (by omega) (by omega)
    rw [zelligeref22_Words.l1, el.out, if_pos (by omega)]
    exact (r_l2 s hs a ha ws hw hl n f3 _ ws.length k 0 false (Nat.sub_zero _) (Nat.zero_le _) f6 (by intro h; cases h)).1 (by
      rw [List.drop_zero]
      exact .inr f1) (fun k' hk' => ih k' (n + 1) f2 f1 (f4 k' hk'))
theorem r_l0 : ∀ (d k i : Nat), ws.length - i = d → i ≤ ws.length → d + 300000 < k →
    zelligeref22_Words.l0 k s (a : Int) ws (i : Int) = some (out a (first (s.data.toList.drop a) (ws.drop i) i) (far (s.data.toList.drop a) ws)) := by
  have hfar := far_le (s.data.toList.drop a) ws
  rw [List.length_drop, size_len] at hfar
  intro d
  induction d with
  | zero =>
    intro k i hd hi hk
    obtain ⟨k, rfl⟩ : ∃ m, k = m + 1 := ⟨k - 1, by omega⟩
    rw [zelligeref22_Words.l0, if_neg (by omega), List.drop_eq_nil_of_le (show ws.length ≤ i by omega)]
    exact r_l1 s hs a ha ws hw hl _ k 0 rfl (by omega) (by omega)
  | succ d ih =>
    intro k i hd hi hk
    obtain ⟨k, rfl⟩ : ∃ m, k = m + 1 := ⟨k - 1, by omega⟩
    have hil : i < ws.length := by omega
    have hw' := hl _ (rd_mem hil)
    have next := ih k (i + 1) (by omega) (by omega) (by omega)
    have ew := w64n (x := ((i : Int) + 1)) (n := i + 1) (by omega) (by omega)
    rw [zelligeref22_Words.l0, if_pos (by omega), if_pos (by omega), ew.out, rd_drop hil]
    simp only [first]
    generalize hW : rdOf ByteArray.empty ws (i : Int) = w at *
    have eaw := w64n (x := ((a : Int) + (w.size : Int))) (n := a + w.size) (by omega) (by omega)
    rw [eaw.out]
    have hc := cl_le (s.data.toList.drop a) w.data.toList
    rw [List.length_drop, size_len, size_len] at hc
    by_cases h1 : a + w.size ≤ s.size
    · rw [if_pos (by omega), if_pos (by omega), if_pos (by omega), Lib.extract_toList, Lib.toList_data, show ((a : Int)).toNat = a by omega, show ((a + w.size : Nat) : Int).toNat - a = w.size by omega]
      have := take_cl (s.data.toList.drop a) w.data.toList w.size (by rw [List.length_drop, size_len]; omega) (by rw [size_len]; omega)
      rw [List.take_of_length_le (l := w.data.toList) (by rw [size_len]; omega)] at this
      by_cases h2 : w.size ≤ cl (s.data.toList.drop a) w.data.toList
      · rw [if_pos (this.2 h2), if_pos (by rw [size_len]; exact h2)]
        rfl
      · rw [if_neg (fun h => h2 (this.1 h)), if_neg (by rw [size_len]; exact h2)]
        exact next
    · rw [if_neg (by omega), if_neg (by rw [size_len]; omega)]
      exact next
end
/-- Words of the reference. -/
theorem rwords_f (s : ByteArray) (hs : s.size ≤ 1000) (a : Int) (ws : List ByteArray) (hw : ws.length ≤ 100) (hl : ∀ w, w ∈ ws → w.size ≤ 1000) {k : Nat} (hk : 400000 < k) :
    zelligeref22_Words.f k s a ws = some (out (at_ s a).toNat (first (s.data.toList.drop (at_ s a).toNat) ws 0) (far (s.data.toList.drop (at_ s a).toNat) ws)) := by
  have hb := at_le s a
  unfold zelligeref22_Words.f
  rw [at_f, Option.bind_some]
  have := r_l0 s hs (at_ s a).toNat (by omega) ws hw hl ws.length k 0 (by omega) (by omega) (by omega)
  rw [List.drop_zero, show (((at_ s a).toNat : Nat) : Int) = at_ s a by omega] at this
  exact this
end Go.Proofs.Ytcnkicmemapicaa.Lex
