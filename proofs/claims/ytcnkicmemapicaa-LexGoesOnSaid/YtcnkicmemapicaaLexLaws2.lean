/- LexWords: the law answers true for all texts, places and words. -/
import Derived.Test.YtcnkicmemapicaaLexWordR
import Derived.Test.YtcnkicmemapicaaLexLaws
import Derived.Test.YtcnkicmemapicaaFzelligelaw22LexWords
namespace Go.Proofs.Ytcnkicmemapicaa.Lex
open Go Go.RowKit Go.Proofs.YtcnkicmemapicaaW.PrintWords Go.Proofs.Ytcnkicmemapicaa.F

theorem short_any (s : ByteArray) : ∃ t, zelligelaw22_short.f s = some t ∧ t.size ≤ 200 := by
  unfold zelligelaw22_short.f
  by_cases h : (s.size : Int) > 200
  · rw [if_pos h, if_pos (by omega), if_pos (by omega)]
    refine ⟨_, rfl, ?_⟩
    rw [ByteArray.size_extract]
    omega
  · rw [if_neg h]
    exact ⟨s, rfl, by omega⟩
theorem few_l0 (ws : List ByteArray) (hw : ws.length ≤ 8) : ∀ (d k i : Nat) (acc : List ByteArray), ws.length - i = d → i ≤ ws.length → d + 1 < k → acc.length = i → (∀ w, w ∈ acc → w.size ≤ 200) →
    ∃ r, zelligelaw22_few.l0 k ws acc (i : Int) = some r ∧ r.length ≤ 8 ∧ ∀ w, w ∈ r → w.size ≤ 200 := by
  intro d
  induction d with
  | zero =>
    intro k i acc hd hi hk ha hs
    obtain ⟨k, rfl⟩ : ∃ m, k = m + 1 := ⟨k - 1, by omega⟩
    rw [zelligelaw22_few.l0, if_neg (by omega)]
    exact ⟨acc, rfl, by omega, hs⟩
  | succ d ih =>
    intro k i acc hd hi hk ha hs
    obtain ⟨k, rfl⟩ : ∃ m, k = m + 1 := ⟨k - 1, by omega⟩
    obtain ⟨t, ht, hl⟩ := short_any (rdOf ByteArray.empty ws (i : Int))
    have ew := w64n (x := (i : Int) + 1) (n := i + 1) (by omega) (by omega)
    rw [zelligelaw22_few.l0, if_pos (by omega), if_pos (by omega), ht, Option.bind_some, if_pos (by omega), ew.out]
    refine ih k (i + 1) _ (by omega) (by omega) (by omega) (by rw [List.length_append]; simp; omega) ?_
    intro w hw'
    rcases List.mem_append.1 hw' with h | h
    · exact hs w h
    · rw [List.mem_singleton.1 h]; exact hl
theorem few_f (ws : List ByteArray) {k : Nat} (hk : 20 < k) : ∃ r, zelligelaw22_few.f k ws = some r ∧ r.length ≤ 8 ∧ ∀ w, w ∈ r → w.size ≤ 200 := by
  obtain ⟨k, rfl⟩ : ∃ m, k = m + 1 := ⟨k - 1, by omega⟩
  unfold zelligelaw22_few.f
  by_cases h : (ws.length : Int) > 8
  · rw [if_pos h, if_pos (by omega), zelligelaw22_few.j0]
    have hl : (ws.take 8).length = 8 := by rw [List.length_take]; omega
    exact few_l0 (ws.take 8) (by omega) _ k 0 [] rfl (by omega) (by omega) rfl (fun w hw => by cases hw)
  · rw [if_neg h, zelligelaw22_few.j0]
    exact few_l0 ws (by omega) _ k 0 [] rfl (by omega) (by omega) rfl (fun w hw => by cases hw)
theorem words_law (s : ByteArray) (a : Int) (ws : List ByteArray) : zelligelaw22_LexWords.f 500000 s a ws = some true := by
  obtain ⟨t, ht, hl⟩ := short_any s
  obtain ⟨r, hr, h1, h2⟩ := few_f ws (k := 500000) (by omega)
  unfold zelligelaw22_LexWords.f
  rw [ht, Option.bind_some, hr, Option.bind_some, Option.bind_some, if_pos (by simp; omega), List.nil_append, words_f t (by omega) a r (by omega) (fun w hw => by have := h2 w hw; omega) (by omega), Option.bind_some,
    rwords_f t (by omega) a r (by omega) (fun w hw => by have := h2 w hw; omega) (by omega), Option.bind_some, if_pos rfl, if_pos rfl, if_pos (beq_self_eq_true _), lives_true (by omega)]
  rfl
theorem words_calls (a0 : ByteArray) (a1 : Int) (A2 : Option Addr) (c2 : Nat) (l2 : List ByteArray) (w : World) (_w0 : a0.size ≤ 140737488351232) (_w1 : (Lit.int .i64 a1).wf = true) (hc : l2.length ≤ c2) (hr : Kd.C Kd.string w A2 l2.length l2) :
    Calls Try.prog 3 #[.string a0, .int .i64 a1, .slice A2 l2.length c2] w fun e w' => e = .returned (.bool true) ∧ Below w.heap.size w w' :=
  zelligelaw22_LexWords.calls 500000 a0 a1 A2 c2 l2 true w hr hc (words_law a0 a1 l2)
end Go.Proofs.Ytcnkicmemapicaa.Lex
