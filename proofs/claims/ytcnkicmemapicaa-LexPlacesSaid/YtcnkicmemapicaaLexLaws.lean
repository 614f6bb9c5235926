/- LexNumbers: the law answers true for all texts, places and signs. -/
import Derived.Test.YtcnkicmemapicaaLexNum
import Derived.Test.YtcnkicmemapicaaFzelligelaw22LexNumbers
namespace Go.Proofs.Ytcnkicmemapicaa.Lex
open Go Go.RowKit Go.Proofs.YtcnkicmemapicaaW.PrintWords Go.Proofs.Ytcnkicmemapicaa.F

theorem lives_true {k : Nat} (hk : 60 ≤ k) : zelligelaw22_lives.f k = some true :=
  at_rounds (g := fun k => zelligelaw22_lives.f k) (fun k => zelligelaw22_lives.mono k) hk (show zelligelaw22_lives.f 60 = some true by decide +kernel)
theorem short_f (s : ByteArray) (hs : s.size ≤ 140737488351232) : ∃ t, zelligelaw22_short.f s = some t ∧ t.size ≤ 200 := by
  unfold zelligelaw22_short.f
  by_cases h : (s.size : Int) > 200
  · rw [if_pos h, if_pos (by omega), if_pos (by omega)]
    refine ⟨_, rfl, ?_⟩
    rw [ByteArray.size_extract]
    omega
  · rw [if_neg h]
    exact ⟨s, rfl, by omega⟩
theorem numbers_f (s : ByteArray) (hs : s.size ≤ 140737488351232) (a : Int) (m : Bool) : zelligelaw22_LexNumbers.f 5000 s a m = some true := by
  obtain ⟨t, ht, hl⟩ := short_f s hs
  unfold zelligelaw22_LexNumbers.f
  rw [ht, Option.bind_some, lex_f t (by omega) a m (by omega), Option.bind_some, ref_f t (by omega) a m (by omega), Option.bind_some, if_pos rfl, if_pos rfl, if_pos (beq_self_eq_true _), lives_true (by omega)]
  rfl
theorem numbers_calls (a0 : ByteArray) (a1 : Int) (a2 : Bool) (w : World) (w0 : a0.size ≤ 140737488351232) (_w1 : (Lit.int .i64 a1).wf = true) :
    Calls Try.prog 4 #[.string a0, .int .i64 a1, .bool a2] w fun e w' => e = .returned (.bool true) ∧ Below w.heap.size w w' :=
  zelligelaw22_LexNumbers.calls 5000 a0 a1 a2 true w (numbers_f a0 w0 a1 a2)
end Go.Proofs.Ytcnkicmemapicaa.Lex
