/- lex.Strange (a range over a text), in the print's form. -/
import Derived.Test.YtcnkicmemapicaaFlexPlace
namespace Go.Proofs.Ytcnkicmemapicaa.F
open Go Go.RowKit Go.Proofs.YtcnkicmemapicaaW.PrintWords Go.Proofs.YtcnkicmemapicaaW.PrintLast Go.Proofs.YtcnkicmemapicaaW.PrintMore
set_option linter.unusedVariables false
/-- The first letter that is no plain one, from a place on. -/
def lex_Strange.g : Nat → ByteArray → Nat → Int
  | 0, _, _ => -1
  | b + 1, s, pos => if pos < s.size then (if ((Utf8.decode s pos).1 : Int) = 10 then lex_Strange.g b s (pos + (Utf8.decode s pos).2) else if ((Utf8.decode s pos).1 : Int) < 32 then (pos : Int) else if 126 < ((Utf8.decode s pos).1 : Int) then (pos : Int) else lex_Strange.g b s (pos + (Utf8.decode s pos).2)) else -1
theorem lex_Strange.g_end (s : ByteArray) (b : Nat) (pos : Nat) (h : ¬ pos < s.size) : lex_Strange.g b s pos = -1 := by
  cases b with
  | zero => rfl
  | succ b => rw [lex_Strange.g, if_neg h]
def lex_Strange.f (a0 : ByteArray) : Option Int := if a0.size ≤ 140737488351232 then some (lex_Strange.g a0.size a0 0) else none
structure StrangeRel (w : World) (s : ByteArray) (r : Int) (wr : World) : Prop where
  out : ∃ (pos b : Nat), wr = w.iter s pos ∧ lex_Strange.g b s pos = r ∧ s.size ≤ pos + b ∧ pos ≤ s.size + 4
theorem StrangeRel.next {w : World} {s : ByteArray} {r : Int} {pos b : Nat} (hp : pos < s.size) (hc : Aside0 (lex_Strange.g (b + 1) s pos = r)) (hb : Aside0 (s.size ≤ pos + (b + 1)))
    (hn : ((Utf8.decode s pos).1 : Int) = 10 ∨ ¬ ((Utf8.decode s pos).1 : Int) = 10 ∧ ¬ ((Utf8.decode s pos).1 : Int) < 32 ∧ ¬ 126 < ((Utf8.decode s pos).1 : Int)) : StrangeRel w s r (w.iter s (pos + (Utf8.decode s pos).2)) := by
  have h1 := lex_width s pos hp
  have h2 := decode_small s pos
  have h3 := hb.out
  have h4 := hc.out
  rw [lex_Strange.g, if_pos hp] at h4
  refine ⟨_, b, rfl, ?_, by omega, by omega⟩
  rcases hn with hn | ⟨n1, n2, n3⟩
  · rw [if_pos hn] at h4; exact h4
  · rw [if_neg n1, if_neg n2, if_neg n3] at h4; exact h4
theorem strange_here {s : ByteArray} {r : Int} {pos b : Nat} (hp : pos < s.size) (hc : Aside0 (lex_Strange.g (b + 1) s pos = r)) (h1 : ¬ ((Utf8.decode s pos).1 : Int) = 10) (h2 : ((Utf8.decode s pos).1 : Int) < 32 ∨ 126 < ((Utf8.decode s pos).1 : Int)) : (pos : Int) = r := by
  have h4 := hc.out
  rw [lex_Strange.g, if_pos hp, if_neg h1] at h4
  by_cases h : ((Utf8.decode s pos).1 : Int) < 32
  · rw [if_pos h] at h4; exact h4
  · rw [if_neg h, if_pos (h2.resolve_left h)] at h4; exact h4
set_option maxHeartbeats 1000000 in
theorem lex_Strange.walk (s : ByteArray) (hs : s.size ≤ 140737488351232) (r : Int) (hr : Aside0 (lex_Strange.g s.size s 0 = r)) (w : World) :
    Calls Try.prog 16 #[.string s] w fun e w' => e = .returned (.int .i64 r) ∧ Below w.heap.size w w' := by
  go_enter Try.func16, Try.ntmps16
  go_wp2
  go_loopw [3] (fun _ wr => StrangeRel w s r wr) (fun _ wr => s.size + 8 - wr.iterPos w.heap.size)
  case atStart => exact ⟨0, s.size, rfl, hr.out, by omega, by omega⟩
  case round =>
    obtain ⟨pos, b, rfl, hc0, hb0, hps⟩ := hrel
    have hc := Aside0.mk hc0
    have hb := Aside0.mk hb0
    clear hc0 hb0
    by_cases hp : pos < s.size
    · have hnx : ∀ ty, (Instr.next (.pointer (some ⟨w.heap.size, 0, none⟩)) true ty).run Try.prog (w.iter s pos) = _ := fun ty => run_next_any w s pos ty hp
      cases b with
      | zero => have := hb.out; omega
      | succ b =>
        have hwd := lex_width s pos hp
        have hsm := decode_small s pos
        by_cases h10 : ((Utf8.decode s pos).1 : Int) = 10
        · have R := Aside0.mk (StrangeRel.next (w := w) hp hc hb (.inl h10))
          have h1 : ((((Utf8.decode s pos).1 : Nat) : Int) == 10) = true := beq_iff_eq.2 h10
          have h1' : ((((Utf8.decode s pos).1 : Nat) : Int) != 10) = false := by rw [bne, h1]; rfl
          clear h10
          go_wp2
          go_roundw
          case rel => exact R.out
          case measure => simp; omega
        · have h1 : ((((Utf8.decode s pos).1 : Nat) : Int) == 10) = false := beq_eq_false_iff_ne.2 h10
          have h1' : ((((Utf8.decode s pos).1 : Nat) : Int) != 10) = true := by rw [bne, h1]; rfl
          by_cases h32 : ((Utf8.decode s pos).1 : Int) < 32
          · have E := Aside0.mk (strange_here hp hc h10 (.inl h32))
            have h2 : decide ((((Utf8.decode s pos).1 : Nat) : Int) < 32) = true := decide_eq_true h32
            clear h10
            go_wp2
            go_ret
            exact ⟨by rw [E.out]; rfl, (Below.refl _ _).alloc (Nat.le_refl _) _⟩
          · have h2 : decide ((((Utf8.decode s pos).1 : Nat) : Int) < 32) = false := decide_eq_false h32
            by_cases h126 : 126 < ((Utf8.decode s pos).1 : Int)
            · have E := Aside0.mk (strange_here hp hc h10 (.inr h126))
              have h3 : decide (126 < (((Utf8.decode s pos).1 : Nat) : Int)) = true := decide_eq_true h126
              clear h10
              go_wp2
              go_ret
              exact ⟨by rw [E.out]; rfl, (Below.refl _ _).alloc (Nat.le_refl _) _⟩
            · have R := Aside0.mk (StrangeRel.next (w := w) hp hc hb (.inr ⟨h10, h32, h126⟩))
              have h3 : decide (126 < (((Utf8.decode s pos).1 : Nat) : Int)) = false := decide_eq_false h126
              clear h10
              go_wp2
              go_roundw
              case rel => exact R.out
              case measure => simp; omega
    · have hnx : ∀ ty, (Instr.next (.pointer (some ⟨w.heap.size, 0, none⟩)) true ty).run Try.prog (w.iter s pos) = _ := fun ty => run_next_end w s pos ty hp
      go_wp2
      go_ret
      have h4 := hc.out
      rw [lex_Strange.g_end s b pos hp] at h4
      exact ⟨by rw [← h4]; rfl, (Below.refl _ _).alloc (Nat.le_refl _) _⟩
theorem lex_Strange.calls (a0 : ByteArray) (r : Int) (w : World) (h : lex_Strange.f a0 = some r) :
    Calls Try.prog 16 #[.string a0] w fun e w' => e = .returned (.int .i64 r) ∧ Below w.heap.size w w' := by
  unfold lex_Strange.f at h
  by_cases hs : a0.size ≤ 140737488351232
  · rw [if_pos hs] at h
    exact lex_Strange.walk a0 hs r ⟨Option.some.inj h⟩ w
  · rw [if_neg hs] at h
    cases h
end Go.Proofs.Ytcnkicmemapicaa.F
