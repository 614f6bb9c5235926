/- lex.Place and lex.Strange (a range over a text), in the print's form. -/
import Derived.Test.YtcnkicmemapicaaFlexwithin
import Derived.Laws.RangeString
import Derived.Laws.RangeAny
import Derived.LoopTactic
namespace Go.Proofs.Ytcnkicmemapicaa.F
open Go Go.RowKit Go.Proofs.YtcnkicmemapicaaW.PrintWords Go.Proofs.YtcnkicmemapicaaW.PrintLast Go.Proofs.YtcnkicmemapicaaW.PrintMore
set_option linter.unusedVariables false

theorem lex_width (s : ByteArray) (pos : Nat) (h : pos < s.size) : 1 ≤ (Utf8.decode s pos).2 := by
  by_cases ha : (s[pos]'h).toNat < 128
  · rw [decode_ascii s pos h ha]
    exact Nat.le_refl _
  · exact (decode_high s pos h (by omega)).2
/-- Line and column, from a place on. -/
def lex_Place.g : Nat → ByteArray → Int → Nat → Int → Int → Int × Int
  | 0, _, _, _, l, c => (l, c)
  | b + 1, s, a, pos, l, c => if pos < s.size then (if a ≤ (pos : Int) then (l, c) else if ((Utf8.decode s pos).1 : Int) = 10 then lex_Place.g b s a (pos + (Utf8.decode s pos).2) (l + 1) 1 else lex_Place.g b s a (pos + (Utf8.decode s pos).2) l (c + 1)) else (l, c)
theorem lex_Place.g_end (s : ByteArray) (b : Nat) (a : Int) (pos : Nat) (l c : Int) (h : ¬ pos < s.size) : lex_Place.g b s a pos l c = (l, c) := by
  cases b with
  | zero => rfl
  | succ b => rw [lex_Place.g, if_neg h]
def lex_Place.f (a0 : ByteArray) (a1 : Int) : Option (Int × Int) := if a0.size ≤ 140737488351232 then (lex_within.f a0 a1).bind fun t => some (lex_Place.g a0.size a0 t 0 1 1) else none
/-- Of a round: the line, the column. -/
structure PlaceRel (w : World) (s : ByteArray) (a r1 r2 : Int) (l c : Value) (wr : World) : Prop where
  out : ∃ (pos b : Nat) (x y : Int), wr = w.iter s pos ∧ l = .int .i64 x ∧ c = .int .i64 y ∧ lex_Place.g b s a pos x y = (r1, r2) ∧ s.size ≤ pos + b ∧ 0 ≤ x ∧ 0 ≤ y ∧ x ≤ 1 + pos ∧ y ≤ 1 + pos ∧ pos ≤ s.size + 4
theorem decode_small (s : ByteArray) (pos : Nat) : (Utf8.decode s pos).2 ≤ 4 := by
  simp only [Utf8.decode]
  repeat' split
  all_goals simp
theorem PlaceRel.stay {w : World} {s : ByteArray} {a r1 r2 x y : Int} {pos b : Nat} (hp : pos < s.size) (ha : ¬ a ≤ (pos : Int)) (hc : Aside0 (lex_Place.g (b + 1) s a pos x y = (r1, r2))) (hb : Aside0 (s.size ≤ pos + (b + 1))) (h : 0 ≤ x ∧ 0 ≤ y ∧ x ≤ 1 + pos ∧ y ≤ 1 + pos)
    (hn : ¬ ((Utf8.decode s pos).1 : Int) = 10) : PlaceRel w s a r1 r2 (.int .i64 x) (.int .i64 (y + 1)) (w.iter s (pos + (Utf8.decode s pos).2)) := by
  have h1 := lex_width s pos hp
  have h2 := decode_small s pos
  have h3 := hb.out
  have h4 := hc.out
  rw [lex_Place.g, if_pos hp, if_neg ha, if_neg hn] at h4
  exact ⟨_, b, x, y + 1, rfl, rfl, rfl, h4, by omega, by omega, by omega, by omega, by omega, by omega⟩
theorem PlaceRel.line {w : World} {s : ByteArray} {a r1 r2 x y : Int} {pos b : Nat} (hp : pos < s.size) (ha : ¬ a ≤ (pos : Int)) (hc : Aside0 (lex_Place.g (b + 1) s a pos x y = (r1, r2))) (hb : Aside0 (s.size ≤ pos + (b + 1))) (h : 0 ≤ x ∧ 0 ≤ y ∧ x ≤ 1 + pos ∧ y ≤ 1 + pos)
    (hn : ((Utf8.decode s pos).1 : Int) = 10) : PlaceRel w s a r1 r2 (.int .i64 (x + 1)) (.int .i64 1) (w.iter s (pos + (Utf8.decode s pos).2)) := by
  have h1 := lex_width s pos hp
  have h2 := decode_small s pos
  have h3 := hb.out
  have h4 := hc.out
  rw [lex_Place.g, if_pos hp, if_neg ha, if_pos hn] at h4
  exact ⟨_, b, x + 1, 1, rfl, rfl, rfl, h4, by omega, by omega, by omega, by omega, by omega, by omega⟩
theorem iter_below {w w1 : World} (h : Below w.heap.size w w1) (s : ByteArray) (pos : Nat) : Below w.heap.size w (w1.iter s pos) := h.alloc h.size _
set_option maxHeartbeats 1000000 in
theorem lex_Place.walk (s : ByteArray) (hs : s.size ≤ 140737488351232) (a1 a : Int) (r1 r2 : Int) (ha : Aside0 (lex_within.f s a1 = some a)) (hr : Aside0 (lex_Place.g s.size s a 0 1 1 = (r1, r2))) (w : World) :
    Calls Try.prog 14 #[.string s, .int .i64 a1] w fun e w' => e = .returned (.tuple #[.int .i64 r1, .int .i64 r2]) ∧ Below w.heap.size w w' := by
  go_enter Try.func14, Try.ntmps14
  go_wp2_with (go_at_call 18; refine (lex_within.calls s a1 a _ ha.out).mono ?_; rintro e w1 ⟨rfl, hb⟩; have HB := Aside0.mk hb; clear hb)
  go_loopw [6, 7] (fun l c wr => PlaceRel w1 s a r1 r2 l c wr) (fun _ _ wr => s.size + 8 - wr.iterPos w1.heap.size)
  case atStart => exact ⟨0, s.size, 1, 1, rfl, rfl, rfl, hr.out, by omega, by omega, by omega, by omega, by omega, by omega⟩
  case round =>
    obtain ⟨pos, b, x, y, rfl, rfl, rfl, hc0, hb0, hx0, hy0, hx, hy, hps⟩ := hrel
    have hc := Aside0.mk hc0
    have hb := Aside0.mk hb0
    clear hc0 hb0
    by_cases hp : pos < s.size
    · have hnx : ∀ ty, (Instr.next (.pointer (some ⟨w1.heap.size, 0, none⟩)) true ty).run Try.prog (w1.iter s pos) = _ := fun ty => run_next_any w1 s pos ty hp
      by_cases hpa : a ≤ (pos : Int)
      · go_wp2
        go_ret2
        have h4 := hc.out
        cases b with
        | zero => have := hb.out; omega
        | succ b =>
          rw [lex_Place.g, if_pos hp, if_pos hpa] at h4
          simp only [Prod.mk.injEq] at h4
          obtain ⟨rfl, rfl⟩ := h4
          exact ⟨rfl, iter_below HB.out _ _⟩
      · cases b with
        | zero => have := hb.out; omega
        | succ b =>
          have hwd := lex_width s pos hp
          have hsm := decode_small s pos
          by_cases h10 : ((Utf8.decode s pos).1 : Int) = 10
          · have R := Aside0.mk (PlaceRel.line (w := w1) hp hpa hc hb ⟨hx0, hy0, hx, hy⟩ h10)
            have h10' : ((((Utf8.decode s pos).1 : Nat) : Int) == 10) = true := beq_iff_eq.2 h10
            clear h10
            go_wp2
            go_roundw
            case rel => exact R.out
            case measure => simp; omega
          · have R := Aside0.mk (PlaceRel.stay (w := w1) hp hpa hc hb ⟨hx0, hy0, hx, hy⟩ h10)
            have h10' : ((((Utf8.decode s pos).1 : Nat) : Int) == 10) = false := beq_eq_false_iff_ne.2 h10
            clear h10
            go_wp2
            go_roundw
            case rel => exact R.out
            case measure => simp; omega
    · have hnx : ∀ ty, (Instr.next (.pointer (some ⟨w1.heap.size, 0, none⟩)) true ty).run Try.prog (w1.iter s pos) = _ := fun ty => run_next_end w1 s pos ty hp
      go_wp2
      go_ret2
      have h4 := hc.out
      rw [lex_Place.g_end s b a pos x y hp] at h4
      simp only [Prod.mk.injEq] at h4
      obtain ⟨rfl, rfl⟩ := h4
      exact ⟨rfl, iter_below HB.out _ _⟩
theorem lex_Place.calls (a0 : ByteArray) (a1 : Int) (r1 : Int) (r2 : Int) (w : World) (h : lex_Place.f a0 a1 = some (r1, r2)) :
    Calls Try.prog 14 #[.string a0, .int .i64 a1] w fun e w' => e = .returned (.tuple #[.int .i64 r1, .int .i64 r2]) ∧ Below w.heap.size w w' := by
  unfold lex_Place.f at h
  by_cases hs : a0.size ≤ 140737488351232
  · rw [if_pos hs] at h
    obtain ⟨t, ht, h⟩ := Option.bind_eq_some_iff.mp h
    exact lex_Place.walk a0 hs a1 t r1 r2 ⟨ht⟩ ⟨Option.some.inj h⟩ w
  · rw [if_neg hs] at h
    cases h
end Go.Proofs.Ytcnkicmemapicaa.F
