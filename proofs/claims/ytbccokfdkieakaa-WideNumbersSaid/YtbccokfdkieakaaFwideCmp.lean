/- wide.Cmp, in the print's form. -/
import Derived.Test.YtbccokfdkieakaaFwideadd
namespace Go.Proofs.Ytbccokfdkieakaa.F
open Go Go.RowKit Go.Proofs.YtbccokfdkieakaaW.PrintWords Go.Proofs.YtbccokfdkieakaaW.PrintLast Go.Proofs.YtbccokfdkieakaaW.PrintMore
set_option linter.unusedVariables false
def wide_Cmp.f (a0_0 : Int) (a0_1 : Int) (a1_0 : Int) (a1_1 : Int) : Option (Int) := if a0_0 = a1_0 ∧ a0_1 = a1_1 then some 0 else if a0_0 < a1_0 then some (-1) else if a0_0 = a1_0 ∧ a0_1 < a1_1 then some (-1) else some 1
theorem two_alloc (w : World) (o0 o1 : Obj) : Below w.heap.size w ((w.alloc o0).alloc o1) := ((Below.refl _ _).alloc (Nat.le_refl _) _).alloc (by simp) _
theorem wide_Cmp.calls (a0_0 : Int) (a0_1 : Int) (a1_0 : Int) (a1_1 : Int) (r : Int) (w : World) (h : wide_Cmp.f a0_0 a0_1 a1_0 a1_1 = some r) :
    Calls Try.prog 22 #[.agg #[.int .i64 a0_0, .int .u64 a0_1], .agg #[.int .i64 a1_0, .int .u64 a1_1]] w fun e w' => e = .returned (.int .i64 r) ∧ Below w.heap.size w w' := by
  unfold wide_Cmp.f at h
  by_cases c0 : a0_0 = a1_0
  · subst c0
    by_cases c1 : a0_1 = a1_1
    · subst c1
      rw [if_pos ⟨rfl, rfl⟩] at h
      obtain rfl := Option.some.inj h
      go_enter Try.func22, Try.ntmps22
      go_wp2
      go_ret
      exact ⟨rfl, two_alloc _ _ _⟩
    · rw [if_neg (fun k => c1 k.2), if_neg (by omega)] at h
      have d1 : (a0_1 == a1_1) = false := beq_eq_false_iff_ne.2 c1
      by_cases c2 : a0_1 < a1_1
      · rw [if_pos ⟨rfl, c2⟩] at h
        obtain rfl := Option.some.inj h
        have d2 : decide (a0_1 < a1_1) = true := decide_eq_true c2
        clear c1 c2 h
        go_enter Try.func22, Try.ntmps22
        go_wp2
        go_ret
        exact ⟨rfl, two_alloc _ _ _⟩
      · rw [if_neg (fun k => c2 k.2)] at h
        obtain rfl := Option.some.inj h
        have d2 : decide (a0_1 < a1_1) = false := decide_eq_false c2
        clear c1 c2 h
        go_enter Try.func22, Try.ntmps22
        go_wp2
        go_ret
        exact ⟨rfl, two_alloc _ _ _⟩
  · rw [if_neg (fun k => c0 k.1)] at h
    have d0 : (a0_0 == a1_0) = false := beq_eq_false_iff_ne.2 c0
    by_cases c2 : a0_0 < a1_0
    · rw [if_pos c2] at h
      obtain rfl := Option.some.inj h
      have d2 : decide (a0_0 < a1_0) = true := decide_eq_true c2
      clear c0 c2 h
      go_enter Try.func22, Try.ntmps22
      go_wp2
      go_ret
      exact ⟨rfl, two_alloc _ _ _⟩
    · rw [if_neg c2, if_neg (fun k => c0 k.1)] at h
      obtain rfl := Option.some.inj h
      have d2 : decide (a0_0 < a1_0) = false := decide_eq_false c2
      clear c0 c2 h
      go_enter Try.func22, Try.ntmps22
      go_wp2
      go_ret
      exact ⟨rfl, two_alloc _ _ _⟩
end Go.Proofs.Ytbccokfdkieakaa.F
