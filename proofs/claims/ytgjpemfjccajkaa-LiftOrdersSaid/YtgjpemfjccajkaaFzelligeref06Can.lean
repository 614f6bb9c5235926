/- The reference's Can (which points can be), in the print's form. -/
import Derived.Test.YtgjpemfjccajkaaWholeC
namespace Go.Proofs.Ytgjpemfjccajkaa.Whole
open Go Go.RowKit Go.Proofs.YtgjpemfjccajkaaW.PrintWords Go.Proofs.YtgjpemfjccajkaaW.PrintLast Go.Proofs.YtgjpemfjccajkaaW.PrintMore Go.Proofs.Ytgjpemfjccajkaa.F Go.Proofs.Ytgjpemfjccajkaa.Dig
set_option linter.unusedVariables false
set_option maxHeartbeats 1000000 in
theorem can_no (a b : Int) (ha : (Lit.int .i64 a).wf = true) (ha' : Sm a) (hq : Aside0 (decide (-1099511627776 ≤ a ∧ a ≤ 1099511627776) = false)) (w : World) :
    Calls Try.prog 16 #[.agg #[.int .i64 a, .int .i64 b]] w fun e w' => e = .returned (.bool false) ∧ Below w.heap.size w w' := by
  have HA := Aside0.mk ha
  have HM := Aside0.mk ha'
  clear ha ha'
  go_enter Try.func16, Try.ntmps16
  go_wp2_with fail
  obtain ⟨n0, bw⟩ := one_new w (.cells #[.int .i64 a, .int .i64 b] 28)
  generalize (w.alloc (.cells #[.int .i64 a, .int .i64 b] 28)) = W at n0 bw ⊢
  have Hb := Aside0.mk bw
  have d0 : W.cell? ⟨w.heap.size, 0, none⟩ = some (.int .i64 a) := (blk_cell n0 0).trans rfl
  have d1 : W.cell? ⟨w.heap.size, 1, none⟩ = some (.int .i64 b) := (blk_cell n0 1).trans rfl
  clear n0 bw
  go_wp2_with (first | (go_at_call 27; refine (long_c _ HA.out _).mono ?_; rintro e w1 ⟨v, rfl, hN, hb⟩; have HN := Aside0.mk hN; clear hN; obtain ⟨s1, A1, l1, cc1, rfl⟩ := HN.out.shape; have d0 := pw_cell_below hb d0; have d1 := pw_cell_below hb d1; have Hb := Aside0.mk (bthen hb Hb.out); clear hb) | (go_at_call 32; refine (in_c _ a HM.out _ HN.out).mono ?_; rw [hq.out]; rintro e w1 ⟨rfl, hb⟩; have d0 := pw_cell_below hb d0; have d1 := pw_cell_below hb d1; have Hb := Aside0.mk (bthen hb Hb.out); clear hb))
  go_ret
  exact ⟨rfl, Hb.out⟩
set_option maxHeartbeats 1000000 in
theorem can_yes (a b : Int) (ha : (Lit.int .i64 a).wf = true) (ha' : Sm a) (hb' : (Lit.int .i64 b).wf = true) (hb2 : Sm b) (hq : Aside0 (decide (-1099511627776 ≤ a ∧ a ≤ 1099511627776) = true)) (r : Bool) (hr : Aside0 (decide (-1099511627776 ≤ b ∧ b ≤ 1099511627776) = r)) (w : World) :
    Calls Try.prog 16 #[.agg #[.int .i64 a, .int .i64 b]] w fun e w' => e = .returned (.bool r) ∧ Below w.heap.size w w' := by
  have HA := Aside0.mk ha
  have HM := Aside0.mk ha'
  have HA2 := Aside0.mk hb'
  have HM2 := Aside0.mk hb2
  clear ha ha' hb' hb2
  go_enter Try.func16, Try.ntmps16
  go_wp2_with fail
  obtain ⟨n0, bw⟩ := one_new w (.cells #[.int .i64 a, .int .i64 b] 28)
  generalize (w.alloc (.cells #[.int .i64 a, .int .i64 b] 28)) = W at n0 bw ⊢
  have Hb := Aside0.mk bw
  have d0 : W.cell? ⟨w.heap.size, 0, none⟩ = some (.int .i64 a) := (blk_cell n0 0).trans rfl
  have d1 : W.cell? ⟨w.heap.size, 1, none⟩ = some (.int .i64 b) := (blk_cell n0 1).trans rfl
  clear n0 bw
  go_wp2_with fail
  refine (long_c _ HA.out _).mono ?_
  rintro e w1 ⟨v, rfl, hN, hb⟩
  have HN := Aside0.mk hN; clear hN; obtain ⟨s1, A1, l1, cc1, rfl⟩ := HN.out.shape
  have d0 := pw_cell_below hb d0; have d1 := pw_cell_below hb d1; have Hb := Aside0.mk (bthen hb Hb.out); clear hb
  go_wp2_with fail
  refine (in_c _ a HM.out _ HN.out).mono ?_
  rw [hq.out]
  rintro e w2 ⟨rfl, hb⟩
  have d0 := pw_cell_below hb d0; have d1 := pw_cell_below hb d1; have Hb := Aside0.mk (bthen hb Hb.out); clear hb
  go_wp2_with fail
  refine (long_c _ HA2.out _).mono ?_
  rintro e w3 ⟨v, rfl, hN, hb⟩
  have HN := Aside0.mk hN; clear hN; obtain ⟨s2, A2, l2, cc2, rfl⟩ := HN.out.shape
  have d0 := pw_cell_below hb d0; have d1 := pw_cell_below hb d1; have Hb := Aside0.mk (bthen hb Hb.out); clear hb
  go_wp2_with fail
  refine (in_c _ b HM2.out _ HN.out).mono ?_
  rw [hr.out]
  rintro e w4 ⟨rfl, hb⟩
  have Hb := Aside0.mk (bthen hb Hb.out); clear hb
  go_wp2
  go_ret
  exact ⟨rfl, Hb.out⟩
theorem Sm.i64 {n : Int} (h : -9223372036854775808 ≤ n ∧ n ≤ 9223372036854775807) : Sm n := Sm.of (by omega) (by omega)
theorem wf_of {n : Int} (h : -9223372036854775808 ≤ n ∧ n ≤ 9223372036854775807) : (Lit.int .i64 n).wf = true := WalkArith.wf_i64 (by omega)
end Go.Proofs.Ytgjpemfjccajkaa.Whole
namespace Go.Proofs.Ytgjpemfjccajkaa.F
open Go Go.RowKit Go.Proofs.YtgjpemfjccajkaaW.PrintWords Go.Proofs.YtgjpemfjccajkaaW.PrintLast Go.Proofs.YtgjpemfjccajkaaW.PrintMore Go.Proofs.Ytgjpemfjccajkaa.Whole
/-- Numbers of 64 bits. -/
abbrev I64 (n : Int) : Prop := -9223372036854775808 ≤ n ∧ n ≤ 9223372036854775807
abbrev InC (n : Int) : Prop := -1099511627776 ≤ n ∧ n ≤ 1099511627776
def zelligeref06_Can.f (a0_0 : Int) (a0_1 : Int) : Option Bool := if I64 a0_0 ∧ I64 a0_1 then some (decide (InC a0_0 ∧ InC a0_1)) else none
theorem zelligeref06_Can.calls (a0_0 : Int) (a0_1 : Int) (r : Bool) (w : World) (h : zelligeref06_Can.f a0_0 a0_1 = some r) :
    Calls Try.prog 16 #[.agg #[.int .i64 a0_0, .int .i64 a0_1]] w fun e w' => e = .returned (.bool r) ∧ Below w.heap.size w w' := by
  unfold zelligeref06_Can.f at h
  by_cases hb : I64 a0_0 ∧ I64 a0_1
  · rw [if_pos hb] at h
    obtain rfl := Option.some.inj h
    by_cases h1 : InC a0_0
    · refine can_yes a0_0 a0_1 (wf_of hb.1) (Sm.i64 hb.1) (wf_of hb.2) (Sm.i64 hb.2) ⟨decide_eq_true h1⟩ _ ⟨?_⟩ w
      rw [decide_eq_decide]
      exact ⟨fun h => ⟨h1, h⟩, fun h => h.2⟩
    · rw [show decide (InC a0_0 ∧ InC a0_1) = false from decide_eq_false (fun h => h1 h.1)]
      exact can_no a0_0 a0_1 (wf_of hb.1) (Sm.i64 hb.1) ⟨decide_eq_false h1⟩ w
  · rw [if_neg hb] at h
    cases h
end Go.Proofs.Ytgjpemfjccajkaa.F
