/- PredTurns: own texts in one (part 4 of 4): contracts of the functions that the law reaches. -/
import Derived.Test.YtmeckkckjikjiaaBPredTurnsc
import Derived.WideKeyPair

section
namespace Go.Proofs.Ytmeckkckjikjiaa.F
open Go.RowKit Go.Proofs.YtmeckkckjikjiaaW.PrintWords Go.Proofs.YtmeckkckjikjiaaW.PrintLast Go.Proofs.YtmeckkckjikjiaaW.PrintMore
attribute [local go_sem] max2_int min2_int max_two min_two max_three min_three max_four min_four   -- for this text's walks alone
set_option linter.unusedVariables false
set_option linter.unusedSimpArgs false

/-! ### zelligelaw07_lives: function 10 -/
def zelligelaw07_lives.f (k : Nat)  : Option (Bool) := (pred_InCircle.f k 0 0 1 0 1 1 0 1).bind fun t378 => (if t378 = 0 then ((pred_Orient.f k 0 0 1 0 1 1).bind fun t379 => (if t379 = 1 then ((pred_Where.f k 0 0 1 0 1 1 0 1).bind fun t380 => (some (t380 == (-1)))) else (some false))) else (some false))
theorem zelligelaw07_lives.mono : ∀ k, LeO (zelligelaw07_lives.f k ) (zelligelaw07_lives.f (k + 1) ) := by
  intro  k
  unfold zelligelaw07_lives.f
  repeat' first
      | (with_reducible exact pred_InCircle.mono _ _ _ _ _ _ _ _ _)
      | (with_reducible exact pred_Orient.mono _ _ _ _ _ _ _)
      | (with_reducible exact pred_Where.mono _ _ _ _ _ _ _ _ _)
      | (with_reducible exact LeO.refl _)
      | (with_reducible exact LeO.none _)
      | (with_reducible refine LeO.ite ?_ ?_)
      | (with_reducible refine LeO.bind ?_ (fun _ => ?_))
      | exact pred_InCircle.mono _ _ _ _ _ _ _ _ _
      | exact pred_Orient.mono _ _ _ _ _ _ _
      | exact pred_Where.mono _ _ _ _ _ _ _ _ _
      | exact LeO.none _
      | refine LeO.ite ?_ ?_
      | refine LeO.bind ?_ (fun _ => ?_)
set_option maxHeartbeats 8000000 in
set_option maxRecDepth 100000 in
theorem zelligelaw07_lives.calls (k : Nat)  (r : Bool) (w : World) (h : zelligelaw07_lives.f k  = some r) :
    Calls Try.prog 10 #[] w fun e w' => e = .returned (.bool r) ∧ Below w.heap.size w w' := by
  have hu23 := Try.underlying23
  have HB := Aside0.mk (Below.refl w.heap.size w)
  have H : ((pred_InCircle.f k 0 0 1 0 1 1 0 1).bind fun t378 => (if t378 = 0 then ((pred_Orient.f k 0 0 1 0 1 1).bind fun t379 => (if t379 = 1 then ((pred_Where.f k 0 0 1 0 1 1 0 1).bind fun t380 => (some (t380 == (-1)))) else (some false))) else (some false))) = some r := h
  clear h
  replace H := Option.bind_eq_some_iff.mp H
  obtain ⟨t378, A10, H⟩ := H
  replace H : (if t378 = 0 then ((pred_Orient.f k 0 0 1 0 1 1).bind fun t379 => (if t379 = 1 then ((pred_Where.f k 0 0 1 0 1 1 0 1).bind fun t380 => (some (t380 == (-1)))) else (some false))) else (some false)) = some r := H
  have A1 := Aside0.mk A10
  clear A10
  by_cases c2 : t378 = 0
  · rw [if_pos c2] at H
    have c2b0 : (t378 == 0) = true := beq_iff_eq.mpr c2
    have c2b1 : (t378 != 0) = false := bne_eq_false_iff_eq.mpr c2
    clear c2
    replace H := Option.bind_eq_some_iff.mp H
    obtain ⟨t379, A30, H⟩ := H
    replace H : (if t379 = 1 then ((pred_Where.f k 0 0 1 0 1 1 0 1).bind fun t380 => (some (t380 == (-1)))) else (some false)) = some r := H
    have A3 := Aside0.mk A30
    clear A30
    by_cases c4 : t379 = 1
    · rw [if_pos c4] at H
      have c4b0 : (t379 == 1) = true := beq_iff_eq.mpr c4
      have c4b1 : (t379 != 1) = false := bne_eq_false_iff_eq.mpr c4
      clear c4
      replace H := Option.bind_eq_some_iff.mp H
      obtain ⟨t380, A50, H⟩ := H
      replace H : (some (t380 == (-1))) = some r := H
      have A5 := Aside0.mk A50
      clear A50
      obtain rfl := Option.some.inj H
      go_enter Try.func10, Try.ntmps10
      go_wp2_with (first | ((with_reducible refine gate_dst (N := 1) rfl ?_); refine box_event ?hg (N := 1) ?hd (cs := #[.int .i64 0, .int .i64 0]) (t := 23) ?hr ?_; (case hd => rfl); (case hg => rfl); (case hr => first | (go_simp; done) | (go_simp; rfl)); intro gb374 hg w6 hbox hb; have n0_ := Aside0.mk (below_step (by repeat (first | (with_reducible first | exact HB.out | apply below_alloc | apply pw_below_drewN | apply below_drew1) | exact HB.out)) hb); have n1_ := Aside0.mk (hbox); have n2_ := Aside0.mk ((by rw [hg]; exact (below_size (by repeat (first | (with_reducible first | exact HB.out | apply below_alloc | apply pw_below_drewN | apply below_drew1) | exact HB.out))) : w.heap.size ≤ gb374)); have n3_ := Aside0.mk ((by rw [hg]; exact (below_size (by repeat (first | (with_reducible first | exact HB.out | apply below_alloc | apply pw_below_drewN | apply below_drew1) | exact HB.out))) : w.heap.size ≤ gb374)); clear HB; have HB := n0_; have BK374 := n1_; have GW374 := n2_; have GE374 := n3_; clear n0_ n1_ n2_ n3_; clear hb hbox hg) | ((with_reducible refine gate_dst (N := 2) rfl ?_); refine box_event ?hg (N := 2) ?hd (cs := #[.int .i64 0, .int .i64 0]) (t := 23) ?hr ?_; (case hd => rfl); (case hg => rfl); (case hr => first | (go_simp; done) | (go_simp; rfl)); intro gb375 hg w7 hbox hb; have n0_ := Aside0.mk (blk_below (g := gb374) (o := .cells #[.int .i64 0, .int .i64 0] 23 (0, 0)) (by (with_reducible repeat (first | refine blk_drewN ?_ _ | refine blk_drew ?_ | refine blk_alloc ?_ _)); exact BK374.out) hb); have n1_ := Aside0.mk (below_step (by repeat (first | (with_reducible first | exact HB.out | apply below_alloc | apply pw_below_drewN | apply below_drew1 | refine below_set ?_ GE374.out) | exact HB.out)) hb); have n2_ := Aside0.mk (hbox); have n3_ := Aside0.mk ((by rw [hg]; exact (below_size (by repeat (first | (with_reducible first | exact HB.out | apply below_alloc | apply pw_below_drewN | apply below_drew1 | refine below_set ?_ GE374.out) | exact HB.out))) : w.heap.size ≤ gb375)); have n4_ := Aside0.mk ((by rw [hg]; exact (below_size (by repeat (first | (with_reducible first | exact HB.out | apply below_alloc | apply pw_below_drewN | apply below_drew1 | refine below_set ?_ GE374.out) | exact HB.out))) : w.heap.size ≤ gb375)); have n5_ := Aside0.mk ((by rw [hg]; exact Nat.ne_of_lt (blk_lt (g := gb374) (o := .cells #[.int .i64 0, .int .i64 0] 23 (0, 0)) (by (with_reducible repeat (first | refine blk_drewN ?_ _ | refine blk_drew ?_ | refine blk_alloc ?_ _)); exact BK374.out)) : gb374 ≠ gb375)); have n6_ := Aside0.mk ((by rw [hg]; exact Nat.ne_of_gt (blk_lt (g := gb374) (o := .cells #[.int .i64 0, .int .i64 0] 23 (0, 0)) (by (with_reducible repeat (first | refine blk_drewN ?_ _ | refine blk_drew ?_ | refine blk_alloc ?_ _)); exact BK374.out)) : gb375 ≠ gb374)); clear BK374; clear HB; have BK374 := n0_; have HB := n1_; have BK375 := n2_; have GW375 := n3_; have GE375 := n4_; have NB374_375 := n5_; have NB375_374 := n6_; clear n0_ n1_ n2_ n3_ n4_ n5_ n6_; clear hb hbox hg) | ((with_reducible refine gate_dst (N := 3) rfl ?_); refine box_event ?hg (N := 3) ?hd (cs := #[.int .i64 0, .int .i64 0]) (t := 23) ?hr ?_; (case hd => rfl); (case hg => rfl); (case hr => first | (go_simp; done) | (go_simp; rfl)); intro gb376 hg w8 hbox hb; have n0_ := Aside0.mk (blk_below (g := gb374) (o := .cells #[.int .i64 0, .int .i64 0] 23 (0, 0)) (by (with_reducible repeat (first | refine blk_drewN ?_ _ | refine blk_drew ?_ | refine blk_alloc ?_ _)); exact BK374.out) hb); have n1_ := Aside0.mk (blk_below (g := gb375) (o := .cells #[.int .i64 0, .int .i64 0] 23 (0, 0)) (by (with_reducible repeat (first | refine blk_drewN ?_ _ | refine blk_drew ?_ | refine blk_alloc ?_ _)); exact BK375.out) hb); have n2_ := Aside0.mk (below_step (by repeat (first | (with_reducible first | exact HB.out | apply below_alloc | apply pw_below_drewN | apply below_drew1 | refine below_set ?_ GE374.out | refine below_set ?_ GE375.out) | exact HB.out)) hb); have n3_ := Aside0.mk (hbox); have n4_ := Aside0.mk ((by rw [hg]; exact (below_size (by repeat (first | (with_reducible first | exact HB.out | apply below_alloc | apply pw_below_drewN | apply below_drew1 | refine below_set ?_ GE374.out | refine below_set ?_ GE375.out) | exact HB.out))) : w.heap.size ≤ gb376)); have n5_ := Aside0.mk ((by rw [hg]; exact (below_size (by repeat (first | (with_reducible first | exact HB.out | apply below_alloc | apply pw_below_drewN | apply below_drew1 | refine below_set ?_ GE374.out | refine below_set ?_ GE375.out) | exact HB.out))) : w.heap.size ≤ gb376)); have n6_ := Aside0.mk ((by rw [hg]; exact Nat.ne_of_lt (blk_lt (g := gb374) (o := .cells #[.int .i64 0, .int .i64 0] 23 (0, 0)) (by (with_reducible repeat (first | refine blk_drewN ?_ _ | refine blk_drew ?_ | refine blk_alloc ?_ _)); exact BK374.out)) : gb374 ≠ gb376)); have n7_ := Aside0.mk ((by rw [hg]; exact Nat.ne_of_gt (blk_lt (g := gb374) (o := .cells #[.int .i64 0, .int .i64 0] 23 (0, 0)) (by (with_reducible repeat (first | refine blk_drewN ?_ _ | refine blk_drew ?_ | refine blk_alloc ?_ _)); exact BK374.out)) : gb376 ≠ gb374)); have n8_ := Aside0.mk ((by rw [hg]; exact Nat.ne_of_lt (blk_lt (g := gb375) (o := .cells #[.int .i64 0, .int .i64 0] 23 (0, 0)) (by (with_reducible repeat (first | refine blk_drewN ?_ _ | refine blk_drew ?_ | refine blk_alloc ?_ _)); exact BK375.out)) : gb375 ≠ gb376)); have n9_ := Aside0.mk ((by rw [hg]; exact Nat.ne_of_gt (blk_lt (g := gb375) (o := .cells #[.int .i64 0, .int .i64 0] 23 (0, 0)) (by (with_reducible repeat (first | refine blk_drewN ?_ _ | refine blk_drew ?_ | refine blk_alloc ?_ _)); exact BK375.out)) : gb376 ≠ gb375)); clear BK374; clear BK375; clear HB; have BK374 := n0_; have BK375 := n1_; have HB := n2_; have BK376 := n3_; have GW376 := n4_; have GE376 := n5_; have NB374_376 := n6_; have NB376_374 := n7_; have NB375_376 := n8_; have NB376_375 := n9_; clear n0_ n1_ n2_ n3_ n4_ n5_ n6_ n7_ n8_ n9_; clear hb hbox hg) | ((with_reducible refine gate_dst (N := 4) rfl ?_); refine box_event ?hg (N := 4) ?hd (cs := #[.int .i64 0, .int .i64 0]) (t := 23) ?hr ?_; (case hd => rfl); (case hg => rfl); (case hr => first | (go_simp; done) | (go_simp; rfl)); intro gb377 hg w9 hbox hb; have n0_ := Aside0.mk (blk_below (g := gb374) (o := .cells #[.int .i64 0, .int .i64 0] 23 (0, 0)) (by (with_reducible repeat (first | refine blk_drewN ?_ _ | refine blk_drew ?_ | refine blk_alloc ?_ _)); exact BK374.out) hb); have n1_ := Aside0.mk (blk_below (g := gb375) (o := .cells #[.int .i64 0, .int .i64 0] 23 (0, 0)) (by (with_reducible repeat (first | refine blk_drewN ?_ _ | refine blk_drew ?_ | refine blk_alloc ?_ _)); exact BK375.out) hb); have n2_ := Aside0.mk (blk_below (g := gb376) (o := .cells #[.int .i64 0, .int .i64 0] 23 (0, 0)) (by (with_reducible repeat (first | refine blk_drewN ?_ _ | refine blk_drew ?_ | refine blk_alloc ?_ _)); exact BK376.out) hb); have n3_ := Aside0.mk (below_step (by repeat (first | (with_reducible first | exact HB.out | apply below_alloc | apply pw_below_drewN | apply below_drew1 | refine below_set ?_ GE374.out | refine below_set ?_ GE375.out | refine below_set ?_ GE376.out) | exact HB.out)) hb); have n4_ := Aside0.mk (hbox); have n5_ := Aside0.mk ((by rw [hg]; exact (below_size (by repeat (first | (with_reducible first | exact HB.out | apply below_alloc | apply pw_below_drewN | apply below_drew1 | refine below_set ?_ GE374.out | refine below_set ?_ GE375.out | refine below_set ?_ GE376.out) | exact HB.out))) : w.heap.size ≤ gb377)); have n6_ := Aside0.mk ((by rw [hg]; exact (below_size (by repeat (first | (with_reducible first | exact HB.out | apply below_alloc | apply pw_below_drewN | apply below_drew1 | refine below_set ?_ GE374.out | refine below_set ?_ GE375.out | refine below_set ?_ GE376.out) | exact HB.out))) : w.heap.size ≤ gb377)); have n7_ := Aside0.mk ((by rw [hg]; exact Nat.ne_of_lt (blk_lt (g := gb374) (o := .cells #[.int .i64 0, .int .i64 0] 23 (0, 0)) (by (with_reducible repeat (first | refine blk_drewN ?_ _ | refine blk_drew ?_ | refine blk_alloc ?_ _)); exact BK374.out)) : gb374 ≠ gb377)); have n8_ := Aside0.mk ((by rw [hg]; exact Nat.ne_of_gt (blk_lt (g := gb374) (o := .cells #[.int .i64 0, .int .i64 0] 23 (0, 0)) (by (with_reducible repeat (first | refine blk_drewN ?_ _ | refine blk_drew ?_ | refine blk_alloc ?_ _)); exact BK374.out)) : gb377 ≠ gb374)); have n9_ := Aside0.mk ((by rw [hg]; exact Nat.ne_of_lt (blk_lt (g := gb375) (o := .cells #[.int .i64 0, .int .i64 0] 23 (0, 0)) (by (with_reducible repeat (first | refine blk_drewN ?_ _ | refine blk_drew ?_ | refine blk_alloc ?_ _)); exact BK375.out)) : gb375 ≠ gb377)); have n10_ := Aside0.mk ((by rw [hg]; exact Nat.ne_of_gt (blk_lt (g := gb375) (o := .cells #[.int .i64 0, .int .i64 0] 23 (0, 0)) (by (with_reducible repeat (first | refine blk_drewN ?_ _ | refine blk_drew ?_ | refine blk_alloc ?_ _)); exact BK375.out)) : gb377 ≠ gb375)); have n11_ := Aside0.mk ((by rw [hg]; exact Nat.ne_of_lt (blk_lt (g := gb376) (o := .cells #[.int .i64 0, .int .i64 0] 23 (0, 0)) (by (with_reducible repeat (first | refine blk_drewN ?_ _ | refine blk_drew ?_ | refine blk_alloc ?_ _)); exact BK376.out)) : gb376 ≠ gb377)); have n12_ := Aside0.mk ((by rw [hg]; exact Nat.ne_of_gt (blk_lt (g := gb376) (o := .cells #[.int .i64 0, .int .i64 0] 23 (0, 0)) (by (with_reducible repeat (first | refine blk_drewN ?_ _ | refine blk_drew ?_ | refine blk_alloc ?_ _)); exact BK376.out)) : gb377 ≠ gb376)); clear BK374; clear BK375; clear BK376; clear HB; have BK374 := n0_; have BK375 := n1_; have BK376 := n2_; have HB := n3_; have BK377 := n4_; have GW377 := n5_; have GE377 := n6_; have NB374_377 := n7_; have NB377_374 := n8_; have NB375_377 := n9_; have NB377_375 := n10_; have NB376_377 := n11_; have NB377_376 := n12_; clear n0_ n1_ n2_ n3_ n4_ n5_ n6_ n7_ n8_ n9_ n10_ n11_ n12_; clear hb hbox hg; have hnb10 := NB374_375.out; have hnc10 := NB375_374.out; have hnb11 := NB374_376.out; have hnc11 := NB376_374.out; have hnb12 := NB374_377.out; have hnc12 := NB377_374.out; have hcz13_0 : w9.cell? ⟨gb374, 0, none⟩ = some (.int .i64 0) := (blk_cell BK374.out 0).trans rfl; have hcz13_1 : w9.cell? ⟨gb374, 1, none⟩ = some (.int .i64 0) := (blk_cell BK374.out 1).trans rfl; have hfz13_0 := blk_frozen BK374.out 0; have hfz13_1 := blk_frozen BK374.out 1; have hnb14 := NB375_376.out; have hnc14 := NB376_375.out; have hnb15 := NB375_377.out; have hnc15 := NB377_375.out; have hcz16_0 : w9.cell? ⟨gb375, 0, none⟩ = some (.int .i64 0) := (blk_cell BK375.out 0).trans rfl; have hcz16_1 : w9.cell? ⟨gb375, 1, none⟩ = some (.int .i64 0) := (blk_cell BK375.out 1).trans rfl; have hfz16_0 := blk_frozen BK375.out 0; have hfz16_1 := blk_frozen BK375.out 1; have hnb17 := NB376_377.out; have hnc17 := NB377_376.out; have hcz18_0 : w9.cell? ⟨gb376, 0, none⟩ = some (.int .i64 0) := (blk_cell BK376.out 0).trans rfl; have hcz18_1 : w9.cell? ⟨gb376, 1, none⟩ = some (.int .i64 0) := (blk_cell BK376.out 1).trans rfl; have hfz18_0 := blk_frozen BK376.out 0; have hfz18_1 := blk_frozen BK376.out 1; have hcz19_0 : w9.cell? ⟨gb377, 0, none⟩ = some (.int .i64 0) := (blk_cell BK377.out 0).trans rfl; have hcz19_1 : w9.cell? ⟨gb377, 1, none⟩ = some (.int .i64 0) := (blk_cell BK377.out 1).trans rfl; have hfz19_0 := blk_frozen BK377.out 0; have hfz19_1 := blk_frozen BK377.out 1) | ((with_reducible refine gate_callee (f := 8) rfl ?_); refine goesL_ (some 13) rfl rfl Try.func8 (by kernel_rfl) rfl #[.agg #[.int .i64 0, .int .i64 0], .agg #[.int .i64 1, .int .i64 0], .agg #[.int .i64 1, .int .i64 1], .agg #[.int .i64 0, .int .i64 1]] rfl (by (try simp only [List.map_toArray, List.map_cons, List.map_nil]); first | done | rfl | (simp only [List.length_drop, List.length_take]; rfl)) ?_; (with_reducible refine (pred_InCircle.calls k 0 0 1 0 1 1 0 1 t378 _ A1.out).mono ?_); rintro e w20 ⟨rfl, hb⟩; refine ⟨_, rfl, ?_⟩; have n0_ := Aside0.mk (blk_below (g := gb374) (o := .cells #[.int .i64 0, .int .i64 0] 23 (0, 0)) (by (with_reducible repeat (first | refine blk_drewN ?_ _ | refine blk_drew ?_ | refine blk_alloc ?_ _)); refine blk_far ?_ NB374_377.out _; (with_reducible repeat (first | refine blk_drewN ?_ _ | refine blk_drew ?_ | refine blk_alloc ?_ _)); refine blk_far ?_ NB374_377.out _; (with_reducible repeat (first | refine blk_drewN ?_ _ | refine blk_drew ?_ | refine blk_alloc ?_ _)); refine blk_far ?_ NB374_376.out _; (with_reducible repeat (first | refine blk_drewN ?_ _ | refine blk_drew ?_ | refine blk_alloc ?_ _)); refine blk_far ?_ NB374_376.out _; (with_reducible repeat (first | refine blk_drewN ?_ _ | refine blk_drew ?_ | refine blk_alloc ?_ _)); refine blk_far ?_ NB374_375.out _; (with_reducible repeat (first | refine blk_drewN ?_ _ | refine blk_drew ?_ | refine blk_alloc ?_ _)); refine blk_far ?_ NB374_375.out _; (with_reducible repeat (first | refine blk_drewN ?_ _ | refine blk_drew ?_ | refine blk_alloc ?_ _)); refine blk_put (cs := #[.int .i64 0, .int .i64 0]) ?_ 1 _ rfl; (with_reducible repeat (first | refine blk_drewN ?_ _ | refine blk_drew ?_ | refine blk_alloc ?_ _)); refine blk_put (cs := #[.int .i64 0, .int .i64 0]) ?_ 0 _ rfl; (with_reducible repeat (first | refine blk_drewN ?_ _ | refine blk_drew ?_ | refine blk_alloc ?_ _)); exact BK374.out) hb); have n1_ := Aside0.mk (blk_below (g := gb375) (o := .cells #[.int .i64 1, .int .i64 0] 23 (0, 0)) (by (with_reducible repeat (first | refine blk_drewN ?_ _ | refine blk_drew ?_ | refine blk_alloc ?_ _)); refine blk_far ?_ NB375_377.out _; (with_reducible repeat (first | refine blk_drewN ?_ _ | refine blk_drew ?_ | refine blk_alloc ?_ _)); refine blk_far ?_ NB375_377.out _; (with_reducible repeat (first | refine blk_drewN ?_ _ | refine blk_drew ?_ | refine blk_alloc ?_ _)); refine blk_far ?_ NB375_376.out _; (with_reducible repeat (first | refine blk_drewN ?_ _ | refine blk_drew ?_ | refine blk_alloc ?_ _)); refine blk_far ?_ NB375_376.out _; (with_reducible repeat (first | refine blk_drewN ?_ _ | refine blk_drew ?_ | refine blk_alloc ?_ _)); refine blk_put (cs := #[.int .i64 1, .int .i64 0]) ?_ 1 _ rfl; (with_reducible repeat (first | refine blk_drewN ?_ _ | refine blk_drew ?_ | refine blk_alloc ?_ _)); refine blk_put (cs := #[.int .i64 0, .int .i64 0]) ?_ 0 _ rfl; (with_reducible repeat (first | refine blk_drewN ?_ _ | refine blk_drew ?_ | refine blk_alloc ?_ _)); refine blk_far ?_ NB375_374.out _; (with_reducible repeat (first | refine blk_drewN ?_ _ | refine blk_drew ?_ | refine blk_alloc ?_ _)); refine blk_far ?_ NB375_374.out _; (with_reducible repeat (first | refine blk_drewN ?_ _ | refine blk_drew ?_ | refine blk_alloc ?_ _)); exact BK375.out) hb); have n2_ := Aside0.mk (blk_below (g := gb376) (o := .cells #[.int .i64 1, .int .i64 1] 23 (0, 0)) (by (with_reducible repeat (first | refine blk_drewN ?_ _ | refine blk_drew ?_ | refine blk_alloc ?_ _)); refine blk_far ?_ NB376_377.out _; (with_reducible repeat (first | refine blk_drewN ?_ _ | refine blk_drew ?_ | refine blk_alloc ?_ _)); refine blk_far ?_ NB376_377.out _; (with_reducible repeat (first | refine blk_drewN ?_ _ | refine blk_drew ?_ | refine blk_alloc ?_ _)); refine blk_put (cs := #[.int .i64 1, .int .i64 0]) ?_ 1 _ rfl; (with_reducible repeat (first | refine blk_drewN ?_ _ | refine blk_drew ?_ | refine blk_alloc ?_ _)); refine blk_put (cs := #[.int .i64 0, .int .i64 0]) ?_ 0 _ rfl; (with_reducible repeat (first | refine blk_drewN ?_ _ | refine blk_drew ?_ | refine blk_alloc ?_ _)); refine blk_far ?_ NB376_375.out _; (with_reducible repeat (first | refine blk_drewN ?_ _ | refine blk_drew ?_ | refine blk_alloc ?_ _)); refine blk_far ?_ NB376_375.out _; (with_reducible repeat (first | refine blk_drewN ?_ _ | refine blk_drew ?_ | refine blk_alloc ?_ _)); refine blk_far ?_ NB376_374.out _; (with_reducible repeat (first | refine blk_drewN ?_ _ | refine blk_drew ?_ | refine blk_alloc ?_ _)); refine blk_far ?_ NB376_374.out _; (with_reducible repeat (first | refine blk_drewN ?_ _ | refine blk_drew ?_ | refine blk_alloc ?_ _)); exact BK376.out) hb); have n3_ := Aside0.mk (blk_below (g := gb377) (o := .cells #[.int .i64 0, .int .i64 1] 23 (0, 0)) (by (with_reducible repeat (first | refine blk_drewN ?_ _ | refine blk_drew ?_ | refine blk_alloc ?_ _)); refine blk_put (cs := #[.int .i64 0, .int .i64 0]) ?_ 1 _ rfl; (with_reducible repeat (first | refine blk_drewN ?_ _ | refine blk_drew ?_ | refine blk_alloc ?_ _)); refine blk_put (cs := #[.int .i64 0, .int .i64 0]) ?_ 0 _ rfl; (with_reducible repeat (first | refine blk_drewN ?_ _ | refine blk_drew ?_ | refine blk_alloc ?_ _)); refine blk_far ?_ NB377_376.out _; (with_reducible repeat (first | refine blk_drewN ?_ _ | refine blk_drew ?_ | refine blk_alloc ?_ _)); refine blk_far ?_ NB377_376.out _; (with_reducible repeat (first | refine blk_drewN ?_ _ | refine blk_drew ?_ | refine blk_alloc ?_ _)); refine blk_far ?_ NB377_375.out _; (with_reducible repeat (first | refine blk_drewN ?_ _ | refine blk_drew ?_ | refine blk_alloc ?_ _)); refine blk_far ?_ NB377_375.out _; (with_reducible repeat (first | refine blk_drewN ?_ _ | refine blk_drew ?_ | refine blk_alloc ?_ _)); refine blk_far ?_ NB377_374.out _; (with_reducible repeat (first | refine blk_drewN ?_ _ | refine blk_drew ?_ | refine blk_alloc ?_ _)); refine blk_far ?_ NB377_374.out _; (with_reducible repeat (first | refine blk_drewN ?_ _ | refine blk_drew ?_ | refine blk_alloc ?_ _)); exact BK377.out) hb); have n4_ := Aside0.mk (below_step (by repeat (first | (with_reducible first | exact HB.out | apply below_alloc | apply pw_below_drewN | apply below_drew1 | refine below_set ?_ GE374.out | refine below_set ?_ GE375.out | refine below_set ?_ GE376.out | refine below_set ?_ GE377.out) | exact HB.out)) hb); clear BK374; clear BK375; clear BK376; clear BK377; clear HB; have BK374 := n0_; have BK375 := n1_; have BK376 := n2_; have BK377 := n3_; have HB := n4_; clear n0_ n1_ n2_ n3_ n4_; (try clear hb); (try clear hb2); (try clear hk); (try clear hi); have hcz21_0 : w20.cell? ⟨gb374, 0, none⟩ = some (.int .i64 0) := (blk_cell BK374.out 0).trans rfl; have hcz21_1 : w20.cell? ⟨gb374, 1, none⟩ = some (.int .i64 0) := (blk_cell BK374.out 1).trans rfl; have hfz21_0 := blk_frozen BK374.out 0; have hfz21_1 := blk_frozen BK374.out 1; have hcz22_0 : w20.cell? ⟨gb375, 0, none⟩ = some (.int .i64 1) := (blk_cell BK375.out 0).trans rfl; have hcz22_1 : w20.cell? ⟨gb375, 1, none⟩ = some (.int .i64 0) := (blk_cell BK375.out 1).trans rfl; have hfz22_0 := blk_frozen BK375.out 0; have hfz22_1 := blk_frozen BK375.out 1; have hcz23_0 : w20.cell? ⟨gb376, 0, none⟩ = some (.int .i64 1) := (blk_cell BK376.out 0).trans rfl; have hcz23_1 : w20.cell? ⟨gb376, 1, none⟩ = some (.int .i64 1) := (blk_cell BK376.out 1).trans rfl; have hfz23_0 := blk_frozen BK376.out 0; have hfz23_1 := blk_frozen BK376.out 1) | (go_at_call 14; (with_reducible refine (pred_Orient.calls k 0 0 1 0 1 1 t379 _ A3.out).mono ?_); rintro e w24 ⟨rfl, hb⟩; have n0_ := Aside0.mk (blk_below (g := gb374) (o := .cells #[.int .i64 0, .int .i64 0] 23 (0, 0)) (by (with_reducible repeat (first | refine blk_drewN ?_ _ | refine blk_drew ?_ | refine blk_alloc ?_ _)); exact BK374.out) hb); have n1_ := Aside0.mk (blk_below (g := gb375) (o := .cells #[.int .i64 1, .int .i64 0] 23 (0, 0)) (by (with_reducible repeat (first | refine blk_drewN ?_ _ | refine blk_drew ?_ | refine blk_alloc ?_ _)); exact BK375.out) hb); have n2_ := Aside0.mk (blk_below (g := gb376) (o := .cells #[.int .i64 1, .int .i64 1] 23 (0, 0)) (by (with_reducible repeat (first | refine blk_drewN ?_ _ | refine blk_drew ?_ | refine blk_alloc ?_ _)); exact BK376.out) hb); have n3_ := Aside0.mk (blk_below (g := gb377) (o := .cells #[.int .i64 0, .int .i64 1] 23 (0, 0)) (by (with_reducible repeat (first | refine blk_drewN ?_ _ | refine blk_drew ?_ | refine blk_alloc ?_ _)); exact BK377.out) hb); have n4_ := Aside0.mk (below_step (by repeat (first | (with_reducible first | exact HB.out | apply below_alloc | apply pw_below_drewN | apply below_drew1 | refine below_set ?_ GE374.out | refine below_set ?_ GE375.out | refine below_set ?_ GE376.out | refine below_set ?_ GE377.out) | exact HB.out)) hb); clear BK374; clear BK375; clear BK376; clear BK377; clear HB; have BK374 := n0_; have BK375 := n1_; have BK376 := n2_; have BK377 := n3_; have HB := n4_; clear n0_ n1_ n2_ n3_ n4_; (try clear hb); (try clear hb2); (try clear hk); (try clear hi); have hcz25_0 : w24.cell? ⟨gb374, 0, none⟩ = some (.int .i64 0) := (blk_cell BK374.out 0).trans rfl; have hcz25_1 : w24.cell? ⟨gb374, 1, none⟩ = some (.int .i64 0) := (blk_cell BK374.out 1).trans rfl; have hfz25_0 := blk_frozen BK374.out 0; have hfz25_1 := blk_frozen BK374.out 1; have hcz26_0 : w24.cell? ⟨gb375, 0, none⟩ = some (.int .i64 1) := (blk_cell BK375.out 0).trans rfl; have hcz26_1 : w24.cell? ⟨gb375, 1, none⟩ = some (.int .i64 0) := (blk_cell BK375.out 1).trans rfl; have hfz26_0 := blk_frozen BK375.out 0; have hfz26_1 := blk_frozen BK375.out 1; have hcz27_0 : w24.cell? ⟨gb376, 0, none⟩ = some (.int .i64 1) := (blk_cell BK376.out 0).trans rfl; have hcz27_1 : w24.cell? ⟨gb376, 1, none⟩ = some (.int .i64 1) := (blk_cell BK376.out 1).trans rfl; have hfz27_0 := blk_frozen BK376.out 0; have hfz27_1 := blk_frozen BK376.out 1; have hcz28_0 : w24.cell? ⟨gb377, 0, none⟩ = some (.int .i64 0) := (blk_cell BK377.out 0).trans rfl; have hcz28_1 : w24.cell? ⟨gb377, 1, none⟩ = some (.int .i64 1) := (blk_cell BK377.out 1).trans rfl; have hfz28_0 := blk_frozen BK377.out 0; have hfz28_1 := blk_frozen BK377.out 1) | (go_at_call 12; (with_reducible refine (pred_Where.calls k 0 0 1 0 1 1 0 1 t380 _ A5.out).mono ?_); rintro e w29 ⟨rfl, hb⟩; have n0_ := Aside0.mk (blk_below (g := gb374) (o := .cells #[.int .i64 0, .int .i64 0] 23 (0, 0)) (by (with_reducible repeat (first | refine blk_drewN ?_ _ | refine blk_drew ?_ | refine blk_alloc ?_ _)); exact BK374.out) hb); have n1_ := Aside0.mk (blk_below (g := gb375) (o := .cells #[.int .i64 1, .int .i64 0] 23 (0, 0)) (by (with_reducible repeat (first | refine blk_drewN ?_ _ | refine blk_drew ?_ | refine blk_alloc ?_ _)); exact BK375.out) hb); have n2_ := Aside0.mk (blk_below (g := gb376) (o := .cells #[.int .i64 1, .int .i64 1] 23 (0, 0)) (by (with_reducible repeat (first | refine blk_drewN ?_ _ | refine blk_drew ?_ | refine blk_alloc ?_ _)); exact BK376.out) hb); have n3_ := Aside0.mk (blk_below (g := gb377) (o := .cells #[.int .i64 0, .int .i64 1] 23 (0, 0)) (by (with_reducible repeat (first | refine blk_drewN ?_ _ | refine blk_drew ?_ | refine blk_alloc ?_ _)); exact BK377.out) hb); have n4_ := Aside0.mk (below_step (by repeat (first | (with_reducible first | exact HB.out | apply below_alloc | apply pw_below_drewN | apply below_drew1 | refine below_set ?_ GE374.out | refine below_set ?_ GE375.out | refine below_set ?_ GE376.out | refine below_set ?_ GE377.out) | exact HB.out)) hb); clear BK374; clear BK375; clear BK376; clear BK377; clear HB; have BK374 := n0_; have BK375 := n1_; have BK376 := n2_; have BK377 := n3_; have HB := n4_; clear n0_ n1_ n2_ n3_ n4_; (try clear hb); (try clear hb2); (try clear hk); (try clear hi)))
      go_ret
      exact ⟨by first | rfl | (simp [errW_none, errW_some] <;> rfl) | (simp [*, errW_none, errW_some] <;> rfl), by repeat (first | (with_reducible first | exact HB.out | apply below_alloc | apply pw_below_drewN | apply below_drew1 | refine below_set ?_ GE374.out | refine below_set ?_ GE375.out | refine below_set ?_ GE376.out | refine below_set ?_ GE377.out) | exact HB.out)⟩
    · rw [if_neg c4] at H
      have c4b0 : (t379 == 1) = false := beq_eq_false_iff_ne.mpr c4
      have c4b1 : (t379 != 1) = true := bne_iff_ne.mpr c4
      obtain rfl := Option.some.inj H
      go_enter Try.func10, Try.ntmps10
      go_wp2_with (first | ((with_reducible refine gate_dst (N := 1) rfl ?_); refine box_event ?hg (N := 1) ?hd (cs := #[.int .i64 0, .int .i64 0]) (t := 23) ?hr ?_; (case hd => rfl); (case hg => rfl); (case hr => first | (go_simp; done) | (go_simp; rfl)); intro gb374 hg w30 hbox hb; have n0_ := Aside0.mk (below_step (by repeat (first | (with_reducible first | exact HB.out | apply below_alloc | apply pw_below_drewN | apply below_drew1) | exact HB.out)) hb); have n1_ := Aside0.mk (hbox); have n2_ := Aside0.mk ((by rw [hg]; exact (below_size (by repeat (first | (with_reducible first | exact HB.out | apply below_alloc | apply pw_below_drewN | apply below_drew1) | exact HB.out))) : w.heap.size ≤ gb374)); have n3_ := Aside0.mk ((by rw [hg]; exact (below_size (by repeat (first | (with_reducible first | exact HB.out | apply below_alloc | apply pw_below_drewN | apply below_drew1) | exact HB.out))) : w.heap.size ≤ gb374)); clear HB; have HB := n0_; have BK374 := n1_; have GW374 := n2_; have GE374 := n3_; clear n0_ n1_ n2_ n3_; clear hb hbox hg) | ((with_reducible refine gate_dst (N := 2) rfl ?_); refine box_event ?hg (N := 2) ?hd (cs := #[.int .i64 0, .int .i64 0]) (t := 23) ?hr ?_; (case hd => rfl); (case hg => rfl); (case hr => first | (go_simp; done) | (go_simp; rfl)); intro gb375 hg w31 hbox hb; have n0_ := Aside0.mk (blk_below (g := gb374) (o := .cells #[.int .i64 0, .int .i64 0] 23 (0, 0)) (by (with_reducible repeat (first | refine blk_drewN ?_ _ | refine blk_drew ?_ | refine blk_alloc ?_ _)); exact BK374.out) hb); have n1_ := Aside0.mk (below_step (by repeat (first | (with_reducible first | exact HB.out | apply below_alloc | apply pw_below_drewN | apply below_drew1 | refine below_set ?_ GE374.out) | exact HB.out)) hb); have n2_ := Aside0.mk (hbox); have n3_ := Aside0.mk ((by rw [hg]; exact (below_size (by repeat (first | (with_reducible first | exact HB.out | apply below_alloc | apply pw_below_drewN | apply below_drew1 | refine below_set ?_ GE374.out) | exact HB.out))) : w.heap.size ≤ gb375)); have n4_ := Aside0.mk ((by rw [hg]; exact (below_size (by repeat (first | (with_reducible first | exact HB.out | apply below_alloc | apply pw_below_drewN | apply below_drew1 | refine below_set ?_ GE374.out) | exact HB.out))) : w.heap.size ≤ gb375)); have n5_ := Aside0.mk ((by rw [hg]; exact Nat.ne_of_lt (blk_lt (g := gb374) (o := .cells #[.int .i64 0, .int .i64 0] 23 (0, 0)) (by (with_reducible repeat (first | refine blk_drewN ?_ _ | refine blk_drew ?_ | refine blk_alloc ?_ _)); exact BK374.out)) : gb374 ≠ gb375)); have n6_ := Aside0.mk ((by rw [hg]; exact Nat.ne_of_gt (blk_lt (g := gb374) (o := .cells #[.int .i64 0, .int .i64 0] 23 (0, 0)) (by (with_reducible repeat (first | refine blk_drewN ?_ _ | refine blk_drew ?_ | refine blk_alloc ?_ _)); exact BK374.out)) : gb375 ≠ gb374)); clear BK374; clear HB; have BK374 := n0_; have HB := n1_; have BK375 := n2_; have GW375 := n3_; have GE375 := n4_; have NB374_375 := n5_; have NB375_374 := n6_; clear n0_ n1_ n2_ n3_ n4_ n5_ n6_; clear hb hbox hg) | ((with_reducible refine gate_dst (N := 3) rfl ?_); refine box_event ?hg (N := 3) ?hd (cs := #[.int .i64 0, .int .i64 0]) (t := 23) ?hr ?_; (case hd => rfl); (case hg => rfl); (case hr => first | (go_simp; done) | (go_simp; rfl)); intro gb376 hg w32 hbox hb; have n0_ := Aside0.mk (blk_below (g := gb374) (o := .cells #[.int .i64 0, .int .i64 0] 23 (0, 0)) (by (with_reducible repeat (first | refine blk_drewN ?_ _ | refine blk_drew ?_ | refine blk_alloc ?_ _)); exact BK374.out) hb); have n1_ := Aside0.mk (blk_below (g := gb375) (o := .cells #[.int .i64 0, .int .i64 0] 23 (0, 0)) (by (with_reducible repeat (first | refine blk_drewN ?_ _ | refine blk_drew ?_ | refine blk_alloc ?_ _)); exact BK375.out) hb); have n2_ := Aside0.mk (below_step (by repeat (first | (with_reducible first | exact HB.out | apply below_alloc | apply pw_below_drewN | apply below_drew1 | refine below_set ?_ GE374.out | refine below_set ?_ GE375.out) | exact HB.out)) hb); have n3_ := Aside0.mk (hbox); have n4_ := Aside0.mk ((by rw [hg]; exact (below_size (by repeat (first | (with_reducible first | exact HB.out | apply below_alloc | apply pw_below_drewN | apply below_drew1 | refine below_set ?_ GE374.out | refine below_set ?_ GE375.out) | exact HB.out))) : w.heap.size ≤ gb376)); have n5_ := Aside0.mk ((by rw [hg]; exact (below_size (by repeat (first | (with_reducible first | exact HB.out | apply below_alloc | apply pw_below_drewN | apply below_drew1 | refine below_set ?_ GE374.out | refine below_set ?_ GE375.out) | exact HB.out))) : w.heap.size ≤ gb376)); have n6_ := Aside0.mk ((by rw [hg]; exact Nat.ne_of_lt (blk_lt (g := gb374) (o := .cells #[.int .i64 0, .int .i64 0] 23 (0, 0)) (by (with_reducible repeat (first | refine blk_drewN ?_ _ | refine blk_drew ?_ | refine blk_alloc ?_ _)); exact BK374.out)) : gb374 ≠ gb376)); have n7_ := Aside0.mk ((by rw [hg]; exact Nat.ne_of_gt (blk_lt (g := gb374) (o := .cells #[.int .i64 0, .int .i64 0] 23 (0, 0)) (by (with_reducible repeat (first | refine blk_drewN ?_ _ | refine blk_drew ?_ | refine blk_alloc ?_ _)); exact BK374.out)) : gb376 ≠ gb374)); have n8_ := Aside0.mk ((by rw [hg]; exact Nat.ne_of_lt (blk_lt (g := gb375) (o := .cells #[.int .i64 0, .int .i64 0] 23 (0, 0)) (by (with_reducible repeat (first | refine blk_drewN ?_ _ | refine blk_drew ?_ | refine blk_alloc ?_ _)); exact BK375.out)) : gb375 ≠ gb376)); have n9_ := Aside0.mk ((by rw [hg]; exact Nat.ne_of_gt (blk_lt (g := gb375) (o := .cells #[.int .i64 0, .int .i64 0] 23 (0, 0)) (by (with_reducible repeat (first | refine blk_drewN ?_ _ | refine blk_drew ?_ | refine blk_alloc ?_ _)); exact BK375.out)) : gb376 ≠ gb375)); clear BK374; clear BK375; clear HB; have BK374 := n0_; have BK375 := n1_; have HB := n2_; have BK376 := n3_; have GW376 := n4_; have GE376 := n5_; have NB374_376 := n6_; have NB376_374 := n7_; have NB375_376 := n8_; have NB376_375 := n9_; clear n0_ n1_ n2_ n3_ n4_ n5_ n6_ n7_ n8_ n9_; clear hb hbox hg) | ((with_reducible refine gate_dst (N := 4) rfl ?_); refine box_event ?hg (N := 4) ?hd (cs := #[.int .i64 0, .int .i64 0]) (t := 23) ?hr ?_; (case hd => rfl); (case hg => rfl); (case hr => first | (go_simp; done) | (go_simp; rfl)); intro gb377 hg w33 hbox hb; have n0_ := Aside0.mk (blk_below (g := gb374) (o := .cells #[.int .i64 0, .int .i64 0] 23 (0, 0)) (by (with_reducible repeat (first | refine blk_drewN ?_ _ | refine blk_drew ?_ | refine blk_alloc ?_ _)); exact BK374.out) hb); have n1_ := Aside0.mk (blk_below (g := gb375) (o := .cells #[.int .i64 0, .int .i64 0] 23 (0, 0)) (by (with_reducible repeat (first | refine blk_drewN ?_ _ | refine blk_drew ?_ | refine blk_alloc ?_ _)); exact BK375.out) hb); have n2_ := Aside0.mk (blk_below (g := gb376) (o := .cells #[.int .i64 0, .int .i64 0] 23 (0, 0)) (by (with_reducible repeat (first | refine blk_drewN ?_ _ | refine blk_drew ?_ | refine blk_alloc ?_ _)); exact BK376.out) hb); have n3_ := Aside0.mk (below_step (by repeat (first | (with_reducible first | exact HB.out | apply below_alloc | apply pw_below_drewN | apply below_drew1 | refine below_set ?_ GE374.out | refine below_set ?_ GE375.out | refine below_set ?_ GE376.out) | exact HB.out)) hb); have n4_ := Aside0.mk (hbox); have n5_ := Aside0.mk ((by rw [hg]; exact (below_size (by repeat (first | (with_reducible first | exact HB.out | apply below_alloc | apply pw_below_drewN | apply below_drew1 | refine below_set ?_ GE374.out | refine below_set ?_ GE375.out | refine below_set ?_ GE376.out) | exact HB.out))) : w.heap.size ≤ gb377)); have n6_ := Aside0.mk ((by rw [hg]; exact (below_size (by repeat (first | (with_reducible first | exact HB.out | apply below_alloc | apply pw_below_drewN | apply below_drew1 | refine below_set ?_ GE374.out | refine below_set ?_ GE375.out | refine below_set ?_ GE376.out) | exact HB.out))) : w.heap.size ≤ gb377)); have n7_ := Aside0.mk ((by rw [hg]; exact Nat.ne_of_lt (blk_lt (g := gb374) (o := .cells #[.int .i64 0, .int .i64 0] 23 (0, 0)) (by (with_reducible repeat (first | refine blk_drewN ?_ _ | refine blk_drew ?_ | refine blk_alloc ?_ _)); exact BK374.out)) : gb374 ≠ gb377)); have n8_ := Aside0.mk ((by rw [hg]; exact Nat.ne_of_gt (blk_lt (g := gb374) (o := .cells #[.int .i64 0, .int .i64 0] 23 (0, 0)) (by (with_reducible repeat (first | refine blk_drewN ?_ _ | refine blk_drew ?_ | refine blk_alloc ?_ _)); exact BK374.out)) : gb377 ≠ gb374)); have n9_ := Aside0.mk ((by rw [hg]; exact Nat.ne_of_lt (blk_lt (g := gb375) (o := .cells #[.int .i64 0, .int .i64 0] 23 (0, 0)) (by (with_reducible repeat (first | refine blk_drewN ?_ _ | refine blk_drew ?_ | refine blk_alloc ?_ _)); exact BK375.out)) : gb375 ≠ gb377)); have n10_ := Aside0.mk ((by rw [hg]; exact Nat.ne_of_gt (blk_lt (g := gb375) (o := .cells #[.int .i64 0, .int .i64 0] 23 (0, 0)) (by (with_reducible repeat (first | refine blk_drewN ?_ _ | refine blk_drew ?_ | refine blk_alloc ?_ _)); exact BK375.out)) : gb377 ≠ gb375)); have n11_ := Aside0.mk ((by rw [hg]; exact Nat.ne_of_lt (blk_lt (g := gb376) (o := .cells #[.int .i64 0, .int .i64 0] 23 (0, 0)) (by (with_reducible repeat (first | refine blk_drewN ?_ _ | refine blk_drew ?_ | refine blk_alloc ?_ _)); exact BK376.out)) : gb376 ≠ gb377)); have n12_ := Aside0.mk ((by rw [hg]; exact Nat.ne_of_gt (blk_lt (g := gb376) (o := .cells #[.int .i64 0, .int .i64 0] 23 (0, 0)) (by (with_reducible repeat (first | refine blk_drewN ?_ _ | refine blk_drew ?_ | refine blk_alloc ?_ _)); exact BK376.out)) : gb377 ≠ gb376)); clear BK374; clear BK375; clear BK376; clear HB; have BK374 := n0_; have BK375 := n1_; have BK376 := n2_; have HB := n3_; have BK377 := n4_; have GW377 := n5_; have GE377 := n6_; have NB374_377 := n7_; have NB377_374 := n8_; have NB375_377 := n9_; have NB377_375 := n10_; have NB376_377 := n11_; have NB377_376 := n12_; clear n0_ n1_ n2_ n3_ n4_ n5_ n6_ n7_ n8_ n9_ n10_ n11_ n12_; clear hb hbox hg; have hnb34 := NB374_375.out; have hnc34 := NB375_374.out; have hnb35 := NB374_376.out; have hnc35 := NB376_374.out; have hnb36 := NB374_377.out; have hnc36 := NB377_374.out; have hcz37_0 : w33.cell? ⟨gb374, 0, none⟩ = some (.int .i64 0) := (blk_cell BK374.out 0).trans rfl; have hcz37_1 : w33.cell? ⟨gb374, 1, none⟩ = some (.int .i64 0) := (blk_cell BK374.out 1).trans rfl; have hfz37_0 := blk_frozen BK374.out 0; have hfz37_1 := blk_frozen BK374.out 1; have hnb38 := NB375_376.out; have hnc38 := NB376_375.out; have hnb39 := NB375_377.out; have hnc39 := NB377_375.out; have hcz40_0 : w33.cell? ⟨gb375, 0, none⟩ = some (.int .i64 0) := (blk_cell BK375.out 0).trans rfl; have hcz40_1 : w33.cell? ⟨gb375, 1, none⟩ = some (.int .i64 0) := (blk_cell BK375.out 1).trans rfl; have hfz40_0 := blk_frozen BK375.out 0; have hfz40_1 := blk_frozen BK375.out 1; have hnb41 := NB376_377.out; have hnc41 := NB377_376.out; have hcz42_0 : w33.cell? ⟨gb376, 0, none⟩ = some (.int .i64 0) := (blk_cell BK376.out 0).trans rfl; have hcz42_1 : w33.cell? ⟨gb376, 1, none⟩ = some (.int .i64 0) := (blk_cell BK376.out 1).trans rfl; have hfz42_0 := blk_frozen BK376.out 0; have hfz42_1 := blk_frozen BK376.out 1; have hcz43_0 : w33.cell? ⟨gb377, 0, none⟩ = some (.int .i64 0) := (blk_cell BK377.out 0).trans rfl; have hcz43_1 : w33.cell? ⟨gb377, 1, none⟩ = some (.int .i64 0) := (blk_cell BK377.out 1).trans rfl; have hfz43_0 := blk_frozen BK377.out 0; have hfz43_1 := blk_frozen BK377.out 1) | ((with_reducible refine gate_callee (f := 8) rfl ?_); refine goesL_ (some 13) rfl rfl Try.func8 (by kernel_rfl) rfl #[.agg #[.int .i64 0, .int .i64 0], .agg #[.int .i64 1, .int .i64 0], .agg #[.int .i64 1, .int .i64 1], .agg #[.int .i64 0, .int .i64 1]] rfl (by (try simp only [List.map_toArray, List.map_cons, List.map_nil]); first | done | rfl | (simp only [List.length_drop, List.length_take]; rfl)) ?_; (with_reducible refine (pred_InCircle.calls k 0 0 1 0 1 1 0 1 t378 _ A1.out).mono ?_); rintro e w44 ⟨rfl, hb⟩; refine ⟨_, rfl, ?_⟩; have n0_ := Aside0.mk (blk_below (g := gb374) (o := .cells #[.int .i64 0, .int .i64 0] 23 (0, 0)) (by (with_reducible repeat (first | refine blk_drewN ?_ _ | refine blk_drew ?_ | refine blk_alloc ?_ _)); refine blk_far ?_ NB374_377.out _; (with_reducible repeat (first | refine blk_drewN ?_ _ | refine blk_drew ?_ | refine blk_alloc ?_ _)); refine blk_far ?_ NB374_377.out _; (with_reducible repeat (first | refine blk_drewN ?_ _ | refine blk_drew ?_ | refine blk_alloc ?_ _)); refine blk_far ?_ NB374_376.out _; (with_reducible repeat (first | refine blk_drewN ?_ _ | refine blk_drew ?_ | refine blk_alloc ?_ _)); refine blk_far ?_ NB374_376.out _; (with_reducible repeat (first | refine blk_drewN ?_ _ | refine blk_drew ?_ | refine blk_alloc ?_ _)); refine blk_far ?_ NB374_375.out _; (with_reducible repeat (first | refine blk_drewN ?_ _ | refine blk_drew ?_ | refine blk_alloc ?_ _)); refine blk_far ?_ NB374_375.out _; (with_reducible repeat (first | refine blk_drewN ?_ _ | refine blk_drew ?_ | refine blk_alloc ?_ _)); refine blk_put (cs := #[.int .i64 0, .int .i64 0]) ?_ 1 _ rfl; (with_reducible repeat (first | refine blk_drewN ?_ _ | refine blk_drew ?_ | refine blk_alloc ?_ _)); refine blk_put (cs := #[.int .i64 0, .int .i64 0]) ?_ 0 _ rfl; (with_reducible repeat (first | refine blk_drewN ?_ _ | refine blk_drew ?_ | refine blk_alloc ?_ _)); exact BK374.out) hb); have n1_ := Aside0.mk (blk_below (g := gb375) (o := .cells #[.int .i64 1, .int .i64 0] 23 (0, 0)) (by (with_reducible repeat (first | refine blk_drewN ?_ _ | refine blk_drew ?_ | refine blk_alloc ?_ _)); refine blk_far ?_ NB375_377.out _; (with_reducible repeat (first | refine blk_drewN ?_ _ | refine blk_drew ?_ | refine blk_alloc ?_ _)); refine blk_far ?_ NB375_377.out _; (with_reducible repeat (first | refine blk_drewN ?_ _ | refine blk_drew ?_ | refine blk_alloc ?_ _)); refine blk_far ?_ NB375_376.out _; (with_reducible repeat (first | refine blk_drewN ?_ _ | refine blk_drew ?_ | refine blk_alloc ?_ _)); refine blk_far ?_ NB375_376.out _; (with_reducible repeat (first | refine blk_drewN ?_ _ | refine blk_drew ?_ | refine blk_alloc ?_ _)); refine blk_put (cs := #[.int .i64 1, .int .i64 0]) ?_ 1 _ rfl; (with_reducible repeat (first | refine blk_drewN ?_ _ | refine blk_drew ?_ | refine blk_alloc ?_ _)); refine blk_put (cs := #[.int .i64 0, .int .i64 0]) ?_ 0 _ rfl; (with_reducible repeat (first | refine blk_drewN ?_ _ | refine blk_drew ?_ | refine blk_alloc ?_ _)); refine blk_far ?_ NB375_374.out _; (with_reducible repeat (first | refine blk_drewN ?_ _ | refine blk_drew ?_ | refine blk_alloc ?_ _)); refine blk_far ?_ NB375_374.out _; (with_reducible repeat (first | refine blk_drewN ?_ _ | refine blk_drew ?_ | refine blk_alloc ?_ _)); exact BK375.out) hb); have n2_ := Aside0.mk (blk_below (g := gb376) (o := .cells #[.int .i64 1, .int .i64 1] 23 (0, 0)) (by (with_reducible repeat (first | refine blk_drewN ?_ _ | refine blk_drew ?_ | refine blk_alloc ?_ _)); refine blk_far ?_ NB376_377.out _; (with_reducible repeat (first | refine blk_drewN ?_ _ | refine blk_drew ?_ | refine blk_alloc ?_ _)); refine blk_far ?_ NB376_377.out _; (with_reducible repeat (first | refine blk_drewN ?_ _ | refine blk_drew ?_ | refine blk_alloc ?_ _)); refine blk_put (cs := #[.int .i64 1, .int .i64 0]) ?_ 1 _ rfl; (with_reducible repeat (first | refine blk_drewN ?_ _ | refine blk_drew ?_ | refine blk_alloc ?_ _)); refine blk_put (cs := #[.int .i64 0, .int .i64 0]) ?_ 0 _ rfl; (with_reducible repeat (first | refine blk_drewN ?_ _ | refine blk_drew ?_ | refine blk_alloc ?_ _)); refine blk_far ?_ NB376_375.out _; (with_reducible repeat (first | refine blk_drewN ?_ _ | refine blk_drew ?_ | refine blk_alloc ?_ _)); refine blk_far ?_ NB376_375.out _; (with_reducible repeat (first | refine blk_drewN ?_ _ | refine blk_drew ?_ | refine blk_alloc ?_ _)); refine blk_far ?_ NB376_374.out _; (with_reducible repeat (first | refine blk_drewN ?_ _ | refine blk_drew ?_ | refine blk_alloc ?_ _)); refine blk_far ?_ NB376_374.out _; (with_reducible repeat (first | refine blk_drewN ?_ _ | refine blk_drew ?_ | refine blk_alloc ?_ _)); exact BK376.out) hb); have n3_ := Aside0.mk (blk_below (g := gb377) (o := .cells #[.int .i64 0, .int .i64 1] 23 (0, 0)) (by (with_reducible repeat (first | refine blk_drewN ?_ _ | refine blk_drew ?_ | refine blk_alloc ?_ _)); refine blk_put (cs := #[.int .i64 0, .int .i64 0]) ?_ 1 _ rfl; (with_reducible repeat (first | refine blk_drewN ?_ _ | refine blk_drew ?_ | refine blk_alloc ?_ _)); refine blk_put (cs := #[.int .i64 0, .int .i64 0]) ?_ 0 _ rfl; (with_reducible repeat (first | refine blk_drewN ?_ _ | refine blk_drew ?_ | refine blk_alloc ?_ _)); refine blk_far ?_ NB377_376.out _; (with_reducible repeat (first | refine blk_drewN ?_ _ | refine blk_drew ?_ | refine blk_alloc ?_ _)); refine blk_far ?_ NB377_376.out _; (with_reducible repeat (first | refine blk_drewN ?_ _ | refine blk_drew ?_ | refine blk_alloc ?_ _)); refine blk_far ?_ NB377_375.out _; (with_reducible repeat (first | refine blk_drewN ?_ _ | refine blk_drew ?_ | refine blk_alloc ?_ _)); refine blk_far ?_ NB377_375.out _; (with_reducible repeat (first | refine blk_drewN ?_ _ | refine blk_drew ?_ | refine blk_alloc ?_ _)); refine blk_far ?_ NB377_374.out _; (with_reducible repeat (first | refine blk_drewN ?_ _ | refine blk_drew ?_ | refine blk_alloc ?_ _)); refine blk_far ?_ NB377_374.out _; (with_reducible repeat (first | refine blk_drewN ?_ _ | refine blk_drew ?_ | refine blk_alloc ?_ _)); exact BK377.out) hb); have n4_ := Aside0.mk (below_step (by repeat (first | (with_reducible first | exact HB.out | apply below_alloc | apply pw_below_drewN | apply below_drew1 | refine below_set ?_ GE374.out | refine below_set ?_ GE375.out | refine below_set ?_ GE376.out | refine below_set ?_ GE377.out) | exact HB.out)) hb); clear BK374; clear BK375; clear BK376; clear BK377; clear HB; have BK374 := n0_; have BK375 := n1_; have BK376 := n2_; have BK377 := n3_; have HB := n4_; clear n0_ n1_ n2_ n3_ n4_; (try clear hb); (try clear hb2); (try clear hk); (try clear hi); have hcz45_0 : w44.cell? ⟨gb374, 0, none⟩ = some (.int .i64 0) := (blk_cell BK374.out 0).trans rfl; have hcz45_1 : w44.cell? ⟨gb374, 1, none⟩ = some (.int .i64 0) := (blk_cell BK374.out 1).trans rfl; have hfz45_0 := blk_frozen BK374.out 0; have hfz45_1 := blk_frozen BK374.out 1; have hcz46_0 : w44.cell? ⟨gb375, 0, none⟩ = some (.int .i64 1) := (blk_cell BK375.out 0).trans rfl; have hcz46_1 : w44.cell? ⟨gb375, 1, none⟩ = some (.int .i64 0) := (blk_cell BK375.out 1).trans rfl; have hfz46_0 := blk_frozen BK375.out 0; have hfz46_1 := blk_frozen BK375.out 1; have hcz47_0 : w44.cell? ⟨gb376, 0, none⟩ = some (.int .i64 1) := (blk_cell BK376.out 0).trans rfl; have hcz47_1 : w44.cell? ⟨gb376, 1, none⟩ = some (.int .i64 1) := (blk_cell BK376.out 1).trans rfl; have hfz47_0 := blk_frozen BK376.out 0; have hfz47_1 := blk_frozen BK376.out 1) | (go_at_call 14; (with_reducible refine (pred_Orient.calls k 0 0 1 0 1 1 t379 _ A3.out).mono ?_); rintro e w48 ⟨rfl, hb⟩; have n0_ := Aside0.mk (blk_below (g := gb374) (o := .cells #[.int .i64 0, .int .i64 0] 23 (0, 0)) (by (with_reducible repeat (first | refine blk_drewN ?_ _ | refine blk_drew ?_ | refine blk_alloc ?_ _)); exact BK374.out) hb); have n1_ := Aside0.mk (blk_below (g := gb375) (o := .cells #[.int .i64 1, .int .i64 0] 23 (0, 0)) (by (with_reducible repeat (first | refine blk_drewN ?_ _ | refine blk_drew ?_ | refine blk_alloc ?_ _)); exact BK375.out) hb); have n2_ := Aside0.mk (blk_below (g := gb376) (o := .cells #[.int .i64 1, .int .i64 1] 23 (0, 0)) (by (with_reducible repeat (first | refine blk_drewN ?_ _ | refine blk_drew ?_ | refine blk_alloc ?_ _)); exact BK376.out) hb); have n3_ := Aside0.mk (blk_below (g := gb377) (o := .cells #[.int .i64 0, .int .i64 1] 23 (0, 0)) (by (with_reducible repeat (first | refine blk_drewN ?_ _ | refine blk_drew ?_ | refine blk_alloc ?_ _)); exact BK377.out) hb); have n4_ := Aside0.mk (below_step (by repeat (first | (with_reducible first | exact HB.out | apply below_alloc | apply pw_below_drewN | apply below_drew1 | refine below_set ?_ GE374.out | refine below_set ?_ GE375.out | refine below_set ?_ GE376.out | refine below_set ?_ GE377.out) | exact HB.out)) hb); clear BK374; clear BK375; clear BK376; clear BK377; clear HB; have BK374 := n0_; have BK375 := n1_; have BK376 := n2_; have BK377 := n3_; have HB := n4_; clear n0_ n1_ n2_ n3_ n4_; (try clear hb); (try clear hb2); (try clear hk); (try clear hi)))
      go_ret
      exact ⟨by first | rfl | (simp [errW_none, errW_some] <;> rfl) | (simp [*, errW_none, errW_some] <;> rfl), by repeat (first | (with_reducible first | exact HB.out | apply below_alloc | apply pw_below_drewN | apply below_drew1 | refine below_set ?_ GE374.out | refine below_set ?_ GE375.out | refine below_set ?_ GE376.out | refine below_set ?_ GE377.out) | exact HB.out)⟩
  · rw [if_neg c2] at H
    have c2b0 : (t378 == 0) = false := beq_eq_false_iff_ne.mpr c2
    have c2b1 : (t378 != 0) = true := bne_iff_ne.mpr c2
    obtain rfl := Option.some.inj H
    go_enter Try.func10, Try.ntmps10
    go_wp2_with (first | ((with_reducible refine gate_dst (N := 1) rfl ?_); refine box_event ?hg (N := 1) ?hd (cs := #[.int .i64 0, .int .i64 0]) (t := 23) ?hr ?_; (case hd => rfl); (case hg => rfl); (case hr => first | (go_simp; done) | (go_simp; rfl)); intro gb374 hg w49 hbox hb; have n0_ := Aside0.mk (below_step (by repeat (first | (with_reducible first | exact HB.out | apply below_alloc | apply pw_below_drewN | apply below_drew1) | exact HB.out)) hb); have n1_ := Aside0.mk (hbox); have n2_ := Aside0.mk ((by rw [hg]; exact (below_size (by repeat (first | (with_reducible first | exact HB.out | apply below_alloc | apply pw_below_drewN | apply below_drew1) | exact HB.out))) : w.heap.size ≤ gb374)); have n3_ := Aside0.mk ((by rw [hg]; exact (below_size (by repeat (first | (with_reducible first | exact HB.out | apply below_alloc | apply pw_below_drewN | apply below_drew1) | exact HB.out))) : w.heap.size ≤ gb374)); clear HB; have HB := n0_; have BK374 := n1_; have GW374 := n2_; have GE374 := n3_; clear n0_ n1_ n2_ n3_; clear hb hbox hg) | ((with_reducible refine gate_dst (N := 2) rfl ?_); refine box_event ?hg (N := 2) ?hd (cs := #[.int .i64 0, .int .i64 0]) (t := 23) ?hr ?_; (case hd => rfl); (case hg => rfl); (case hr => first | (go_simp; done) | (go_simp; rfl)); intro gb375 hg w50 hbox hb; have n0_ := Aside0.mk (blk_below (g := gb374) (o := .cells #[.int .i64 0, .int .i64 0] 23 (0, 0)) (by (with_reducible repeat (first | refine blk_drewN ?_ _ | refine blk_drew ?_ | refine blk_alloc ?_ _)); exact BK374.out) hb); have n1_ := Aside0.mk (below_step (by repeat (first | (with_reducible first | exact HB.out | apply below_alloc | apply pw_below_drewN | apply below_drew1 | refine below_set ?_ GE374.out) | exact HB.out)) hb); have n2_ := Aside0.mk (hbox); have n3_ := Aside0.mk ((by rw [hg]; exact (below_size (by repeat (first | (with_reducible first | exact HB.out | apply below_alloc | apply pw_below_drewN | apply below_drew1 | refine below_set ?_ GE374.out) | exact HB.out))) : w.heap.size ≤ gb375)); have n4_ := Aside0.mk ((by rw [hg]; exact (below_size (by repeat (first | (with_reducible first | exact HB.out | apply below_alloc | apply pw_below_drewN | apply below_drew1 | refine below_set ?_ GE374.out) | exact HB.out))) : w.heap.size ≤ gb375)); have n5_ := Aside0.mk ((by rw [hg]; exact Nat.ne_of_lt (blk_lt (g := gb374) (o := .cells #[.int .i64 0, .int .i64 0] 23 (0, 0)) (by (with_reducible repeat (first | refine blk_drewN ?_ _ | refine blk_drew ?_ | refine blk_alloc ?_ _)); exact BK374.out)) : gb374 ≠ gb375)); have n6_ := Aside0.mk ((by rw [hg]; exact Nat.ne_of_gt (blk_lt (g := gb374) (o := .cells #[.int .i64 0, .int .i64 0] 23 (0, 0)) (by (with_reducible repeat (first | refine blk_drewN ?_ _ | refine blk_drew ?_ | refine blk_alloc ?_ _)); exact BK374.out)) : gb375 ≠ gb374)); clear BK374; clear HB; have BK374 := n0_; have HB := n1_; have BK375 := n2_; have GW375 := n3_; have GE375 := n4_; have NB374_375 := n5_; have NB375_374 := n6_; clear n0_ n1_ n2_ n3_ n4_ n5_ n6_; clear hb hbox hg) | ((with_reducible refine gate_dst (N := 3) rfl ?_); refine box_event ?hg (N := 3) ?hd (cs := #[.int .i64 0, .int .i64 0]) (t := 23) ?hr ?_; (case hd => rfl); (case hg => rfl); (case hr => first | (go_simp; done) | (go_simp; rfl)); intro gb376 hg w51 hbox hb; have n0_ := Aside0.mk (blk_below (g := gb374) (o := .cells #[.int .i64 0, .int .i64 0] 23 (0, 0)) (by (with_reducible repeat (first | refine blk_drewN ?_ _ | refine blk_drew ?_ | refine blk_alloc ?_ _)); exact BK374.out) hb); have n1_ := Aside0.mk (blk_below (g := gb375) (o := .cells #[.int .i64 0, .int .i64 0] 23 (0, 0)) (by (with_reducible repeat (first | refine blk_drewN ?_ _ | refine blk_drew ?_ | refine blk_alloc ?_ _)); exact BK375.out) hb); have n2_ := Aside0.mk (below_step (by repeat (first | (with_reducible first | exact HB.out | apply below_alloc | apply pw_below_drewN | apply below_drew1 | refine below_set ?_ GE374.out | refine below_set ?_ GE375.out) | exact HB.out)) hb); have n3_ := Aside0.mk (hbox); have n4_ := Aside0.mk ((by rw [hg]; exact (below_size (by repeat (first | (with_reducible first | exact HB.out | apply below_alloc | apply pw_below_drewN | apply below_drew1 | refine below_set ?_ GE374.out | refine below_set ?_ GE375.out) | exact HB.out))) : w.heap.size ≤ gb376)); have n5_ := Aside0.mk ((by rw [hg]; exact (below_size (by repeat (first | (with_reducible first | exact HB.out | apply below_alloc | apply pw_below_drewN | apply below_drew1 | refine below_set ?_ GE374.out | refine below_set ?_ GE375.out) | exact HB.out))) : w.heap.size ≤ gb376)); have n6_ := Aside0.mk ((by rw [hg]; exact Nat.ne_of_lt (blk_lt (g := gb374) (o := .cells #[.int .i64 0, .int .i64 0] 23 (0, 0)) (by (with_reducible repeat (first | refine blk_drewN ?_ _ | refine blk_drew ?_ | refine blk_alloc ?_ _)); exact BK374.out)) : gb374 ≠ gb376)); have n7_ := Aside0.mk ((by rw [hg]; exact Nat.ne_of_gt (blk_lt (g := gb374) (o := .cells #[.int .i64 0, .int .i64 0] 23 (0, 0)) (by (with_reducible repeat (first | refine blk_drewN ?_ _ | refine blk_drew ?_ | refine blk_alloc ?_ _)); exact BK374.out)) : gb376 ≠ gb374)); have n8_ := Aside0.mk ((by rw [hg]; exact Nat.ne_of_lt (blk_lt (g := gb375) (o := .cells #[.int .i64 0, .int .i64 0] 23 (0, 0)) (by (with_reducible repeat (first | refine blk_drewN ?_ _ | refine blk_drew ?_ | refine blk_alloc ?_ _)); exact BK375.out)) : gb375 ≠ gb376)); have n9_ := Aside0.mk ((by rw [hg]; exact Nat.ne_of_gt (blk_lt (g := gb375) (o := .cells #[.int .i64 0, .int .i64 0] 23 (0, 0)) (by (with_reducible repeat (first | refine blk_drewN ?_ _ | refine blk_drew ?_ | refine blk_alloc ?_ _)); exact BK375.out)) : gb376 ≠ gb375)); clear BK374; clear BK375; clear HB; have BK374 := n0_; have BK375 := n1_; have HB := n2_; have BK376 := n3_; have GW376 := n4_; have GE376 := n5_; have NB374_376 := n6_; have NB376_374 := n7_; have NB375_376 := n8_; have NB376_375 := n9_; clear n0_ n1_ n2_ n3_ n4_ n5_ n6_ n7_ n8_ n9_; clear hb hbox hg) | ((with_reducible refine gate_dst (N := 4) rfl ?_); refine box_event ?hg (N := 4) ?hd (cs := #[.int .i64 0, .int .i64 0]) (t := 23) ?hr ?_; (case hd => rfl); (case hg => rfl); (case hr => first | (go_simp; done) | (go_simp; rfl)); intro gb377 hg w52 hbox hb; have n0_ := Aside0.mk (blk_below (g := gb374) (o := .cells #[.int .i64 0, .int .i64 0] 23 (0, 0)) (by (with_reducible repeat (first | refine blk_drewN ?_ _ | refine blk_drew ?_ | refine blk_alloc ?_ _)); exact BK374.out) hb); have n1_ := Aside0.mk (blk_below (g := gb375) (o := .cells #[.int .i64 0, .int .i64 0] 23 (0, 0)) (by (with_reducible repeat (first | refine blk_drewN ?_ _ | refine blk_drew ?_ | refine blk_alloc ?_ _)); exact BK375.out) hb); have n2_ := Aside0.mk (blk_below (g := gb376) (o := .cells #[.int .i64 0, .int .i64 0] 23 (0, 0)) (by (with_reducible repeat (first | refine blk_drewN ?_ _ | refine blk_drew ?_ | refine blk_alloc ?_ _)); exact BK376.out) hb); have n3_ := Aside0.mk (below_step (by repeat (first | (with_reducible first | exact HB.out | apply below_alloc | apply pw_below_drewN | apply below_drew1 | refine below_set ?_ GE374.out | refine below_set ?_ GE375.out | refine below_set ?_ GE376.out) | exact HB.out)) hb); have n4_ := Aside0.mk (hbox); have n5_ := Aside0.mk ((by rw [hg]; exact (below_size (by repeat (first | (with_reducible first | exact HB.out | apply below_alloc | apply pw_below_drewN | apply below_drew1 | refine below_set ?_ GE374.out | refine below_set ?_ GE375.out | refine below_set ?_ GE376.out) | exact HB.out))) : w.heap.size ≤ gb377)); have n6_ := Aside0.mk ((by rw [hg]; exact (below_size (by repeat (first | (with_reducible first | exact HB.out | apply below_alloc | apply pw_below_drewN | apply below_drew1 | refine below_set ?_ GE374.out | refine below_set ?_ GE375.out | refine below_set ?_ GE376.out) | exact HB.out))) : w.heap.size ≤ gb377)); have n7_ := Aside0.mk ((by rw [hg]; exact Nat.ne_of_lt (blk_lt (g := gb374) (o := .cells #[.int .i64 0, .int .i64 0] 23 (0, 0)) (by (with_reducible repeat (first | refine blk_drewN ?_ _ | refine blk_drew ?_ | refine blk_alloc ?_ _)); exact BK374.out)) : gb374 ≠ gb377)); have n8_ := Aside0.mk ((by rw [hg]; exact Nat.ne_of_gt (blk_lt (g := gb374) (o := .cells #[.int .i64 0, .int .i64 0] 23 (0, 0)) (by (with_reducible repeat (first | refine blk_drewN ?_ _ | refine blk_drew ?_ | refine blk_alloc ?_ _)); exact BK374.out)) : gb377 ≠ gb374)); have n9_ := Aside0.mk ((by rw [hg]; exact Nat.ne_of_lt (blk_lt (g := gb375) (o := .cells #[.int .i64 0, .int .i64 0] 23 (0, 0)) (by (with_reducible repeat (first | refine blk_drewN ?_ _ | refine blk_drew ?_ | refine blk_alloc ?_ _)); exact BK375.out)) : gb375 ≠ gb377)); have n10_ := Aside0.mk ((by rw [hg]; exact Nat.ne_of_gt (blk_lt (g := gb375) (o := .cells #[.int .i64 0, .int .i64 0] 23 (0, 0)) (by (with_reducible repeat (first | refine blk_drewN ?_ _ | refine blk_drew ?_ | refine blk_alloc ?_ _)); exact BK375.out)) : gb377 ≠ gb375)); have n11_ := Aside0.mk ((by rw [hg]; exact Nat.ne_of_lt (blk_lt (g := gb376) (o := .cells #[.int .i64 0, .int .i64 0] 23 (0, 0)) (by (with_reducible repeat (first | refine blk_drewN ?_ _ | refine blk_drew ?_ | refine blk_alloc ?_ _)); exact BK376.out)) : gb376 ≠ gb377)); have n12_ := Aside0.mk ((by rw [hg]; exact Nat.ne_of_gt (blk_lt (g := gb376) (o := .cells #[.int .i64 0, .int .i64 0] 23 (0, 0)) (by (with_reducible repeat (first | refine blk_drewN ?_ _ | refine blk_drew ?_ | refine blk_alloc ?_ _)); exact BK376.out)) : gb377 ≠ gb376)); clear BK374; clear BK375; clear BK376; clear HB; have BK374 := n0_; have BK375 := n1_; have BK376 := n2_; have HB := n3_; have BK377 := n4_; have GW377 := n5_; have GE377 := n6_; have NB374_377 := n7_; have NB377_374 := n8_; have NB375_377 := n9_; have NB377_375 := n10_; have NB376_377 := n11_; have NB377_376 := n12_; clear n0_ n1_ n2_ n3_ n4_ n5_ n6_ n7_ n8_ n9_ n10_ n11_ n12_; clear hb hbox hg; have hnb53 := NB374_375.out; have hnc53 := NB375_374.out; have hnb54 := NB374_376.out; have hnc54 := NB376_374.out; have hnb55 := NB374_377.out; have hnc55 := NB377_374.out; have hcz56_0 : w52.cell? ⟨gb374, 0, none⟩ = some (.int .i64 0) := (blk_cell BK374.out 0).trans rfl; have hcz56_1 : w52.cell? ⟨gb374, 1, none⟩ = some (.int .i64 0) := (blk_cell BK374.out 1).trans rfl; have hfz56_0 := blk_frozen BK374.out 0; have hfz56_1 := blk_frozen BK374.out 1; have hnb57 := NB375_376.out; have hnc57 := NB376_375.out; have hnb58 := NB375_377.out; have hnc58 := NB377_375.out; have hcz59_0 : w52.cell? ⟨gb375, 0, none⟩ = some (.int .i64 0) := (blk_cell BK375.out 0).trans rfl; have hcz59_1 : w52.cell? ⟨gb375, 1, none⟩ = some (.int .i64 0) := (blk_cell BK375.out 1).trans rfl; have hfz59_0 := blk_frozen BK375.out 0; have hfz59_1 := blk_frozen BK375.out 1; have hnb60 := NB376_377.out; have hnc60 := NB377_376.out; have hcz61_0 : w52.cell? ⟨gb376, 0, none⟩ = some (.int .i64 0) := (blk_cell BK376.out 0).trans rfl; have hcz61_1 : w52.cell? ⟨gb376, 1, none⟩ = some (.int .i64 0) := (blk_cell BK376.out 1).trans rfl; have hfz61_0 := blk_frozen BK376.out 0; have hfz61_1 := blk_frozen BK376.out 1; have hcz62_0 : w52.cell? ⟨gb377, 0, none⟩ = some (.int .i64 0) := (blk_cell BK377.out 0).trans rfl; have hcz62_1 : w52.cell? ⟨gb377, 1, none⟩ = some (.int .i64 0) := (blk_cell BK377.out 1).trans rfl; have hfz62_0 := blk_frozen BK377.out 0; have hfz62_1 := blk_frozen BK377.out 1) | ((with_reducible refine gate_callee (f := 8) rfl ?_); refine goesL_ (some 13) rfl rfl Try.func8 (by kernel_rfl) rfl #[.agg #[.int .i64 0, .int .i64 0], .agg #[.int .i64 1, .int .i64 0], .agg #[.int .i64 1, .int .i64 1], .agg #[.int .i64 0, .int .i64 1]] rfl (by (try simp only [List.map_toArray, List.map_cons, List.map_nil]); first | done | rfl | (simp only [List.length_drop, List.length_take]; rfl)) ?_; (with_reducible refine (pred_InCircle.calls k 0 0 1 0 1 1 0 1 t378 _ A1.out).mono ?_); rintro e w63 ⟨rfl, hb⟩; refine ⟨_, rfl, ?_⟩; have n0_ := Aside0.mk (blk_below (g := gb374) (o := .cells #[.int .i64 0, .int .i64 0] 23 (0, 0)) (by (with_reducible repeat (first | refine blk_drewN ?_ _ | refine blk_drew ?_ | refine blk_alloc ?_ _)); refine blk_far ?_ NB374_377.out _; (with_reducible repeat (first | refine blk_drewN ?_ _ | refine blk_drew ?_ | refine blk_alloc ?_ _)); refine blk_far ?_ NB374_377.out _; (with_reducible repeat (first | refine blk_drewN ?_ _ | refine blk_drew ?_ | refine blk_alloc ?_ _)); refine blk_far ?_ NB374_376.out _; (with_reducible repeat (first | refine blk_drewN ?_ _ | refine blk_drew ?_ | refine blk_alloc ?_ _)); refine blk_far ?_ NB374_376.out _; (with_reducible repeat (first | refine blk_drewN ?_ _ | refine blk_drew ?_ | refine blk_alloc ?_ _)); refine blk_far ?_ NB374_375.out _; (with_reducible repeat (first | refine blk_drewN ?_ _ | refine blk_drew ?_ | refine blk_alloc ?_ _)); refine blk_far ?_ NB374_375.out _; (with_reducible repeat (first | refine blk_drewN ?_ _ | refine blk_drew ?_ | refine blk_alloc ?_ _)); refine blk_put (cs := #[.int .i64 0, .int .i64 0]) ?_ 1 _ rfl; (with_reducible repeat (first | refine blk_drewN ?_ _ | refine blk_drew ?_ | refine blk_alloc ?_ _)); refine blk_put (cs := #[.int .i64 0, .int .i64 0]) ?_ 0 _ rfl; (with_reducible repeat (first | refine blk_drewN ?_ _ | refine blk_drew ?_ | refine blk_alloc ?_ _)); exact BK374.out) hb); have n1_ := Aside0.mk (blk_below (g := gb375) (o := .cells #[.int .i64 1, .int .i64 0] 23 (0, 0)) (by (with_reducible repeat (first | refine blk_drewN ?_ _ | refine blk_drew ?_ | refine blk_alloc ?_ _)); refine blk_far ?_ NB375_377.out _; (with_reducible repeat (first | refine blk_drewN ?_ _ | refine blk_drew ?_ | refine blk_alloc ?_ _)); refine blk_far ?_ NB375_377.out _; (with_reducible repeat (first | refine blk_drewN ?_ _ | refine blk_drew ?_ | refine blk_alloc ?_ _)); refine blk_far ?_ NB375_376.out _; (with_reducible repeat (first | refine blk_drewN ?_ _ | refine blk_drew ?_ | refine blk_alloc ?_ _)); refine blk_far ?_ NB375_376.out _; (with_reducible repeat (first | refine blk_drewN ?_ _ | refine blk_drew ?_ | refine blk_alloc ?_ _)); refine blk_put (cs := #[.int .i64 1, .int .i64 0]) ?_ 1 _ rfl; (with_reducible repeat (first | refine blk_drewN ?_ _ | refine blk_drew ?_ | refine blk_alloc ?_ _)); refine blk_put (cs := #[.int .i64 0, .int .i64 0]) ?_ 0 _ rfl; (with_reducible repeat (first | refine blk_drewN ?_ _ | refine blk_drew ?_ | refine blk_alloc ?_ _)); refine blk_far ?_ NB375_374.out _; (with_reducible repeat (first | refine blk_drewN ?_ _ | refine blk_drew ?_ | refine blk_alloc ?_ _)); refine blk_far ?_ NB375_374.out _; (with_reducible repeat (first | refine blk_drewN ?_ _ | refine blk_drew ?_ | refine blk_alloc ?_ _)); exact BK375.out) hb); have n2_ := Aside0.mk (blk_below (g := gb376) (o := .cells #[.int .i64 1, .int .i64 1] 23 (0, 0)) (by (with_reducible repeat (first | refine blk_drewN ?_ _ | refine blk_drew ?_ | refine blk_alloc ?_ _)); refine blk_far ?_ NB376_377.out _; (with_reducible repeat (first | refine blk_drewN ?_ _ | refine blk_drew ?_ | refine blk_alloc ?_ _)); refine blk_far ?_ NB376_377.out _; (with_reducible repeat (first | refine blk_drewN ?_ _ | refine blk_drew ?_ | refine blk_alloc ?_ _)); refine blk_put (cs := #[.int .i64 1, .int .i64 0]) ?_ 1 _ rfl; (with_reducible repeat (first | refine blk_drewN ?_ _ | refine blk_drew ?_ | refine blk_alloc ?_ _)); refine blk_put (cs := #[.int .i64 0, .int .i64 0]) ?_ 0 _ rfl; (with_reducible repeat (first | refine blk_drewN ?_ _ | refine blk_drew ?_ | refine blk_alloc ?_ _)); refine blk_far ?_ NB376_375.out _; (with_reducible repeat (first | refine blk_drewN ?_ _ | refine blk_drew ?_ | refine blk_alloc ?_ _)); refine blk_far ?_ NB376_375.out _; (with_reducible repeat (first | refine blk_drewN ?_ _ | refine blk_drew ?_ | refine blk_alloc ?_ _)); refine blk_far ?_ NB376_374.out _; (with_reducible repeat (first | refine blk_drewN ?_ _ | refine blk_drew ?_ | refine blk_alloc ?_ _)); refine blk_far ?_ NB376_374.out _; (with_reducible repeat (first | refine blk_drewN ?_ _ | refine blk_drew ?_ | refine blk_alloc ?_ _)); exact BK376.out) hb); have n3_ := Aside0.mk (blk_below (g := gb377) (o := .cells #[.int .i64 0, .int .i64 1] 23 (0, 0)) (by (with_reducible repeat (first | refine blk_drewN ?_ _ | refine blk_drew ?_ | refine blk_alloc ?_ _)); refine blk_put (cs := #[.int .i64 0, .int .i64 0]) ?_ 1 _ rfl; (with_reducible repeat (first | refine blk_drewN ?_ _ | refine blk_drew ?_ | refine blk_alloc ?_ _)); refine blk_put (cs := #[.int .i64 0, .int .i64 0]) ?_ 0 _ rfl; (with_reducible repeat (first | refine blk_drewN ?_ _ | refine blk_drew ?_ | refine blk_alloc ?_ _)); refine blk_far ?_ NB377_376.out _; (with_reducible repeat (first | refine blk_drewN ?_ _ | refine blk_drew ?_ | refine blk_alloc ?_ _)); refine blk_far ?_ NB377_376.out _; (with_reducible repeat (first | refine blk_drewN ?_ _ | refine blk_drew ?_ | refine blk_alloc ?_ _)); refine blk_far ?_ NB377_375.out _; (with_reducible repeat (first | refine blk_drewN ?_ _ | refine blk_drew ?_ | refine blk_alloc ?_ _)); refine blk_far ?_ NB377_375.out _; (with_reducible repeat (first | refine blk_drewN ?_ _ | refine blk_drew ?_ | refine blk_alloc ?_ _)); refine blk_far ?_ NB377_374.out _; (with_reducible repeat (first | refine blk_drewN ?_ _ | refine blk_drew ?_ | refine blk_alloc ?_ _)); refine blk_far ?_ NB377_374.out _; (with_reducible repeat (first | refine blk_drewN ?_ _ | refine blk_drew ?_ | refine blk_alloc ?_ _)); exact BK377.out) hb); have n4_ := Aside0.mk (below_step (by repeat (first | (with_reducible first | exact HB.out | apply below_alloc | apply pw_below_drewN | apply below_drew1 | refine below_set ?_ GE374.out | refine below_set ?_ GE375.out | refine below_set ?_ GE376.out | refine below_set ?_ GE377.out) | exact HB.out)) hb); clear BK374; clear BK375; clear BK376; clear BK377; clear HB; have BK374 := n0_; have BK375 := n1_; have BK376 := n2_; have BK377 := n3_; have HB := n4_; clear n0_ n1_ n2_ n3_ n4_; (try clear hb); (try clear hb2); (try clear hk); (try clear hi)))
    go_ret
    exact ⟨by first | rfl | (simp [errW_none, errW_some] <;> rfl) | (simp [*, errW_none, errW_some] <;> rfl), by repeat (first | (with_reducible first | exact HB.out | apply below_alloc | apply pw_below_drewN | apply below_drew1 | refine below_set ?_ GE374.out | refine below_set ?_ GE375.out | refine below_set ?_ GE376.out | refine below_set ?_ GE377.out) | exact HB.out)⟩

end Go.Proofs.Ytmeckkckjikjiaa.F
end

section
/- pred.InCircle: the sign of the circle's determinant; and that the living call lives. Plain numbers. -/
namespace Go.Proofs.Ytmeckkckjikjiaa.Pd
open Go Go.RowKit Go.Proofs.YtmeckkckjikjiaaW.PrintWords Go.Proofs.Ytmeckkckjikjiaa.F Go.Proofs.Ytmeckkckjikjiaa.Wd Go.Proofs.Ytmeckkckjikjiaa.Pm
set_option linter.unusedVariables false
theorem q256 (n : Int) : qv (q0 n) (q1 n) (q2 n) (q3 n) = n % 115792089237316195423570985008687907853269984665640564039457584007913129639936 := by unfold qv q0 q1 q2 q3; omega
theorem qcong {n m : Int} (h : n % 115792089237316195423570985008687907853269984665640564039457584007913129639936 = m % 115792089237316195423570985008687907853269984665640564039457584007913129639936) : qq4 n = qq4 m := by
  have e : n = m + 115792089237316195423570985008687907853269984665640564039457584007913129639936 * (n / 115792089237316195423570985008687907853269984665640564039457584007913129639936 - m / 115792089237316195423570985008687907853269984665640564039457584007913129639936) := by omega
  generalize n / 115792089237316195423570985008687907853269984665640564039457584007913129639936 - m / 115792089237316195423570985008687907853269984665640564039457584007913129639936 = t at e
  subst e
  clear h
  unfold qq4 q0 q1 q2 q3
  have d1 : (m + 115792089237316195423570985008687907853269984665640564039457584007913129639936 * t) / 18446744073709551616 = m / 18446744073709551616 + 6277101735386680763835789423207666416102355444464034512896 * t := by omega
  have d2 : (m / 18446744073709551616 + 6277101735386680763835789423207666416102355444464034512896 * t) / 18446744073709551616 = m / 18446744073709551616 / 18446744073709551616 + 340282366920938463463374607431768211456 * t := by omega
  have d3 : (m / 18446744073709551616 / 18446744073709551616 + 340282366920938463463374607431768211456 * t) / 18446744073709551616 = m / 18446744073709551616 / 18446744073709551616 / 18446744073709551616 + 18446744073709551616 * t := by omega
  rw [d1, d2, d3]
  have c0 : (m + 115792089237316195423570985008687907853269984665640564039457584007913129639936 * t) % 18446744073709551616 = m % 18446744073709551616 := by omega
  have c1 : (m / 18446744073709551616 + 6277101735386680763835789423207666416102355444464034512896 * t) % 18446744073709551616 = m / 18446744073709551616 % 18446744073709551616 := by omega
  have c2 : (m / 18446744073709551616 / 18446744073709551616 + 340282366920938463463374607431768211456 * t) % 18446744073709551616 = m / 18446744073709551616 / 18446744073709551616 % 18446744073709551616 := by omega
  have c3 : (m / 18446744073709551616 / 18446744073709551616 / 18446744073709551616 + 18446744073709551616 * t) % 18446744073709551616 = m / 18446744073709551616 / 18446744073709551616 / 18446744073709551616 % 18446744073709551616 := by omega
  rw [c0, c1, c2, c3]
theorem qmul_w {n m : Int} {B C : Nat} (h : Am n B) (h' : Am m C) (hB : B ≤ 170141183460469231731687303715884105727) (hC : C ≤ 170141183460469231731687303715884105727) : quad_Mul.f (whi n) (wlo n) (whi m) (wlo m) = some (qq4 (n * m)) := by
  unfold quad_Mul.f
  rw [if_pos ⟨wok_of _, wok_of _⟩, am_w h hB, am_w h' hC]
theorem qadd_w (n m : Int) : quad_Add.f (q0 n) (q1 n) (q2 n) (q3 n) (q0 m) (q1 m) (q2 m) (q3 m) = some (qq4 (n + m)) := by
  unfold quad_Add.f
  rw [if_pos ⟨q_ok _, q_ok _⟩, qcong (m := n + m) (by rw [q256, q256]; omega)]
theorem qsign_w {n : Int} {B : Nat} (h : Am n B) (hB : B < 57896044618658097711785492504343953926634992332820282019728792003956564819968) : quad_Sign.f (q0 n) (q1 n) (q2 n) (q3 n) = some n.sign := by
  unfold quad_Sign.f
  rw [if_pos (q_ok n)]
  have b := h.le
  have e := q256 n
  obtain ⟨⟨a0, a1⟩, ⟨b0, b1⟩, ⟨c0, c1⟩, ⟨d0, d1⟩⟩ := q_ok n
  generalize q0 n = x0 at *; generalize q1 n = x1 at *; generalize q2 n = x2 at *; generalize q3 n = x3 at *
  unfold qv at e
  congr 1
  by_cases k : 9223372036854775808 ≤ x3
  · rw [if_pos k, Int.sign_eq_neg_one_of_neg (by omega)]
  · rw [if_neg k]
    by_cases z : x0 = 0 ∧ x1 = 0 ∧ x2 = 0 ∧ x3 = 0
    · rw [if_pos z, show n = 0 by omega]; rfl
    · rw [if_neg z, Int.sign_eq_one_of_pos (by omega)]
/-- InCircle. -/
def icS (a0 a1 b0 b1 c0 c1 d0 d1 : Int) : Int := if CoP a0 a1 ∧ CoP b0 b1 ∧ CoP c0 c1 ∧ CoP d0 d1 then (dt a0 a1 b0 b1 c0 c1 d0 d1).sign else 0
theorem InCircle_f (a0 a1 b0 b1 c0 c1 d0 d1 : Int) {k : Nat} (hk : 2000 ≤ k) : pred_InCircle.f k a0 a1 b0 b1 c0 c1 d0 d1 = some (icS a0 a1 b0 b1 c0 c1 d0 d1) := by
  unfold pred_InCircle.f icS
  rw [can4 _ _ _ _ _ _ _ _ hk, Option.bind_some]
  by_cases h : CoP a0 a1 ∧ CoP b0 b1 ∧ CoP c0 c1 ∧ CoP d0 d1
  · obtain ⟨ha, hb, hc, hd⟩ := h
    have u0 := ha.1.way hd.1; have u1 := ha.2.way hd.2
    have v0 := hb.1.way hd.1; have v1 := hb.2.way hd.2
    have t0 := hc.1.way hd.1; have t1 := hc.2.way hd.2
    have m1 := qmul_w (square_am u0 u1) (cross_am v0 v1 t0 t1) (by omega) (by omega)
    have m2 := qmul_w (square_am v0 v1) (cross_am t0 t1 u0 u1) (by omega) (by omega)
    have m3 := qmul_w (square_am t0 t1) (cross_am u0 u1 v0 v1) (by omega) (by omega)
    unfold qq4 at m1 m2 m3
    have A1 := qadd_w (((a0 - d0) * (a0 - d0) + (a1 - d1) * (a1 - d1)) * ((b0 - d0) * (c1 - d1) - (b1 - d1) * (c0 - d0))) (((b0 - d0) * (b0 - d0) + (b1 - d1) * (b1 - d1)) * ((c0 - d0) * (a1 - d1) - (c1 - d1) * (a0 - d0)))
    have A2 := qadd_w (((a0 - d0) * (a0 - d0) + (a1 - d1) * (a1 - d1)) * ((b0 - d0) * (c1 - d1) - (b1 - d1) * (c0 - d0)) + ((b0 - d0) * (b0 - d0) + (b1 - d1) * (b1 - d1)) * ((c0 - d0) * (a1 - d1) - (c1 - d1) * (a0 - d0))) (((c0 - d0) * (c0 - d0) + (c1 - d1) * (c1 - d1)) * ((a0 - d0) * (b1 - d1) - (a1 - d1) * (b0 - d0)))
    unfold qq4 at A1 A2
    have S := qsign_w (dt_am ha.1 ha.2 hb.1 hb.2 hc.1 hc.2 hd.1 hd.2) (by omega)
    unfold dt at S
    rw [if_pos (decide_eq_true ⟨ha, hb, hc, hd⟩), way_f hd ha, Option.bind_some, way_f hd hb, Option.bind_some, way_f hd hc, Option.bind_some, square_f u0 u1, Option.bind_some, across_f v0 v1 t0 t1, Option.bind_some, m1, Option.bind_some, square_f v0 v1, Option.bind_some, across_f t0 t1 u0 u1, Option.bind_some, m2, Option.bind_some, A1, Option.bind_some,
      square_f t0 t1, Option.bind_some, across_f u0 u1 v0 v1, Option.bind_some, m3, Option.bind_some, A2, Option.bind_some, S, Option.bind_some, if_pos ⟨ha, hb, hc, hd⟩]
    rfl
  · rw [if_neg (by rw [decide_eq_true_eq]; exact h), if_neg h]
theorem lives_true {k : Nat} (hk : 2000 ≤ k) : zelligelaw07_lives.f k = some true := by
  unfold zelligelaw07_lives.f
  rw [InCircle_f _ _ _ _ _ _ _ _ hk, Option.bind_some, Orient_f _ _ _ _ _ _ hk, Option.bind_some, Where_f _ _ _ _ _ _ _ _ hk, Option.bind_some]
  decide +kernel
end Go.Proofs.Ytmeckkckjikjiaa.Pd
end

section
namespace Go.Proofs.Ytmeckkckjikjiaa.F
open Go.RowKit Go.Proofs.YtmeckkckjikjiaaW.PrintWords Go.Proofs.YtmeckkckjikjiaaW.PrintLast Go.Proofs.YtmeckkckjikjiaaW.PrintMore
attribute [local go_sem] max2_int min2_int max_two min_two max_three min_three max_four min_four   -- for this text's walks alone
set_option linter.unusedVariables false
set_option linter.unusedSimpArgs false

/-! OnlyTrue ### zelligelaw07_PredTurns: function 5 -/
def zelligelaw07_PredTurns.f (k : Nat) (a0_0 : Int) (a0_1 : Int) (a0_2 : Int) (a0_3 : Int) (a0_4 : Int) (a0_5 : Int) (a1_0 : Int) (a1_1 : Int) : Option (Bool) := (pred_Orient.f k a0_0 a0_1 a0_2 a0_3 a0_4 a0_5).bind fun t524 => ((pred_InCircle.f k a0_0 a0_1 a0_2 a0_3 a0_4 a0_5 a1_0 a1_1).bind fun t525 => ((pred_Orient.f k a0_2 a0_3 a0_4 a0_5 a0_0 a0_1).bind fun t526 => (if t526 = t524 then ((pred_Orient.f k a0_2 a0_3 a0_0 a0_1 a0_4 a0_5).bind fun t527 => (if t527 = (wrap64 (-t524)) then ((pred_InCircle.f k a0_2 a0_3 a0_0 a0_1 a0_4 a0_5 a1_0 a1_1).bind fun t528 => (if t528 = (wrap64 (-t525)) then ((pred_InCircle.f k a0_0 a0_1 a0_2 a0_3 a1_0 a1_1 a0_4 a0_5).bind fun t529 => (if t529 = (wrap64 (-t525)) then ((pred_InCircle.f k a1_0 a1_1 a0_2 a0_3 a0_4 a0_5 a0_0 a0_1).bind fun t530 => (if t530 = (wrap64 (-t525)) then ((pred_InCircle.f k a0_2 a0_3 a0_4 a0_5 a0_0 a0_1 a1_0 a1_1).bind fun t531 => (if t531 = t525 then ((zelligelaw07_lives.f k).bind fun t532 => (some t532)) else (some false))) else (some false))) else (some false))) else (some false))) else (some false))) else (some false))))
theorem zelligelaw07_PredTurns.mono : ∀ a0 a1 a2 a3 a4 a5 a6 a7 k, LeO (zelligelaw07_PredTurns.f k a0 a1 a2 a3 a4 a5 a6 a7) (zelligelaw07_PredTurns.f (k + 1) a0 a1 a2 a3 a4 a5 a6 a7) := by
  intro a0 a1 a2 a3 a4 a5 a6 a7 k
  unfold zelligelaw07_PredTurns.f
  repeat' first
      | (with_reducible exact pred_InCircle.mono _ _ _ _ _ _ _ _ _)
      | (with_reducible exact pred_Orient.mono _ _ _ _ _ _ _)
      | (with_reducible exact zelligelaw07_lives.mono _)
      | (with_reducible exact LeO.refl _)
      | (with_reducible exact LeO.none _)
      | (with_reducible refine LeO.ite ?_ ?_)
      | (with_reducible refine LeO.bind ?_ (fun _ => ?_))
      | exact pred_InCircle.mono _ _ _ _ _ _ _ _ _
      | exact pred_Orient.mono _ _ _ _ _ _ _
      | exact zelligelaw07_lives.mono _
      | exact LeO.none _
      | refine LeO.ite ?_ ?_
      | refine LeO.bind ?_ (fun _ => ?_)
def zelligelaw07_PredTurns.T1 : Bool × List (List Nat × List Nat) := (true, [([], []), ([0], [0]), ([], []), ([2], [2]), ([], []), ([4], [4]), ([], []), ([], []), ([], []), ([6, 1, 0, 1, 6, 7, 8], [1, 6]), ([7, 3, 9, 0, 1, 2, 3, 6, 7, 8, 9], [3, 7]), ([8, 5, 10, 0, 1, 2, 3, 4, 5, 6, 7, 8, 9, 10], [5, 8])])
def zelligelaw07_PredTurns.B1 : List Nat := [0, 1, 0, 4, 0, 16, 0, 0, 0, 451, 975, 2047]
theorem zelligelaw07_PredTurns.tab1 : rtab .any (opsOf Try.f5 1) = zelligelaw07_PredTurns.T1 := by kernel_rfl
theorem zelligelaw07_PredTurns.bits1 : waitsOk zelligelaw07_PredTurns.T1.2 zelligelaw07_PredTurns.B1 = true := by kernel_rfl
def zelligelaw07_PredTurns.T2 : Bool × List (List Nat × List Nat) := (true, [([], []), ([], []), ([], []), ([0, 1, 2], [0, 1, 2]), ([], []), ([], []), ([], []), ([], []), ([4, 5, 6, 7, 3], [4, 5, 6, 7]), ([3, 8, 0, 1, 2, 3], [3]), ([8, 9, 0, 1, 2, 3, 4, 5, 6, 7, 8, 9], [8])])
def zelligelaw07_PredTurns.B2 : List Nat := [0, 0, 0, 7, 0, 0, 0, 0, 255, 511, 1023]
theorem zelligelaw07_PredTurns.tab2 : rtab .any (opsOf Try.f5 2) = zelligelaw07_PredTurns.T2 := by kernel_rfl
theorem zelligelaw07_PredTurns.bits2 : waitsOk zelligelaw07_PredTurns.T2.2 zelligelaw07_PredTurns.B2 = true := by kernel_rfl
set_option maxHeartbeats 8000000 in
set_option maxRecDepth 100000 in
theorem zelligelaw07_PredTurns.calls (k : Nat) (a0_0 : Int) (a0_1 : Int) (a0_2 : Int) (a0_3 : Int) (a0_4 : Int) (a0_5 : Int) (a1_0 : Int) (a1_1 : Int) (w : World) (h : zelligelaw07_PredTurns.f k a0_0 a0_1 a0_2 a0_3 a0_4 a0_5 a1_0 a1_1 = some true) :
    Calls Try.prog 5 #[.agg #[.int .i64 a0_0, .int .i64 a0_1, .int .i64 a0_2, .int .i64 a0_3, .int .i64 a0_4, .int .i64 a0_5], .agg #[.int .i64 a1_0, .int .i64 a1_1]] w fun e w' => e = .returned (.bool true) ∧ Below w.heap.size w w' := by
  have hu24 := Try.underlying24
  have hu23 := Try.underlying23
  have HB := Aside0.mk (Below.refl w.heap.size w)
  have H : ((pred_Orient.f k a0_0 a0_1 a0_2 a0_3 a0_4 a0_5).bind fun t524 => ((pred_InCircle.f k a0_0 a0_1 a0_2 a0_3 a0_4 a0_5 a1_0 a1_1).bind fun t525 => ((pred_Orient.f k a0_2 a0_3 a0_4 a0_5 a0_0 a0_1).bind fun t526 => (if t526 = t524 then ((pred_Orient.f k a0_2 a0_3 a0_0 a0_1 a0_4 a0_5).bind fun t527 => (if t527 = (wrap64 (-t524)) then ((pred_InCircle.f k a0_2 a0_3 a0_0 a0_1 a0_4 a0_5 a1_0 a1_1).bind fun t528 => (if t528 = (wrap64 (-t525)) then ((pred_InCircle.f k a0_0 a0_1 a0_2 a0_3 a1_0 a1_1 a0_4 a0_5).bind fun t529 => (if t529 = (wrap64 (-t525)) then ((pred_InCircle.f k a1_0 a1_1 a0_2 a0_3 a0_4 a0_5 a0_0 a0_1).bind fun t530 => (if t530 = (wrap64 (-t525)) then ((pred_InCircle.f k a0_2 a0_3 a0_4 a0_5 a0_0 a0_1 a1_0 a1_1).bind fun t531 => (if t531 = t525 then ((zelligelaw07_lives.f k).bind fun t532 => (some t532)) else (some false))) else (some false))) else (some false))) else (some false))) else (some false))) else (some false))))) = some true := h
  clear h
  replace H := Option.bind_eq_some_iff.mp H
  obtain ⟨t524, A30, H⟩ := H
  replace H : ((pred_InCircle.f k a0_0 a0_1 a0_2 a0_3 a0_4 a0_5 a1_0 a1_1).bind fun t525 => ((pred_Orient.f k a0_2 a0_3 a0_4 a0_5 a0_0 a0_1).bind fun t526 => (if t526 = t524 then ((pred_Orient.f k a0_2 a0_3 a0_0 a0_1 a0_4 a0_5).bind fun t527 => (if t527 = (wrap64 (-t524)) then ((pred_InCircle.f k a0_2 a0_3 a0_0 a0_1 a0_4 a0_5 a1_0 a1_1).bind fun t528 => (if t528 = (wrap64 (-t525)) then ((pred_InCircle.f k a0_0 a0_1 a0_2 a0_3 a1_0 a1_1 a0_4 a0_5).bind fun t529 => (if t529 = (wrap64 (-t525)) then ((pred_InCircle.f k a1_0 a1_1 a0_2 a0_3 a0_4 a0_5 a0_0 a0_1).bind fun t530 => (if t530 = (wrap64 (-t525)) then ((pred_InCircle.f k a0_2 a0_3 a0_4 a0_5 a0_0 a0_1 a1_0 a1_1).bind fun t531 => (if t531 = t525 then ((zelligelaw07_lives.f k).bind fun t532 => (some t532)) else (some false))) else (some false))) else (some false))) else (some false))) else (some false))) else (some false)))) = some true := H
  have A3 := Aside0.mk A30
  clear A30
  replace H := Option.bind_eq_some_iff.mp H
  obtain ⟨t525, A40, H⟩ := H
  replace H : ((pred_Orient.f k a0_2 a0_3 a0_4 a0_5 a0_0 a0_1).bind fun t526 => (if t526 = t524 then ((pred_Orient.f k a0_2 a0_3 a0_0 a0_1 a0_4 a0_5).bind fun t527 => (if t527 = (wrap64 (-t524)) then ((pred_InCircle.f k a0_2 a0_3 a0_0 a0_1 a0_4 a0_5 a1_0 a1_1).bind fun t528 => (if t528 = (wrap64 (-t525)) then ((pred_InCircle.f k a0_0 a0_1 a0_2 a0_3 a1_0 a1_1 a0_4 a0_5).bind fun t529 => (if t529 = (wrap64 (-t525)) then ((pred_InCircle.f k a1_0 a1_1 a0_2 a0_3 a0_4 a0_5 a0_0 a0_1).bind fun t530 => (if t530 = (wrap64 (-t525)) then ((pred_InCircle.f k a0_2 a0_3 a0_4 a0_5 a0_0 a0_1 a1_0 a1_1).bind fun t531 => (if t531 = t525 then ((zelligelaw07_lives.f k).bind fun t532 => (some t532)) else (some false))) else (some false))) else (some false))) else (some false))) else (some false))) else (some false))) = some true := H
  have A4 := Aside0.mk A40
  clear A40
  replace H := Option.bind_eq_some_iff.mp H
  obtain ⟨t526, A50, H⟩ := H
  replace H : (if t526 = t524 then ((pred_Orient.f k a0_2 a0_3 a0_0 a0_1 a0_4 a0_5).bind fun t527 => (if t527 = (wrap64 (-t524)) then ((pred_InCircle.f k a0_2 a0_3 a0_0 a0_1 a0_4 a0_5 a1_0 a1_1).bind fun t528 => (if t528 = (wrap64 (-t525)) then ((pred_InCircle.f k a0_0 a0_1 a0_2 a0_3 a1_0 a1_1 a0_4 a0_5).bind fun t529 => (if t529 = (wrap64 (-t525)) then ((pred_InCircle.f k a1_0 a1_1 a0_2 a0_3 a0_4 a0_5 a0_0 a0_1).bind fun t530 => (if t530 = (wrap64 (-t525)) then ((pred_InCircle.f k a0_2 a0_3 a0_4 a0_5 a0_0 a0_1 a1_0 a1_1).bind fun t531 => (if t531 = t525 then ((zelligelaw07_lives.f k).bind fun t532 => (some t532)) else (some false))) else (some false))) else (some false))) else (some false))) else (some false))) else (some false)) = some true := H
  have A5 := Aside0.mk A50
  clear A50
  by_cases c6 : t526 = t524
  · rw [if_pos c6] at H
    have c6b0 : (t526 == t524) = true := beq_iff_eq.mpr c6
    have c6b1 : (t526 != t524) = false := bne_eq_false_iff_eq.mpr c6
    clear c6
    replace H := Option.bind_eq_some_iff.mp H
    obtain ⟨t527, A70, H⟩ := H
    replace H : (if t527 = (wrap64 (-t524)) then ((pred_InCircle.f k a0_2 a0_3 a0_0 a0_1 a0_4 a0_5 a1_0 a1_1).bind fun t528 => (if t528 = (wrap64 (-t525)) then ((pred_InCircle.f k a0_0 a0_1 a0_2 a0_3 a1_0 a1_1 a0_4 a0_5).bind fun t529 => (if t529 = (wrap64 (-t525)) then ((pred_InCircle.f k a1_0 a1_1 a0_2 a0_3 a0_4 a0_5 a0_0 a0_1).bind fun t530 => (if t530 = (wrap64 (-t525)) then ((pred_InCircle.f k a0_2 a0_3 a0_4 a0_5 a0_0 a0_1 a1_0 a1_1).bind fun t531 => (if t531 = t525 then ((zelligelaw07_lives.f k).bind fun t532 => (some t532)) else (some false))) else (some false))) else (some false))) else (some false))) else (some false)) = some true := H
    have A7 := Aside0.mk A70
    clear A70
    by_cases c8 : t527 = (wrap64 (-t524))
    · rw [if_pos c8] at H
      have c8b0 : (t527 == (wrap64 (-t524))) = true := beq_iff_eq.mpr c8
      have c8b1 : (t527 != (wrap64 (-t524))) = false := bne_eq_false_iff_eq.mpr c8
      clear c8
      replace H := Option.bind_eq_some_iff.mp H
      obtain ⟨t528, A90, H⟩ := H
      replace H : (if t528 = (wrap64 (-t525)) then ((pred_InCircle.f k a0_0 a0_1 a0_2 a0_3 a1_0 a1_1 a0_4 a0_5).bind fun t529 => (if t529 = (wrap64 (-t525)) then ((pred_InCircle.f k a1_0 a1_1 a0_2 a0_3 a0_4 a0_5 a0_0 a0_1).bind fun t530 => (if t530 = (wrap64 (-t525)) then ((pred_InCircle.f k a0_2 a0_3 a0_4 a0_5 a0_0 a0_1 a1_0 a1_1).bind fun t531 => (if t531 = t525 then ((zelligelaw07_lives.f k).bind fun t532 => (some t532)) else (some false))) else (some false))) else (some false))) else (some false)) = some true := H
      have A9 := Aside0.mk A90
      clear A90
      by_cases c10 : t528 = (wrap64 (-t525))
      · rw [if_pos c10] at H
        have c10b0 : (t528 == (wrap64 (-t525))) = true := beq_iff_eq.mpr c10
        have c10b1 : (t528 != (wrap64 (-t525))) = false := bne_eq_false_iff_eq.mpr c10
        clear c10
        replace H := Option.bind_eq_some_iff.mp H
        obtain ⟨t529, A110, H⟩ := H
        replace H : (if t529 = (wrap64 (-t525)) then ((pred_InCircle.f k a1_0 a1_1 a0_2 a0_3 a0_4 a0_5 a0_0 a0_1).bind fun t530 => (if t530 = (wrap64 (-t525)) then ((pred_InCircle.f k a0_2 a0_3 a0_4 a0_5 a0_0 a0_1 a1_0 a1_1).bind fun t531 => (if t531 = t525 then ((zelligelaw07_lives.f k).bind fun t532 => (some t532)) else (some false))) else (some false))) else (some false)) = some true := H
        have A11 := Aside0.mk A110
        clear A110
        by_cases c12 : t529 = (wrap64 (-t525))
        · rw [if_pos c12] at H
          have c12b0 : (t529 == (wrap64 (-t525))) = true := beq_iff_eq.mpr c12
          have c12b1 : (t529 != (wrap64 (-t525))) = false := bne_eq_false_iff_eq.mpr c12
          clear c12
          replace H := Option.bind_eq_some_iff.mp H
          obtain ⟨t530, A130, H⟩ := H
          replace H : (if t530 = (wrap64 (-t525)) then ((pred_InCircle.f k a0_2 a0_3 a0_4 a0_5 a0_0 a0_1 a1_0 a1_1).bind fun t531 => (if t531 = t525 then ((zelligelaw07_lives.f k).bind fun t532 => (some t532)) else (some false))) else (some false)) = some true := H
          have A13 := Aside0.mk A130
          clear A130
          by_cases c14 : t530 = (wrap64 (-t525))
          · rw [if_pos c14] at H
            have c14b0 : (t530 == (wrap64 (-t525))) = true := beq_iff_eq.mpr c14
            have c14b1 : (t530 != (wrap64 (-t525))) = false := bne_eq_false_iff_eq.mpr c14
            clear c14
            replace H := Option.bind_eq_some_iff.mp H
            obtain ⟨t531, A150, H⟩ := H
            replace H : (if t531 = t525 then ((zelligelaw07_lives.f k).bind fun t532 => (some t532)) else (some false)) = some true := H
            have A15 := Aside0.mk A150
            clear A150
            by_cases c16 : t531 = t525
            · rw [if_pos c16] at H
              have c16b0 : (t531 == t525) = true := beq_iff_eq.mpr c16
              have c16b1 : (t531 != t525) = false := bne_eq_false_iff_eq.mpr c16
              clear c16
              replace H := Option.bind_eq_some_iff.mp H
              obtain ⟨t532, A170, H⟩ := H
              replace H : (some t532) = some true := H
              have A17 := Aside0.mk A170
              clear A170
              obtain rfl := Option.some.inj H
              go_enter Try.func5, Try.ntmps5
              try go_wp2_with (first | ((with_reducible refine gate_dst (N := 2) rfl ?_); refine box_event ?hg (N := 2) ?hd (cs := #[.int .i64 a0_0, .int .i64 a0_1, .int .i64 a0_2, .int .i64 a0_3, .int .i64 a0_4, .int .i64 a0_5]) (t := 24) ?hr ?_; (case hd => rfl); (case hg => rfl); (case hr => first | (go_simp; done) | (go_simp; rfl)); intro gb519 hg w18 hbox hb; have n0_ := Aside0.mk (below_step (by repeat (first | (with_reducible first | exact HB.out | apply below_alloc | apply pw_below_drewN | apply below_drew1) | exact HB.out)) hb); have n1_ := Aside0.mk (hbox); have n2_ := Aside0.mk ((by rw [hg]; exact (below_size (by repeat (first | (with_reducible first | exact HB.out | apply below_alloc | apply pw_below_drewN | apply below_drew1) | exact HB.out))) : w.heap.size ≤ gb519)); have n3_ := Aside0.mk ((by rw [hg]; exact (below_size (by repeat (first | (with_reducible first | exact HB.out | apply below_alloc | apply pw_below_drewN | apply below_drew1) | exact HB.out))) : w.heap.size ≤ gb519)); clear HB; have HB := n0_; have BK519 := n1_; have GW519 := n2_; have GE519 := n3_; clear n0_ n1_ n2_ n3_; clear hb hbox hg) | ((with_reducible refine gate_dst (N := 3) rfl ?_); refine box_event ?hg (N := 3) ?hd (cs := #[.int .i64 a1_0, .int .i64 a1_1]) (t := 23) ?hr ?_; (case hd => rfl); (case hg => rfl); (case hr => first | (go_simp; done) | (go_simp; rfl)); intro gb520 hg w19 hbox hb; have n0_ := Aside0.mk (blk_below (g := gb519) (o := .cells #[.int .i64 a0_0, .int .i64 a0_1, .int .i64 a0_2, .int .i64 a0_3, .int .i64 a0_4, .int .i64 a0_5] 24 (0, 0)) (by (with_reducible repeat (first | refine blk_drewN ?_ _ | refine blk_drew ?_ | refine blk_alloc ?_ _)); exact BK519.out) hb); have n1_ := Aside0.mk (below_step (by repeat (first | (with_reducible first | exact HB.out | apply below_alloc | apply pw_below_drewN | apply below_drew1 | refine below_set ?_ GE519.out) | exact HB.out)) hb); have n2_ := Aside0.mk (hbox); have n3_ := Aside0.mk ((by rw [hg]; exact (below_size (by repeat (first | (with_reducible first | exact HB.out | apply below_alloc | apply pw_below_drewN | apply below_drew1 | refine below_set ?_ GE519.out) | exact HB.out))) : w.heap.size ≤ gb520)); have n4_ := Aside0.mk ((by rw [hg]; exact (below_size (by repeat (first | (with_reducible first | exact HB.out | apply below_alloc | apply pw_below_drewN | apply below_drew1 | refine below_set ?_ GE519.out) | exact HB.out))) : w.heap.size ≤ gb520)); have n5_ := Aside0.mk ((by rw [hg]; exact Nat.ne_of_lt (blk_lt (g := gb519) (o := .cells #[.int .i64 a0_0, .int .i64 a0_1, .int .i64 a0_2, .int .i64 a0_3, .int .i64 a0_4, .int .i64 a0_5] 24 (0, 0)) (by (with_reducible repeat (first | refine blk_drewN ?_ _ | refine blk_drew ?_ | refine blk_alloc ?_ _)); exact BK519.out)) : gb519 ≠ gb520)); have n6_ := Aside0.mk ((by rw [hg]; exact Nat.ne_of_gt (blk_lt (g := gb519) (o := .cells #[.int .i64 a0_0, .int .i64 a0_1, .int .i64 a0_2, .int .i64 a0_3, .int .i64 a0_4, .int .i64 a0_5] 24 (0, 0)) (by (with_reducible repeat (first | refine blk_drewN ?_ _ | refine blk_drew ?_ | refine blk_alloc ?_ _)); exact BK519.out)) : gb520 ≠ gb519)); clear BK519; clear HB; have BK519 := n0_; have HB := n1_; have BK520 := n2_; have GW520 := n3_; have GE520 := n4_; have NB519_520 := n5_; have NB520_519 := n6_; clear n0_ n1_ n2_ n3_ n4_ n5_ n6_; clear hb hbox hg))
              have n0_ := Aside0.mk (blk_drew BK519.out)
              have n1_ := Aside0.mk (blk_drew BK520.out)
              have n2_ := Aside0.mk (below_drew1 HB.out)
              clear BK519
              clear BK520
              clear HB
              have BK519 := n0_
              have BK520 := n1_
              have HB := n2_
              clear n0_ n1_ n2_
              refine start_ (n := 12) (S := fun w' => True) (ds := []) #[false, false, false, false, false, false, false, false, false, false, false, false] (by kernel_rfl) rfl rfl trivial (fun hHeld => ?_); refine with_tabW zelligelaw07_PredTurns.tab1 zelligelaw07_PredTurns.bits1 (fun HT_ HW_ => ?_)
              generalize w19.drew = w20 at BK519 BK520 HB hHeld ⊢
              refine pure_ (i := 0) (N := some 10) (v := ?_) (a' := ?_) #[true, false, false, false, false, false, false, false, false, false, false, false] rfl rfl (any_of HT_.out (by kernel_rfl)) (fun _ _ _ h => h) (Or.inl ⟨by rfl, ?_⟩) ?_ ?_
              rotate_left
              · intro w'
                go_simp
                with_reducible rfl
              rotate_left
              · simp only [Act.put, List.setIfInBounds_toArray, List.set_cons_zero, List.set_cons_succ, i64_w, i32_w]
                rfl
              refine pure_ (i := 2) (N := some 12) (v := ?_) (a' := ?_) #[true, false, true, false, false, false, false, false, false, false, false, false] rfl rfl (any_of HT_.out (by kernel_rfl)) (fun _ _ _ h => h) (Or.inl ⟨by rfl, ?_⟩) ?_ ?_
              rotate_left
              · intro w'
                go_simp
                with_reducible rfl
              rotate_left
              · simp only [Act.put, List.setIfInBounds_toArray, List.set_cons_zero, List.set_cons_succ, i64_w, i32_w]
                rfl
              refine pure_ (i := 4) (N := some 14) (v := ?_) (a' := ?_) #[true, false, true, false, true, false, false, false, false, false, false, false] rfl rfl (any_of HT_.out (by kernel_rfl)) (fun _ _ _ h => h) (Or.inl ⟨by rfl, ?_⟩) ?_ ?_
              rotate_left
              · intro w'
                go_simp
                with_reducible rfl
              rotate_left
              · simp only [Act.put, List.setIfInBounds_toArray, List.set_cons_zero, List.set_cons_succ, i64_w, i32_w]
                rfl
              refine inv_at [1, 3, 5, 6, 7, 8, 9, 10, 11] (fun a0_ b a w' => ∃ (gb521 : Nat) (gb522 : Nat) (gb523 : Nat) (m6_ : Value) (m7_ : Value) (m8_ : Value), a = putSel a0_ b [(1, 11, .agg #[.int .i64 a0_0, .int .i64 a0_1]), (3, 13, .agg #[.int .i64 a0_2, .int .i64 a0_3]), (5, 15, .agg #[.int .i64 a0_4, .int .i64 a0_5]), (6, 5, m6_), (7, 6, m7_), (8, 7, m8_)] ∧ (w'.heap[gb519]? = some (.cells #[.int .i64 a0_0, .int .i64 a0_1, .int .i64 a0_2, .int .i64 a0_3, .int .i64 a0_4, .int .i64 a0_5] 24 (0, 0))) ∧ (w'.heap[gb520]? = some (.cells #[.int .i64 a1_0, .int .i64 a1_1] 23 (0, 0))) ∧ (Below w.heap.size w w') ∧ (b 6 = true → b 7 = true → gb522 ≠ gb521) ∧ (b 6 = true → b 7 = true → gb521 ≠ gb522) ∧ (b 6 = true → b 8 = true → gb523 ≠ gb521) ∧ (b 6 = true → b 8 = true → gb521 ≠ gb523) ∧ (b 7 = true → b 8 = true → gb523 ≠ gb522) ∧ (b 7 = true → b 8 = true → gb522 ≠ gb523) ∧ (b 6 = true → b 9 = false → w'.heap[gb521]? = some (.cells #[.int .i64 0, .int .i64 0] 23 (0, 0))) ∧ (b 6 = true → w.heap.size ≤ gb521) ∧ (b 6 = true → w.heap.size ≤ gb521) ∧ (b 6 = true → gb519 ≠ gb521) ∧ (b 6 = true → gb521 ≠ gb519) ∧ (b 6 = true → gb520 ≠ gb521) ∧ (b 6 = true → gb521 ≠ gb520) ∧ (b 7 = true → b 10 = false → w'.heap[gb522]? = some (.cells #[.int .i64 0, .int .i64 0] 23 (0, 0))) ∧ (b 7 = true → w.heap.size ≤ gb522) ∧ (b 7 = true → w.heap.size ≤ gb522) ∧ (b 7 = true → gb519 ≠ gb522) ∧ (b 7 = true → gb522 ≠ gb519) ∧ (b 7 = true → gb520 ≠ gb522) ∧ (b 7 = true → gb522 ≠ gb520) ∧ (b 8 = true → b 11 = false → w'.heap[gb523]? = some (.cells #[.int .i64 0, .int .i64 0] 23 (0, 0))) ∧ (b 8 = true → w.heap.size ≤ gb523) ∧ (b 8 = true → w.heap.size ≤ gb523) ∧ (b 8 = true → gb519 ≠ gb523) ∧ (b 8 = true → gb523 ≠ gb519) ∧ (b 8 = true → gb520 ≠ gb523) ∧ (b 8 = true → gb523 ≠ gb520) ∧ (b 9 = true → w'.heap[gb521]? = some (.cells #[.int .i64 a0_0, .int .i64 a0_1] 23 (0, 0))) ∧ (b 10 = true → w'.heap[gb522]? = some (.cells #[.int .i64 a0_2, .int .i64 a0_3] 23 (0, 0))) ∧ (b 11 = true → w'.heap[gb523]? = some (.cells #[.int .i64 a0_4, .int .i64 a0_5] 23 (0, 0))) ∧ (b 6 = true → (m6_ : Value) = .pointer (some ⟨gb521, 0, none⟩)) ∧ (b 7 = true → (m7_ : Value) = .pointer (some ⟨gb522, 0, none⟩)) ∧ (b 8 = true → (m8_ : Value) = .pointer (some ⟨gb523, 0, none⟩))) HT_.out HW_.out (by kernel_rfl) (by kernel_rfl) ?_ ?_ ?_
              · exact ⟨0, 0, 0, .bool false, .bool false, .bool false, by simp only [putSel, Bool.false_eq_true, if_false], BK519.out, BK520.out, HB.out, fun h_ => absurd h_ (by decide), fun h_ => absurd h_ (by decide), fun h_ => absurd h_ (by decide), fun h_ => absurd h_ (by decide), fun h_ => absurd h_ (by decide), fun h_ => absurd h_ (by decide), fun h_ => absurd h_ (by decide), fun h_ => absurd h_ (by decide), fun h_ => absurd h_ (by decide), fun h_ => absurd h_ (by decide), fun h_ => absurd h_ (by decide), fun h_ => absurd h_ (by decide), fun h_ => absurd h_ (by decide), fun h_ => absurd h_ (by decide), fun h_ => absurd h_ (by decide), fun h_ => absurd h_ (by decide), fun h_ => absurd h_ (by decide), fun h_ => absurd h_ (by decide), fun h_ => absurd h_ (by decide), fun h_ => absurd h_ (by decide), fun h_ => absurd h_ (by decide), fun h_ => absurd h_ (by decide), fun h_ => absurd h_ (by decide), fun h_ => absurd h_ (by decide), fun h_ => absurd h_ (by decide), fun h_ => absurd h_ (by decide), fun h_ => absurd h_ (by decide), fun h_ => absurd h_ (by decide), fun h_ => absurd h_ (by decide), fun h_ => absurd h_ (by decide), fun h_ => absurd h_ (by decide), fun h_ => absurd h_ (by decide), fun h_ => absurd h_ (by decide)⟩
              · skip
                clear BK519 BK520 HB
                refine steps_cons ?_ ?_
                · rintro b a w' ⟨gb521, gb522, gb523, m6_, m7_, m8_, ha, Q_BK519, Q_BK520, Q_HB, Q_NB522_521, Q_NB521_522, Q_NB523_521, Q_NB521_523, Q_NB523_522, Q_NB522_523, Q_BK521, Q_GW521, Q_GE521, Q_NB519_521, Q_NB521_519, Q_NB520_521, Q_NB521_520, Q_BK522, Q_GW522, Q_GE522, Q_NB519_522, Q_NB522_519, Q_NB520_522, Q_NB522_520, Q_BK523, Q_GW523, Q_GE523, Q_NB519_523, Q_NB523_519, Q_NB520_523, Q_NB523_520, Q_BK521_e9, Q_BK522_e10, Q_BK523_e11, Q_X6_, Q_X7_, Q_X8_⟩ hb_ hon hoff
                  refine ⟨_, rfl, fun K hK => ?_⟩
                  have e10 : a.tmps[10]? = some (.pointer (some ⟨gb519, 0, none⟩)) := by rw [ha]; exact (putSel_off rfl).trans rfl
                  replace ha := Aside0.mk ha
                  have BK519 := Aside0.mk Q_BK519
                  have BK520 := Aside0.mk Q_BK520
                  have HB := Aside0.mk Q_HB
                  have hc0_ : w'.cell? ⟨gb519, 0, none⟩ = some (.int .i64 a0_0) := (blk_cell BK519.out 0).trans rfl
                  have hc1_ : w'.cell? ⟨gb519, 1, none⟩ = some (.int .i64 a0_1) := (blk_cell BK519.out 1).trans rfl
                  have hc2_ : w'.cell? ⟨gb519, 2, none⟩ = some (.int .i64 a0_2) := (blk_cell BK519.out 2).trans rfl
                  have hc3_ : w'.cell? ⟨gb519, 3, none⟩ = some (.int .i64 a0_3) := (blk_cell BK519.out 3).trans rfl
                  have hc4_ : w'.cell? ⟨gb519, 4, none⟩ = some (.int .i64 a0_4) := (blk_cell BK519.out 4).trans rfl
                  have hc5_ : w'.cell? ⟨gb519, 5, none⟩ = some (.int .i64 a0_5) := (blk_cell BK519.out 5).trans rfl
                  refine value_ (w1 := w') (v := .agg #[.int .i64 a0_0, .int .i64 a0_1]) (by rfl) rfl ?_ ?_
                  · go_simp
                    (try simp only [i64_w])
                    try rfl
                  refine hK.out _ _ ⟨gb521, gb522, gb523, m6_, m7_, m8_, (by rw [ha.out]; exact putSel_upk 0 hb_ rfl rfl rfl), Q_BK519, Q_BK520, Q_HB, Q_NB522_521, Q_NB521_522, Q_NB523_521, Q_NB521_523, Q_NB523_522, Q_NB522_523, Q_BK521, Q_GW521, Q_GE521, Q_NB519_521, Q_NB521_519, Q_NB520_521, Q_NB521_520, Q_BK522, Q_GW522, Q_GE522, Q_NB519_522, Q_NB522_519, Q_NB520_522, Q_NB522_520, Q_BK523, Q_GW523, Q_GE523, Q_NB519_523, Q_NB523_519, Q_NB520_523, Q_NB523_520, fun h0_ => absurd ((hoff 9 (by kernel_rfl)).symm.trans h0_) (by decide), fun h0_ => absurd ((hoff 10 (by kernel_rfl)).symm.trans h0_) (by decide), fun h0_ => absurd ((hoff 11 (by kernel_rfl)).symm.trans h0_) (by decide), Q_X6_, Q_X7_, Q_X8_⟩
                refine steps_cons ?_ ?_
                · rintro b a w' ⟨gb521, gb522, gb523, m6_, m7_, m8_, ha, Q_BK519, Q_BK520, Q_HB, Q_NB522_521, Q_NB521_522, Q_NB523_521, Q_NB521_523, Q_NB523_522, Q_NB522_523, Q_BK521, Q_GW521, Q_GE521, Q_NB519_521, Q_NB521_519, Q_NB520_521, Q_NB521_520, Q_BK522, Q_GW522, Q_GE522, Q_NB519_522, Q_NB522_519, Q_NB520_522, Q_NB522_520, Q_BK523, Q_GW523, Q_GE523, Q_NB519_523, Q_NB523_519, Q_NB520_523, Q_NB523_520, Q_BK521_e9, Q_BK522_e10, Q_BK523_e11, Q_X6_, Q_X7_, Q_X8_⟩ hb_ hon hoff
                  refine ⟨_, rfl, fun K hK => ?_⟩
                  have e12 : a.tmps[12]? = some (.pointer (some ⟨gb519, 2, none⟩)) := by rw [ha]; exact (putSel_off rfl).trans rfl
                  replace ha := Aside0.mk ha
                  have BK519 := Aside0.mk Q_BK519
                  have BK520 := Aside0.mk Q_BK520
                  have HB := Aside0.mk Q_HB
                  have hc0_ : w'.cell? ⟨gb519, 0, none⟩ = some (.int .i64 a0_0) := (blk_cell BK519.out 0).trans rfl
                  have hc1_ : w'.cell? ⟨gb519, 1, none⟩ = some (.int .i64 a0_1) := (blk_cell BK519.out 1).trans rfl
                  have hc2_ : w'.cell? ⟨gb519, 2, none⟩ = some (.int .i64 a0_2) := (blk_cell BK519.out 2).trans rfl
                  have hc3_ : w'.cell? ⟨gb519, 3, none⟩ = some (.int .i64 a0_3) := (blk_cell BK519.out 3).trans rfl
                  have hc4_ : w'.cell? ⟨gb519, 4, none⟩ = some (.int .i64 a0_4) := (blk_cell BK519.out 4).trans rfl
                  have hc5_ : w'.cell? ⟨gb519, 5, none⟩ = some (.int .i64 a0_5) := (blk_cell BK519.out 5).trans rfl
                  refine value_ (w1 := w') (v := .agg #[.int .i64 a0_2, .int .i64 a0_3]) (by rfl) rfl ?_ ?_
                  · go_simp
                    (try simp only [i64_w])
                    try rfl
                  refine hK.out _ _ ⟨gb521, gb522, gb523, m6_, m7_, m8_, (by rw [ha.out]; exact putSel_upk 1 hb_ rfl rfl rfl), Q_BK519, Q_BK520, Q_HB, Q_NB522_521, Q_NB521_522, Q_NB523_521, Q_NB521_523, Q_NB523_522, Q_NB522_523, Q_BK521, Q_GW521, Q_GE521, Q_NB519_521, Q_NB521_519, Q_NB520_521, Q_NB521_520, Q_BK522, Q_GW522, Q_GE522, Q_NB519_522, Q_NB522_519, Q_NB520_522, Q_NB522_520, Q_BK523, Q_GW523, Q_GE523, Q_NB519_523, Q_NB523_519, Q_NB520_523, Q_NB523_520, Q_BK521_e9, fun h0_ => absurd ((hoff 10 (by kernel_rfl)).symm.trans h0_) (by decide), fun h0_ => absurd ((hoff 11 (by kernel_rfl)).symm.trans h0_) (by decide), Q_X6_, Q_X7_, Q_X8_⟩
                refine steps_cons ?_ ?_
                · rintro b a w' ⟨gb521, gb522, gb523, m6_, m7_, m8_, ha, Q_BK519, Q_BK520, Q_HB, Q_NB522_521, Q_NB521_522, Q_NB523_521, Q_NB521_523, Q_NB523_522, Q_NB522_523, Q_BK521, Q_GW521, Q_GE521, Q_NB519_521, Q_NB521_519, Q_NB520_521, Q_NB521_520, Q_BK522, Q_GW522, Q_GE522, Q_NB519_522, Q_NB522_519, Q_NB520_522, Q_NB522_520, Q_BK523, Q_GW523, Q_GE523, Q_NB519_523, Q_NB523_519, Q_NB520_523, Q_NB523_520, Q_BK521_e9, Q_BK522_e10, Q_BK523_e11, Q_X6_, Q_X7_, Q_X8_⟩ hb_ hon hoff
                  refine ⟨_, rfl, fun K hK => ?_⟩
                  have e14 : a.tmps[14]? = some (.pointer (some ⟨gb519, 4, none⟩)) := by rw [ha]; exact (putSel_off rfl).trans rfl
                  replace ha := Aside0.mk ha
                  have BK519 := Aside0.mk Q_BK519
                  have BK520 := Aside0.mk Q_BK520
                  have HB := Aside0.mk Q_HB
                  have hc0_ : w'.cell? ⟨gb519, 0, none⟩ = some (.int .i64 a0_0) := (blk_cell BK519.out 0).trans rfl
                  have hc1_ : w'.cell? ⟨gb519, 1, none⟩ = some (.int .i64 a0_1) := (blk_cell BK519.out 1).trans rfl
                  have hc2_ : w'.cell? ⟨gb519, 2, none⟩ = some (.int .i64 a0_2) := (blk_cell BK519.out 2).trans rfl
                  have hc3_ : w'.cell? ⟨gb519, 3, none⟩ = some (.int .i64 a0_3) := (blk_cell BK519.out 3).trans rfl
                  have hc4_ : w'.cell? ⟨gb519, 4, none⟩ = some (.int .i64 a0_4) := (blk_cell BK519.out 4).trans rfl
                  have hc5_ : w'.cell? ⟨gb519, 5, none⟩ = some (.int .i64 a0_5) := (blk_cell BK519.out 5).trans rfl
                  refine value_ (w1 := w') (v := .agg #[.int .i64 a0_4, .int .i64 a0_5]) (by rfl) rfl ?_ ?_
                  · go_simp
                    (try simp only [i64_w])
                    try rfl
                  refine hK.out _ _ ⟨gb521, gb522, gb523, m6_, m7_, m8_, (by rw [ha.out]; exact putSel_upk 2 hb_ rfl rfl rfl), Q_BK519, Q_BK520, Q_HB, Q_NB522_521, Q_NB521_522, Q_NB523_521, Q_NB521_523, Q_NB523_522, Q_NB522_523, Q_BK521, Q_GW521, Q_GE521, Q_NB519_521, Q_NB521_519, Q_NB520_521, Q_NB521_520, Q_BK522, Q_GW522, Q_GE522, Q_NB519_522, Q_NB522_519, Q_NB520_522, Q_NB522_520, Q_BK523, Q_GW523, Q_GE523, Q_NB519_523, Q_NB523_519, Q_NB520_523, Q_NB523_520, Q_BK521_e9, Q_BK522_e10, fun h0_ => absurd ((hoff 11 (by kernel_rfl)).symm.trans h0_) (by decide), Q_X6_, Q_X7_, Q_X8_⟩
                refine steps_cons ?_ ?_
                · rintro b a w' ⟨gb521, gb522, gb523, m6_, m7_, m8_, ha, Q_BK519, Q_BK520, Q_HB, Q_NB522_521, Q_NB521_522, Q_NB523_521, Q_NB521_523, Q_NB523_522, Q_NB522_523, Q_BK521, Q_GW521, Q_GE521, Q_NB519_521, Q_NB521_519, Q_NB520_521, Q_NB521_520, Q_BK522, Q_GW522, Q_GE522, Q_NB519_522, Q_NB522_519, Q_NB520_522, Q_NB522_520, Q_BK523, Q_GW523, Q_GE523, Q_NB519_523, Q_NB523_519, Q_NB520_523, Q_NB523_520, Q_BK521_e9, Q_BK522_e10, Q_BK523_e11, Q_X6_, Q_X7_, Q_X8_⟩ hb_ hon hoff
                  refine ⟨_, rfl, fun K hK => ?_⟩
                  replace ha := Aside0.mk ha
                  have BK519 := Aside0.mk Q_BK519
                  have BK520 := Aside0.mk Q_BK520
                  have HB := Aside0.mk Q_HB
                  refine box_step ?hg (N := 5) ?hd (cs := #[.int .i64 0, .int .i64 0]) (t := 23) ?hr ?_; (case hd => rfl); (case hg => rfl); (case hr => first | (go_simp; done) | (go_simp; rfl))
                  intro gb521 hg w21 hbox hb
                  have n0_ := Aside0.mk (blk_below (g := gb519) (o := .cells #[.int .i64 a0_0, .int .i64 a0_1, .int .i64 a0_2, .int .i64 a0_3, .int .i64 a0_4, .int .i64 a0_5] 24 (0, 0)) (by (with_reducible repeat (first | refine blk_drewN ?_ _ | refine blk_drew ?_ | refine blk_alloc ?_ _)); exact BK519.out) hb)
                  have n1_ := Aside0.mk (blk_below (g := gb520) (o := .cells #[.int .i64 a1_0, .int .i64 a1_1] 23 (0, 0)) (by (with_reducible repeat (first | refine blk_drewN ?_ _ | refine blk_drew ?_ | refine blk_alloc ?_ _)); exact BK520.out) hb)
                  have n2_ := Aside0.mk (below_step (by repeat (first | (with_reducible first | exact HB.out | apply below_alloc | apply pw_below_drewN | apply below_drew1 | refine below_set ?_ GE519.out | refine below_set ?_ GE520.out) | exact HB.out)) hb)
                  have n3_ := Aside0.mk (hbox)
                  have n4_ := Aside0.mk ((by rw [hg]; exact (below_size (by repeat (first | (with_reducible first | exact HB.out | apply below_alloc | apply pw_below_drewN | apply below_drew1 | refine below_set ?_ GE519.out | refine below_set ?_ GE520.out) | exact HB.out))) : w.heap.size ≤ gb521))
                  have n5_ := Aside0.mk ((by rw [hg]; exact (below_size (by repeat (first | (with_reducible first | exact HB.out | apply below_alloc | apply pw_below_drewN | apply below_drew1 | refine below_set ?_ GE519.out | refine below_set ?_ GE520.out) | exact HB.out))) : w.heap.size ≤ gb521))
                  have n6_ := Aside0.mk ((by rw [hg]; exact Nat.ne_of_lt (blk_lt (g := gb519) (o := .cells #[.int .i64 a0_0, .int .i64 a0_1, .int .i64 a0_2, .int .i64 a0_3, .int .i64 a0_4, .int .i64 a0_5] 24 (0, 0)) (by (with_reducible repeat (first | refine blk_drewN ?_ _ | refine blk_drew ?_ | refine blk_alloc ?_ _)); exact BK519.out)) : gb519 ≠ gb521))
                  have n7_ := Aside0.mk ((by rw [hg]; exact Nat.ne_of_gt (blk_lt (g := gb519) (o := .cells #[.int .i64 a0_0, .int .i64 a0_1, .int .i64 a0_2, .int .i64 a0_3, .int .i64 a0_4, .int .i64 a0_5] 24 (0, 0)) (by (with_reducible repeat (first | refine blk_drewN ?_ _ | refine blk_drew ?_ | refine blk_alloc ?_ _)); exact BK519.out)) : gb521 ≠ gb519))
                  have n8_ := Aside0.mk ((by rw [hg]; exact Nat.ne_of_lt (blk_lt (g := gb520) (o := .cells #[.int .i64 a1_0, .int .i64 a1_1] 23 (0, 0)) (by (with_reducible repeat (first | refine blk_drewN ?_ _ | refine blk_drew ?_ | refine blk_alloc ?_ _)); exact BK520.out)) : gb520 ≠ gb521))
                  have n9_ := Aside0.mk ((by rw [hg]; exact Nat.ne_of_gt (blk_lt (g := gb520) (o := .cells #[.int .i64 a1_0, .int .i64 a1_1] 23 (0, 0)) (by (with_reducible repeat (first | refine blk_drewN ?_ _ | refine blk_drew ?_ | refine blk_alloc ?_ _)); exact BK520.out)) : gb521 ≠ gb520))
                  have z_NB522_521 := fun (h0_ : up b 6 6 = true) (h1_ : up b 6 7 = true) => (show gb522 ≠ gb521 from ((by rw [hg]; exact Nat.ne_of_lt (blk_lt (g := gb522) (o := .cells #[.int .i64 0, .int .i64 0] 23 (0, 0)) (by (with_reducible repeat (first | refine blk_drewN ?_ _ | refine blk_drew ?_ | refine blk_alloc ?_ _)); exact (Q_BK522 ((up_ne (by decide : 7 ≠ 6)).symm.trans h1_) (hoff 10 (by kernel_rfl))))) : gb522 ≠ gb521)))
                  have z_NB521_522 := fun (h0_ : up b 6 6 = true) (h1_ : up b 6 7 = true) => (show gb521 ≠ gb522 from ((by rw [hg]; exact Nat.ne_of_gt (blk_lt (g := gb522) (o := .cells #[.int .i64 0, .int .i64 0] 23 (0, 0)) (by (with_reducible repeat (first | refine blk_drewN ?_ _ | refine blk_drew ?_ | refine blk_alloc ?_ _)); exact (Q_BK522 ((up_ne (by decide : 7 ≠ 6)).symm.trans h1_) (hoff 10 (by kernel_rfl))))) : gb521 ≠ gb522)))
                  have z_NB523_521 := fun (h0_ : up b 6 6 = true) (h1_ : up b 6 8 = true) => (show gb523 ≠ gb521 from ((by rw [hg]; exact Nat.ne_of_lt (blk_lt (g := gb523) (o := .cells #[.int .i64 0, .int .i64 0] 23 (0, 0)) (by (with_reducible repeat (first | refine blk_drewN ?_ _ | refine blk_drew ?_ | refine blk_alloc ?_ _)); exact (Q_BK523 ((up_ne (by decide : 8 ≠ 6)).symm.trans h1_) (hoff 11 (by kernel_rfl))))) : gb523 ≠ gb521)))
                  have z_NB521_523 := fun (h0_ : up b 6 6 = true) (h1_ : up b 6 8 = true) => (show gb521 ≠ gb523 from ((by rw [hg]; exact Nat.ne_of_gt (blk_lt (g := gb523) (o := .cells #[.int .i64 0, .int .i64 0] 23 (0, 0)) (by (with_reducible repeat (first | refine blk_drewN ?_ _ | refine blk_drew ?_ | refine blk_alloc ?_ _)); exact (Q_BK523 ((up_ne (by decide : 8 ≠ 6)).symm.trans h1_) (hoff 11 (by kernel_rfl))))) : gb521 ≠ gb523)))
                  have z_BK522 := fun (h0_ : b 7 = true) (h1_ : b 10 = false) => (show w21.heap[gb522]? = some (.cells #[.int .i64 0, .int .i64 0] 23 (0, 0)) from by first | exact (blk_below (g := gb522) (o := .cells #[.int .i64 0, .int .i64 0] 23 (0, 0)) (by (with_reducible repeat (first | refine blk_drewN ?_ _ | refine blk_drew ?_ | refine blk_alloc ?_ _)); exact (Q_BK522 h0_ h1_)) hb))
                  have z_BK523 := fun (h0_ : b 8 = true) (h1_ : b 11 = false) => (show w21.heap[gb523]? = some (.cells #[.int .i64 0, .int .i64 0] 23 (0, 0)) from by first | exact (blk_below (g := gb523) (o := .cells #[.int .i64 0, .int .i64 0] 23 (0, 0)) (by (with_reducible repeat (first | refine blk_drewN ?_ _ | refine blk_drew ?_ | refine blk_alloc ?_ _)); exact (Q_BK523 h0_ h1_)) hb))
                  clear BK519
                  clear BK520
                  clear HB
                  have BK519 := n0_
                  have BK520 := n1_
                  have HB := n2_
                  have BK521 := n3_
                  have GW521 := n4_
                  have GE521 := n5_
                  have NB519_521 := n6_
                  have NB521_519 := n7_
                  have NB520_521 := n8_
                  have NB521_520 := n9_
                  clear n0_ n1_ n2_ n3_ n4_ n5_ n6_ n7_ n8_ n9_
                  clear hb hbox hg
                  refine hK.out _ _ ⟨gb521, gb522, gb523, (.pointer (some ⟨gb521, 0, none⟩)), m7_, m8_, (by rw [ha.out]; exact putSel_upk 3 hb_ rfl rfl rfl), (by (with_reducible repeat (first | refine blk_drewN ?_ _ | refine blk_drew ?_ | refine blk_alloc ?_ _)); exact BK519.out), (by (with_reducible repeat (first | refine blk_drewN ?_ _ | refine blk_drew ?_ | refine blk_alloc ?_ _)); exact BK520.out), (by repeat (first | (with_reducible first | exact HB.out | apply below_alloc | apply pw_below_drewN | apply below_drew1 | refine below_set ?_ GE519.out | refine below_set ?_ GE520.out | refine below_set ?_ GE521.out) | exact HB.out)), @z_NB522_521, @z_NB521_522, @z_NB523_521, @z_NB521_523, Q_NB523_522, Q_NB522_523, fun _ _ => (by (with_reducible repeat (first | refine blk_drewN ?_ _ | refine blk_drew ?_ | refine blk_alloc ?_ _)); exact BK521.out), fun _ => GW521.out, fun _ => GE521.out, fun _ => NB519_521.out, fun _ => NB521_519.out, fun _ => NB520_521.out, fun _ => NB521_520.out, z_BK522, Q_GW522, Q_GE522, Q_NB519_522, Q_NB522_519, Q_NB520_522, Q_NB522_520, z_BK523, Q_GW523, Q_GE523, Q_NB519_523, Q_NB523_519, Q_NB520_523, Q_NB523_520, fun h0_ => absurd ((hoff 9 (by kernel_rfl)).symm.trans h0_) (by decide), fun h0_ => absurd ((hoff 10 (by kernel_rfl)).symm.trans h0_) (by decide), fun h0_ => absurd ((hoff 11 (by kernel_rfl)).symm.trans h0_) (by decide), fun _ => rfl, Q_X7_, Q_X8_⟩
                refine steps_cons ?_ ?_
                · rintro b a w' ⟨gb521, gb522, gb523, m6_, m7_, m8_, ha, Q_BK519, Q_BK520, Q_HB, Q_NB522_521, Q_NB521_522, Q_NB523_521, Q_NB521_523, Q_NB523_522, Q_NB522_523, Q_BK521, Q_GW521, Q_GE521, Q_NB519_521, Q_NB521_519, Q_NB520_521, Q_NB521_520, Q_BK522, Q_GW522, Q_GE522, Q_NB519_522, Q_NB522_519, Q_NB520_522, Q_NB522_520, Q_BK523, Q_GW523, Q_GE523, Q_NB519_523, Q_NB523_519, Q_NB520_523, Q_NB523_520, Q_BK521_e9, Q_BK522_e10, Q_BK523_e11, Q_X6_, Q_X7_, Q_X8_⟩ hb_ hon hoff
                  refine ⟨_, rfl, fun K hK => ?_⟩
                  replace ha := Aside0.mk ha
                  have BK519 := Aside0.mk Q_BK519
                  have BK520 := Aside0.mk Q_BK520
                  have HB := Aside0.mk Q_HB
                  refine box_step ?hg (N := 6) ?hd (cs := #[.int .i64 0, .int .i64 0]) (t := 23) ?hr ?_; (case hd => rfl); (case hg => rfl); (case hr => first | (go_simp; done) | (go_simp; rfl))
                  intro gb522 hg w21 hbox hb
                  have n0_ := Aside0.mk (blk_below (g := gb519) (o := .cells #[.int .i64 a0_0, .int .i64 a0_1, .int .i64 a0_2, .int .i64 a0_3, .int .i64 a0_4, .int .i64 a0_5] 24 (0, 0)) (by (with_reducible repeat (first | refine blk_drewN ?_ _ | refine blk_drew ?_ | refine blk_alloc ?_ _)); exact BK519.out) hb)
                  have n1_ := Aside0.mk (blk_below (g := gb520) (o := .cells #[.int .i64 a1_0, .int .i64 a1_1] 23 (0, 0)) (by (with_reducible repeat (first | refine blk_drewN ?_ _ | refine blk_drew ?_ | refine blk_alloc ?_ _)); exact BK520.out) hb)
                  have n2_ := Aside0.mk (below_step (by repeat (first | (with_reducible first | exact HB.out | apply below_alloc | apply pw_below_drewN | apply below_drew1 | refine below_set ?_ GE519.out | refine below_set ?_ GE520.out) | exact HB.out)) hb)
                  have n3_ := Aside0.mk (hbox)
                  have n4_ := Aside0.mk ((by rw [hg]; exact (below_size (by repeat (first | (with_reducible first | exact HB.out | apply below_alloc | apply pw_below_drewN | apply below_drew1 | refine below_set ?_ GE519.out | refine below_set ?_ GE520.out) | exact HB.out))) : w.heap.size ≤ gb522))
                  have n5_ := Aside0.mk ((by rw [hg]; exact (below_size (by repeat (first | (with_reducible first | exact HB.out | apply below_alloc | apply pw_below_drewN | apply below_drew1 | refine below_set ?_ GE519.out | refine below_set ?_ GE520.out) | exact HB.out))) : w.heap.size ≤ gb522))
                  have n6_ := Aside0.mk ((by rw [hg]; exact Nat.ne_of_lt (blk_lt (g := gb519) (o := .cells #[.int .i64 a0_0, .int .i64 a0_1, .int .i64 a0_2, .int .i64 a0_3, .int .i64 a0_4, .int .i64 a0_5] 24 (0, 0)) (by (with_reducible repeat (first | refine blk_drewN ?_ _ | refine blk_drew ?_ | refine blk_alloc ?_ _)); exact BK519.out)) : gb519 ≠ gb522))
                  have n7_ := Aside0.mk ((by rw [hg]; exact Nat.ne_of_gt (blk_lt (g := gb519) (o := .cells #[.int .i64 a0_0, .int .i64 a0_1, .int .i64 a0_2, .int .i64 a0_3, .int .i64 a0_4, .int .i64 a0_5] 24 (0, 0)) (by (with_reducible repeat (first | refine blk_drewN ?_ _ | refine blk_drew ?_ | refine blk_alloc ?_ _)); exact BK519.out)) : gb522 ≠ gb519))
                  have n8_ := Aside0.mk ((by rw [hg]; exact Nat.ne_of_lt (blk_lt (g := gb520) (o := .cells #[.int .i64 a1_0, .int .i64 a1_1] 23 (0, 0)) (by (with_reducible repeat (first | refine blk_drewN ?_ _ | refine blk_drew ?_ | refine blk_alloc ?_ _)); exact BK520.out)) : gb520 ≠ gb522))
                  have n9_ := Aside0.mk ((by rw [hg]; exact Nat.ne_of_gt (blk_lt (g := gb520) (o := .cells #[.int .i64 a1_0, .int .i64 a1_1] 23 (0, 0)) (by (with_reducible repeat (first | refine blk_drewN ?_ _ | refine blk_drew ?_ | refine blk_alloc ?_ _)); exact BK520.out)) : gb522 ≠ gb520))
                  have z_NB522_521 := fun (h0_ : up b 7 6 = true) (h1_ : up b 7 7 = true) => (show gb522 ≠ gb521 from ((by rw [hg]; exact Nat.ne_of_gt (blk_lt (g := gb521) (o := .cells #[.int .i64 0, .int .i64 0] 23 (0, 0)) (by (with_reducible repeat (first | refine blk_drewN ?_ _ | refine blk_drew ?_ | refine blk_alloc ?_ _)); exact (Q_BK521 ((up_ne (by decide : 6 ≠ 7)).symm.trans h0_) (hoff 9 (by kernel_rfl))))) : gb522 ≠ gb521)))
                  have z_NB521_522 := fun (h0_ : up b 7 6 = true) (h1_ : up b 7 7 = true) => (show gb521 ≠ gb522 from ((by rw [hg]; exact Nat.ne_of_lt (blk_lt (g := gb521) (o := .cells #[.int .i64 0, .int .i64 0] 23 (0, 0)) (by (with_reducible repeat (first | refine blk_drewN ?_ _ | refine blk_drew ?_ | refine blk_alloc ?_ _)); exact (Q_BK521 ((up_ne (by decide : 6 ≠ 7)).symm.trans h0_) (hoff 9 (by kernel_rfl))))) : gb521 ≠ gb522)))
                  have z_NB523_522 := fun (h0_ : up b 7 7 = true) (h1_ : up b 7 8 = true) => (show gb523 ≠ gb522 from ((by rw [hg]; exact Nat.ne_of_lt (blk_lt (g := gb523) (o := .cells #[.int .i64 0, .int .i64 0] 23 (0, 0)) (by (with_reducible repeat (first | refine blk_drewN ?_ _ | refine blk_drew ?_ | refine blk_alloc ?_ _)); exact (Q_BK523 ((up_ne (by decide : 8 ≠ 7)).symm.trans h1_) (hoff 11 (by kernel_rfl))))) : gb523 ≠ gb522)))
                  have z_NB522_523 := fun (h0_ : up b 7 7 = true) (h1_ : up b 7 8 = true) => (show gb522 ≠ gb523 from ((by rw [hg]; exact Nat.ne_of_gt (blk_lt (g := gb523) (o := .cells #[.int .i64 0, .int .i64 0] 23 (0, 0)) (by (with_reducible repeat (first | refine blk_drewN ?_ _ | refine blk_drew ?_ | refine blk_alloc ?_ _)); exact (Q_BK523 ((up_ne (by decide : 8 ≠ 7)).symm.trans h1_) (hoff 11 (by kernel_rfl))))) : gb522 ≠ gb523)))
                  have z_BK521 := fun (h0_ : b 6 = true) (h1_ : b 9 = false) => (show w21.heap[gb521]? = some (.cells #[.int .i64 0, .int .i64 0] 23 (0, 0)) from by first | exact (blk_below (g := gb521) (o := .cells #[.int .i64 0, .int .i64 0] 23 (0, 0)) (by (with_reducible repeat (first | refine blk_drewN ?_ _ | refine blk_drew ?_ | refine blk_alloc ?_ _)); exact (Q_BK521 h0_ h1_)) hb))
                  have z_BK523 := fun (h0_ : b 8 = true) (h1_ : b 11 = false) => (show w21.heap[gb523]? = some (.cells #[.int .i64 0, .int .i64 0] 23 (0, 0)) from by first | exact (blk_below (g := gb523) (o := .cells #[.int .i64 0, .int .i64 0] 23 (0, 0)) (by (with_reducible repeat (first | refine blk_drewN ?_ _ | refine blk_drew ?_ | refine blk_alloc ?_ _)); exact (Q_BK523 h0_ h1_)) hb))
                  clear BK519
                  clear BK520
                  clear HB
                  have BK519 := n0_
                  have BK520 := n1_
                  have HB := n2_
                  have BK522 := n3_
                  have GW522 := n4_
                  have GE522 := n5_
                  have NB519_522 := n6_
                  have NB522_519 := n7_
                  have NB520_522 := n8_
                  have NB522_520 := n9_
                  clear n0_ n1_ n2_ n3_ n4_ n5_ n6_ n7_ n8_ n9_
                  clear hb hbox hg
                  refine hK.out _ _ ⟨gb521, gb522, gb523, m6_, (.pointer (some ⟨gb522, 0, none⟩)), m8_, (by rw [ha.out]; exact putSel_upk 4 hb_ rfl rfl rfl), (by (with_reducible repeat (first | refine blk_drewN ?_ _ | refine blk_drew ?_ | refine blk_alloc ?_ _)); exact BK519.out), (by (with_reducible repeat (first | refine blk_drewN ?_ _ | refine blk_drew ?_ | refine blk_alloc ?_ _)); exact BK520.out), (by repeat (first | (with_reducible first | exact HB.out | apply below_alloc | apply pw_below_drewN | apply below_drew1 | refine below_set ?_ GE519.out | refine below_set ?_ GE520.out | refine below_set ?_ GE522.out) | exact HB.out)), @z_NB522_521, @z_NB521_522, Q_NB523_521, Q_NB521_523, @z_NB523_522, @z_NB522_523, z_BK521, Q_GW521, Q_GE521, Q_NB519_521, Q_NB521_519, Q_NB520_521, Q_NB521_520, fun _ _ => (by (with_reducible repeat (first | refine blk_drewN ?_ _ | refine blk_drew ?_ | refine blk_alloc ?_ _)); exact BK522.out), fun _ => GW522.out, fun _ => GE522.out, fun _ => NB519_522.out, fun _ => NB522_519.out, fun _ => NB520_522.out, fun _ => NB522_520.out, z_BK523, Q_GW523, Q_GE523, Q_NB519_523, Q_NB523_519, Q_NB520_523, Q_NB523_520, fun h0_ => absurd ((hoff 9 (by kernel_rfl)).symm.trans h0_) (by decide), fun h0_ => absurd ((hoff 10 (by kernel_rfl)).symm.trans h0_) (by decide), fun h0_ => absurd ((hoff 11 (by kernel_rfl)).symm.trans h0_) (by decide), Q_X6_, fun _ => rfl, Q_X8_⟩
                refine steps_cons ?_ ?_
                · rintro b a w' ⟨gb521, gb522, gb523, m6_, m7_, m8_, ha, Q_BK519, Q_BK520, Q_HB, Q_NB522_521, Q_NB521_522, Q_NB523_521, Q_NB521_523, Q_NB523_522, Q_NB522_523, Q_BK521, Q_GW521, Q_GE521, Q_NB519_521, Q_NB521_519, Q_NB520_521, Q_NB521_520, Q_BK522, Q_GW522, Q_GE522, Q_NB519_522, Q_NB522_519, Q_NB520_522, Q_NB522_520, Q_BK523, Q_GW523, Q_GE523, Q_NB519_523, Q_NB523_519, Q_NB520_523, Q_NB523_520, Q_BK521_e9, Q_BK522_e10, Q_BK523_e11, Q_X6_, Q_X7_, Q_X8_⟩ hb_ hon hoff
                  refine ⟨_, rfl, fun K hK => ?_⟩
                  replace ha := Aside0.mk ha
                  have BK519 := Aside0.mk Q_BK519
                  have BK520 := Aside0.mk Q_BK520
                  have HB := Aside0.mk Q_HB
                  refine box_step ?hg (N := 7) ?hd (cs := #[.int .i64 0, .int .i64 0]) (t := 23) ?hr ?_; (case hd => rfl); (case hg => rfl); (case hr => first | (go_simp; done) | (go_simp; rfl))
                  intro gb523 hg w21 hbox hb
                  have n0_ := Aside0.mk (blk_below (g := gb519) (o := .cells #[.int .i64 a0_0, .int .i64 a0_1, .int .i64 a0_2, .int .i64 a0_3, .int .i64 a0_4, .int .i64 a0_5] 24 (0, 0)) (by (with_reducible repeat (first | refine blk_drewN ?_ _ | refine blk_drew ?_ | refine blk_alloc ?_ _)); exact BK519.out) hb)
                  have n1_ := Aside0.mk (blk_below (g := gb520) (o := .cells #[.int .i64 a1_0, .int .i64 a1_1] 23 (0, 0)) (by (with_reducible repeat (first | refine blk_drewN ?_ _ | refine blk_drew ?_ | refine blk_alloc ?_ _)); exact BK520.out) hb)
                  have n2_ := Aside0.mk (below_step (by repeat (first | (with_reducible first | exact HB.out | apply below_alloc | apply pw_below_drewN | apply below_drew1 | refine below_set ?_ GE519.out | refine below_set ?_ GE520.out) | exact HB.out)) hb)
                  have n3_ := Aside0.mk (hbox)
                  have n4_ := Aside0.mk ((by rw [hg]; exact (below_size (by repeat (first | (with_reducible first | exact HB.out | apply below_alloc | apply pw_below_drewN | apply below_drew1 | refine below_set ?_ GE519.out | refine below_set ?_ GE520.out) | exact HB.out))) : w.heap.size ≤ gb523))
                  have n5_ := Aside0.mk ((by rw [hg]; exact (below_size (by repeat (first | (with_reducible first | exact HB.out | apply below_alloc | apply pw_below_drewN | apply below_drew1 | refine below_set ?_ GE519.out | refine below_set ?_ GE520.out) | exact HB.out))) : w.heap.size ≤ gb523))
                  have n6_ := Aside0.mk ((by rw [hg]; exact Nat.ne_of_lt (blk_lt (g := gb519) (o := .cells #[.int .i64 a0_0, .int .i64 a0_1, .int .i64 a0_2, .int .i64 a0_3, .int .i64 a0_4, .int .i64 a0_5] 24 (0, 0)) (by (with_reducible repeat (first | refine blk_drewN ?_ _ | refine blk_drew ?_ | refine blk_alloc ?_ _)); exact BK519.out)) : gb519 ≠ gb523))
                  have n7_ := Aside0.mk ((by rw [hg]; exact Nat.ne_of_gt (blk_lt (g := gb519) (o := .cells #[.int .i64 a0_0, .int .i64 a0_1, .int .i64 a0_2, .int .i64 a0_3, .int .i64 a0_4, .int .i64 a0_5] 24 (0, 0)) (by (with_reducible repeat (first | refine blk_drewN ?_ _ | refine blk_drew ?_ | refine blk_alloc ?_ _)); exact BK519.out)) : gb523 ≠ gb519))
                  have n8_ := Aside0.mk ((by rw [hg]; exact Nat.ne_of_lt (blk_lt (g := gb520) (o := .cells #[.int .i64 a1_0, .int .i64 a1_1] 23 (0, 0)) (by (with_reducible repeat (first | refine blk_drewN ?_ _ | refine blk_drew ?_ | refine blk_alloc ?_ _)); exact BK520.out)) : gb520 ≠ gb523))
                  have n9_ := Aside0.mk ((by rw [hg]; exact Nat.ne_of_gt (blk_lt (g := gb520) (o := .cells #[.int .i64 a1_0, .int .i64 a1_1] 23 (0, 0)) (by (with_reducible repeat (first | refine blk_drewN ?_ _ | refine blk_drew ?_ | refine blk_alloc ?_ _)); exact BK520.out)) : gb523 ≠ gb520))
                  have z_NB523_521 := fun (h0_ : up b 8 6 = true) (h1_ : up b 8 8 = true) => (show gb523 ≠ gb521 from ((by rw [hg]; exact Nat.ne_of_gt (blk_lt (g := gb521) (o := .cells #[.int .i64 0, .int .i64 0] 23 (0, 0)) (by (with_reducible repeat (first | refine blk_drewN ?_ _ | refine blk_drew ?_ | refine blk_alloc ?_ _)); exact (Q_BK521 ((up_ne (by decide : 6 ≠ 8)).symm.trans h0_) (hoff 9 (by kernel_rfl))))) : gb523 ≠ gb521)))
                  have z_NB521_523 := fun (h0_ : up b 8 6 = true) (h1_ : up b 8 8 = true) => (show gb521 ≠ gb523 from ((by rw [hg]; exact Nat.ne_of_lt (blk_lt (g := gb521) (o := .cells #[.int .i64 0, .int .i64 0] 23 (0, 0)) (by (with_reducible repeat (first | refine blk_drewN ?_ _ | refine blk_drew ?_ | refine blk_alloc ?_ _)); exact (Q_BK521 ((up_ne (by decide : 6 ≠ 8)).symm.trans h0_) (hoff 9 (by kernel_rfl))))) : gb521 ≠ gb523)))
                  have z_NB523_522 := fun (h0_ : up b 8 7 = true) (h1_ : up b 8 8 = true) => (show gb523 ≠ gb522 from ((by rw [hg]; exact Nat.ne_of_gt (blk_lt (g := gb522) (o := .cells #[.int .i64 0, .int .i64 0] 23 (0, 0)) (by (with_reducible repeat (first | refine blk_drewN ?_ _ | refine blk_drew ?_ | refine blk_alloc ?_ _)); exact (Q_BK522 ((up_ne (by decide : 7 ≠ 8)).symm.trans h0_) (hoff 10 (by kernel_rfl))))) : gb523 ≠ gb522)))
                  have z_NB522_523 := fun (h0_ : up b 8 7 = true) (h1_ : up b 8 8 = true) => (show gb522 ≠ gb523 from ((by rw [hg]; exact Nat.ne_of_lt (blk_lt (g := gb522) (o := .cells #[.int .i64 0, .int .i64 0] 23 (0, 0)) (by (with_reducible repeat (first | refine blk_drewN ?_ _ | refine blk_drew ?_ | refine blk_alloc ?_ _)); exact (Q_BK522 ((up_ne (by decide : 7 ≠ 8)).symm.trans h0_) (hoff 10 (by kernel_rfl))))) : gb522 ≠ gb523)))
                  have z_BK521 := fun (h0_ : b 6 = true) (h1_ : b 9 = false) => (show w21.heap[gb521]? = some (.cells #[.int .i64 0, .int .i64 0] 23 (0, 0)) from by first | exact (blk_below (g := gb521) (o := .cells #[.int .i64 0, .int .i64 0] 23 (0, 0)) (by (with_reducible repeat (first | refine blk_drewN ?_ _ | refine blk_drew ?_ | refine blk_alloc ?_ _)); exact (Q_BK521 h0_ h1_)) hb))
                  have z_BK522 := fun (h0_ : b 7 = true) (h1_ : b 10 = false) => (show w21.heap[gb522]? = some (.cells #[.int .i64 0, .int .i64 0] 23 (0, 0)) from by first | exact (blk_below (g := gb522) (o := .cells #[.int .i64 0, .int .i64 0] 23 (0, 0)) (by (with_reducible repeat (first | refine blk_drewN ?_ _ | refine blk_drew ?_ | refine blk_alloc ?_ _)); exact (Q_BK522 h0_ h1_)) hb))
                  clear BK519
                  clear BK520
                  clear HB
                  have BK519 := n0_
                  have BK520 := n1_
                  have HB := n2_
                  have BK523 := n3_
                  have GW523 := n4_
                  have GE523 := n5_
                  have NB519_523 := n6_
                  have NB523_519 := n7_
                  have NB520_523 := n8_
                  have NB523_520 := n9_
                  clear n0_ n1_ n2_ n3_ n4_ n5_ n6_ n7_ n8_ n9_
                  clear hb hbox hg
                  refine hK.out _ _ ⟨gb521, gb522, gb523, m6_, m7_, (.pointer (some ⟨gb523, 0, none⟩)), (by rw [ha.out]; exact putSel_upk 5 hb_ rfl rfl rfl), (by (with_reducible repeat (first | refine blk_drewN ?_ _ | refine blk_drew ?_ | refine blk_alloc ?_ _)); exact BK519.out), (by (with_reducible repeat (first | refine blk_drewN ?_ _ | refine blk_drew ?_ | refine blk_alloc ?_ _)); exact BK520.out), (by repeat (first | (with_reducible first | exact HB.out | apply below_alloc | apply pw_below_drewN | apply below_drew1 | refine below_set ?_ GE519.out | refine below_set ?_ GE520.out | refine below_set ?_ GE523.out) | exact HB.out)), Q_NB522_521, Q_NB521_522, @z_NB523_521, @z_NB521_523, @z_NB523_522, @z_NB522_523, z_BK521, Q_GW521, Q_GE521, Q_NB519_521, Q_NB521_519, Q_NB520_521, Q_NB521_520, z_BK522, Q_GW522, Q_GE522, Q_NB519_522, Q_NB522_519, Q_NB520_522, Q_NB522_520, fun _ _ => (by (with_reducible repeat (first | refine blk_drewN ?_ _ | refine blk_drew ?_ | refine blk_alloc ?_ _)); exact BK523.out), fun _ => GW523.out, fun _ => GE523.out, fun _ => NB519_523.out, fun _ => NB523_519.out, fun _ => NB520_523.out, fun _ => NB523_520.out, fun h0_ => absurd ((hoff 9 (by kernel_rfl)).symm.trans h0_) (by decide), fun h0_ => absurd ((hoff 10 (by kernel_rfl)).symm.trans h0_) (by decide), fun h0_ => absurd ((hoff 11 (by kernel_rfl)).symm.trans h0_) (by decide), Q_X6_, Q_X7_, fun _ => rfl⟩
                refine steps_cons ?_ ?_
                · rintro b a w' ⟨gb521, gb522, gb523, m6_, m7_, m8_, ha, Q_BK519, Q_BK520, Q_HB, Q_NB522_521, Q_NB521_522, Q_NB523_521, Q_NB521_523, Q_NB523_522, Q_NB522_523, Q_BK521, Q_GW521, Q_GE521, Q_NB519_521, Q_NB521_519, Q_NB520_521, Q_NB521_520, Q_BK522, Q_GW522, Q_GE522, Q_NB519_522, Q_NB522_519, Q_NB520_522, Q_NB522_520, Q_BK523, Q_GW523, Q_GE523, Q_NB519_523, Q_NB523_519, Q_NB520_523, Q_NB523_520, Q_BK521_e9, Q_BK522_e10, Q_BK523_e11, Q_X6_, Q_X7_, Q_X8_⟩ hb_ hon hoff
                  refine ⟨_, rfl, fun K hK => ?_⟩
                  have e5 : a.tmps[5]? = some (m6_) := by rw [ha]; exact putSel_on (e := (6, 5, m6_)) 3 rfl rfl (hon 6 (by kernel_rfl)) rfl
                  rw [Q_X6_ (hon 6 (by kernel_rfl))] at e5
                  have e11 : a.tmps[11]? = some (.agg #[.int .i64 a0_0, .int .i64 a0_1]) := by rw [ha]; exact putSel_on (e := (1, 11, .agg #[.int .i64 a0_0, .int .i64 a0_1])) 0 rfl rfl (hon 1 (by kernel_rfl)) rfl
                  replace ha := Aside0.mk ha
                  have BK519 := Aside0.mk Q_BK519
                  have BK520 := Aside0.mk Q_BK520
                  have HB := Aside0.mk Q_HB
                  have NB522_521 := Aside0.mk (Q_NB522_521 (hon 6 (by kernel_rfl)) (hon 7 (by kernel_rfl)))
                  have NB521_522 := Aside0.mk (Q_NB521_522 (hon 6 (by kernel_rfl)) (hon 7 (by kernel_rfl)))
                  have NB523_521 := Aside0.mk (Q_NB523_521 (hon 6 (by kernel_rfl)) (hon 8 (by kernel_rfl)))
                  have NB521_523 := Aside0.mk (Q_NB521_523 (hon 6 (by kernel_rfl)) (hon 8 (by kernel_rfl)))
                  have NB523_522 := Aside0.mk (Q_NB523_522 (hon 7 (by kernel_rfl)) (hon 8 (by kernel_rfl)))
                  have NB522_523 := Aside0.mk (Q_NB522_523 (hon 7 (by kernel_rfl)) (hon 8 (by kernel_rfl)))
                  have BK521 := Aside0.mk (Q_BK521 (hon 6 (by kernel_rfl)) hb_)
                  have GW521 := Aside0.mk (Q_GW521 (hon 6 (by kernel_rfl)))
                  have GE521 := Aside0.mk (Q_GE521 (hon 6 (by kernel_rfl)))
                  have NB519_521 := Aside0.mk (Q_NB519_521 (hon 6 (by kernel_rfl)))
                  have NB521_519 := Aside0.mk (Q_NB521_519 (hon 6 (by kernel_rfl)))
                  have NB520_521 := Aside0.mk (Q_NB520_521 (hon 6 (by kernel_rfl)))
                  have NB521_520 := Aside0.mk (Q_NB521_520 (hon 6 (by kernel_rfl)))
                  have BK522 := Aside0.mk (Q_BK522 (hon 7 (by kernel_rfl)) (hoff 10 (by kernel_rfl)))
                  have GW522 := Aside0.mk (Q_GW522 (hon 7 (by kernel_rfl)))
                  have GE522 := Aside0.mk (Q_GE522 (hon 7 (by kernel_rfl)))
                  have NB519_522 := Aside0.mk (Q_NB519_522 (hon 7 (by kernel_rfl)))
                  have NB522_519 := Aside0.mk (Q_NB522_519 (hon 7 (by kernel_rfl)))
                  have NB520_522 := Aside0.mk (Q_NB520_522 (hon 7 (by kernel_rfl)))
                  have NB522_520 := Aside0.mk (Q_NB522_520 (hon 7 (by kernel_rfl)))
                  have BK523 := Aside0.mk (Q_BK523 (hon 8 (by kernel_rfl)) (hoff 11 (by kernel_rfl)))
                  have GW523 := Aside0.mk (Q_GW523 (hon 8 (by kernel_rfl)))
                  have GE523 := Aside0.mk (Q_GE523 (hon 8 (by kernel_rfl)))
                  have NB519_523 := Aside0.mk (Q_NB519_523 (hon 8 (by kernel_rfl)))
                  have NB523_519 := Aside0.mk (Q_NB523_519 (hon 8 (by kernel_rfl)))
                  have NB520_523 := Aside0.mk (Q_NB520_523 (hon 8 (by kernel_rfl)))
                  have NB523_520 := Aside0.mk (Q_NB523_520 (hon 8 (by kernel_rfl)))
                  have hs25 : w'.cell? ⟨gb521, 0, none⟩ = some (.int .i64 0) := (blk_cell BK521.out 0).trans rfl
                  have hfs25 := blk_frozen BK521.out 0
                  have hns25_0 := NB519_521.out
                  have hns25_1 := NB520_521.out
                  have hns25_3 := NB522_521.out
                  have hns25_4 := NB523_521.out
                  have hms25_0 := NB521_519.out
                  have hms25_1 := NB521_520.out
                  have hms25_3 := NB521_522.out
                  have hms25_4 := NB521_523.out
                  have hs26 : w'.cell? ⟨gb521, 1, none⟩ = some (.int .i64 0) := (blk_cell BK521.out 1).trans rfl
                  have hfs26 := blk_frozen BK521.out 1
                  have hns26_0 := NB519_521.out
                  have hns26_1 := NB520_521.out
                  have hns26_3 := NB522_521.out
                  have hns26_4 := NB523_521.out
                  have hms26_0 := NB521_519.out
                  have hms26_1 := NB521_520.out
                  have hms26_3 := NB521_522.out
                  have hms26_4 := NB521_523.out
                  refine skip_ (w1 := ?_) (by rfl) rfl ?_ ?_
                  rotate_left
                  · go_simp
                    rfl
                  refine hK.out _ _ ⟨gb521, gb522, gb523, m6_, m7_, m8_, (by rw [ha.out]; exact putSel_none (v := undef) rfl), (by (with_reducible repeat (first | refine blk_drewN ?_ _ | refine blk_drew ?_ | refine blk_alloc ?_ _)); refine blk_far ?_ NB519_521.out _; (with_reducible repeat (first | refine blk_drewN ?_ _ | refine blk_drew ?_ | refine blk_alloc ?_ _)); refine blk_far ?_ NB519_521.out _; (with_reducible repeat (first | refine blk_drewN ?_ _ | refine blk_drew ?_ | refine blk_alloc ?_ _)); exact BK519.out), (by (with_reducible repeat (first | refine blk_drewN ?_ _ | refine blk_drew ?_ | refine blk_alloc ?_ _)); refine blk_far ?_ NB520_521.out _; (with_reducible repeat (first | refine blk_drewN ?_ _ | refine blk_drew ?_ | refine blk_alloc ?_ _)); refine blk_far ?_ NB520_521.out _; (with_reducible repeat (first | refine blk_drewN ?_ _ | refine blk_drew ?_ | refine blk_alloc ?_ _)); exact BK520.out), (by repeat (first | (with_reducible first | exact HB.out | apply below_alloc | apply pw_below_drewN | apply below_drew1 | refine below_set ?_ GE519.out | refine below_set ?_ GE520.out | refine below_set ?_ GE521.out | refine below_set ?_ GE522.out | refine below_set ?_ GE523.out) | exact HB.out)), fun _ _ => NB522_521.out, fun _ _ => NB521_522.out, fun _ _ => NB523_521.out, fun _ _ => NB521_523.out, fun _ _ => NB523_522.out, fun _ _ => NB522_523.out, fun _ h1_ => absurd ((up_self b 9).symm.trans h1_) (by decide), fun _ => GW521.out, fun _ => GE521.out, fun _ => NB519_521.out, fun _ => NB521_519.out, fun _ => NB520_521.out, fun _ => NB521_520.out, fun _ _ => (by (with_reducible repeat (first | refine blk_drewN ?_ _ | refine blk_drew ?_ | refine blk_alloc ?_ _)); refine blk_far ?_ NB522_521.out _; (with_reducible repeat (first | refine blk_drewN ?_ _ | refine blk_drew ?_ | refine blk_alloc ?_ _)); refine blk_far ?_ NB522_521.out _; (with_reducible repeat (first | refine blk_drewN ?_ _ | refine blk_drew ?_ | refine blk_alloc ?_ _)); exact BK522.out), fun _ => GW522.out, fun _ => GE522.out, fun _ => NB519_522.out, fun _ => NB522_519.out, fun _ => NB520_522.out, fun _ => NB522_520.out, fun _ _ => (by (with_reducible repeat (first | refine blk_drewN ?_ _ | refine blk_drew ?_ | refine blk_alloc ?_ _)); refine blk_far ?_ NB523_521.out _; (with_reducible repeat (first | refine blk_drewN ?_ _ | refine blk_drew ?_ | refine blk_alloc ?_ _)); refine blk_far ?_ NB523_521.out _; (with_reducible repeat (first | refine blk_drewN ?_ _ | refine blk_drew ?_ | refine blk_alloc ?_ _)); exact BK523.out), fun _ => GW523.out, fun _ => GE523.out, fun _ => NB519_523.out, fun _ => NB523_519.out, fun _ => NB520_523.out, fun _ => NB523_520.out, fun _ => (by (with_reducible repeat (first | refine blk_drewN ?_ _ | refine blk_drew ?_ | refine blk_alloc ?_ _)); refine blk_put (cs := #[.int .i64 a0_0, .int .i64 0]) ?_ 1 _ rfl; (with_reducible repeat (first | refine blk_drewN ?_ _ | refine blk_drew ?_ | refine blk_alloc ?_ _)); refine blk_put (cs := #[.int .i64 0, .int .i64 0]) ?_ 0 _ rfl; (with_reducible repeat (first | refine blk_drewN ?_ _ | refine blk_drew ?_ | refine blk_alloc ?_ _)); exact BK521.out), fun h0_ => absurd ((hoff 10 (by kernel_rfl)).symm.trans h0_) (by decide), fun h0_ => absurd ((hoff 11 (by kernel_rfl)).symm.trans h0_) (by decide), Q_X6_, Q_X7_, Q_X8_⟩
                refine steps_cons ?_ ?_
                · rintro b a w' ⟨gb521, gb522, gb523, m6_, m7_, m8_, ha, Q_BK519, Q_BK520, Q_HB, Q_NB522_521, Q_NB521_522, Q_NB523_521, Q_NB521_523, Q_NB523_522, Q_NB522_523, Q_BK521, Q_GW521, Q_GE521, Q_NB519_521, Q_NB521_519, Q_NB520_521, Q_NB521_520, Q_BK522, Q_GW522, Q_GE522, Q_NB519_522, Q_NB522_519, Q_NB520_522, Q_NB522_520, Q_BK523, Q_GW523, Q_GE523, Q_NB519_523, Q_NB523_519, Q_NB520_523, Q_NB523_520, Q_BK521_e9, Q_BK522_e10, Q_BK523_e11, Q_X6_, Q_X7_, Q_X8_⟩ hb_ hon hoff
                  refine ⟨_, rfl, fun K hK => ?_⟩
                  have e6 : a.tmps[6]? = some (m7_) := by rw [ha]; exact putSel_on (e := (7, 6, m7_)) 4 rfl rfl (hon 7 (by kernel_rfl)) rfl
                  rw [Q_X7_ (hon 7 (by kernel_rfl))] at e6
                  have e13 : a.tmps[13]? = some (.agg #[.int .i64 a0_2, .int .i64 a0_3]) := by rw [ha]; exact putSel_on (e := (3, 13, .agg #[.int .i64 a0_2, .int .i64 a0_3])) 1 rfl rfl (hon 3 (by kernel_rfl)) rfl
                  replace ha := Aside0.mk ha
                  have BK519 := Aside0.mk Q_BK519
                  have BK520 := Aside0.mk Q_BK520
                  have HB := Aside0.mk Q_HB
                  have NB522_521 := Aside0.mk (Q_NB522_521 (hon 6 (by kernel_rfl)) (hon 7 (by kernel_rfl)))
                  have NB521_522 := Aside0.mk (Q_NB521_522 (hon 6 (by kernel_rfl)) (hon 7 (by kernel_rfl)))
                  have NB523_521 := Aside0.mk (Q_NB523_521 (hon 6 (by kernel_rfl)) (hon 8 (by kernel_rfl)))
                  have NB521_523 := Aside0.mk (Q_NB521_523 (hon 6 (by kernel_rfl)) (hon 8 (by kernel_rfl)))
                  have NB523_522 := Aside0.mk (Q_NB523_522 (hon 7 (by kernel_rfl)) (hon 8 (by kernel_rfl)))
                  have NB522_523 := Aside0.mk (Q_NB522_523 (hon 7 (by kernel_rfl)) (hon 8 (by kernel_rfl)))
                  have GW521 := Aside0.mk (Q_GW521 (hon 6 (by kernel_rfl)))
                  have GE521 := Aside0.mk (Q_GE521 (hon 6 (by kernel_rfl)))
                  have NB519_521 := Aside0.mk (Q_NB519_521 (hon 6 (by kernel_rfl)))
                  have NB521_519 := Aside0.mk (Q_NB521_519 (hon 6 (by kernel_rfl)))
                  have NB520_521 := Aside0.mk (Q_NB520_521 (hon 6 (by kernel_rfl)))
                  have NB521_520 := Aside0.mk (Q_NB521_520 (hon 6 (by kernel_rfl)))
                  have BK522 := Aside0.mk (Q_BK522 (hon 7 (by kernel_rfl)) hb_)
                  have GW522 := Aside0.mk (Q_GW522 (hon 7 (by kernel_rfl)))
                  have GE522 := Aside0.mk (Q_GE522 (hon 7 (by kernel_rfl)))
                  have NB519_522 := Aside0.mk (Q_NB519_522 (hon 7 (by kernel_rfl)))
                  have NB522_519 := Aside0.mk (Q_NB522_519 (hon 7 (by kernel_rfl)))
                  have NB520_522 := Aside0.mk (Q_NB520_522 (hon 7 (by kernel_rfl)))
                  have NB522_520 := Aside0.mk (Q_NB522_520 (hon 7 (by kernel_rfl)))
                  have BK523 := Aside0.mk (Q_BK523 (hon 8 (by kernel_rfl)) (hoff 11 (by kernel_rfl)))
                  have GW523 := Aside0.mk (Q_GW523 (hon 8 (by kernel_rfl)))
                  have GE523 := Aside0.mk (Q_GE523 (hon 8 (by kernel_rfl)))
                  have NB519_523 := Aside0.mk (Q_NB519_523 (hon 8 (by kernel_rfl)))
                  have NB523_519 := Aside0.mk (Q_NB523_519 (hon 8 (by kernel_rfl)))
                  have NB520_523 := Aside0.mk (Q_NB520_523 (hon 8 (by kernel_rfl)))
                  have NB523_520 := Aside0.mk (Q_NB523_520 (hon 8 (by kernel_rfl)))
                  have BK521 := Aside0.mk (Q_BK521_e9 (hon 9 (by kernel_rfl)))
                  have hs27 : w'.cell? ⟨gb522, 0, none⟩ = some (.int .i64 0) := (blk_cell BK522.out 0).trans rfl
                  have hfs27 := blk_frozen BK522.out 0
                  have hns27_0 := NB519_522.out
                  have hns27_1 := NB520_522.out
                  have hns27_2 := NB521_522.out
                  have hns27_4 := NB523_522.out
                  have hms27_0 := NB522_519.out
                  have hms27_1 := NB522_520.out
                  have hms27_2 := NB522_521.out
                  have hms27_4 := NB522_523.out
                  have hs28 : w'.cell? ⟨gb522, 1, none⟩ = some (.int .i64 0) := (blk_cell BK522.out 1).trans rfl
                  have hfs28 := blk_frozen BK522.out 1
                  have hns28_0 := NB519_522.out
                  have hns28_1 := NB520_522.out
                  have hns28_2 := NB521_522.out
                  have hns28_4 := NB523_522.out
                  have hms28_0 := NB522_519.out
                  have hms28_1 := NB522_520.out
                  have hms28_2 := NB522_521.out
                  have hms28_4 := NB522_523.out
                  refine skip_ (w1 := ?_) (by rfl) rfl ?_ ?_
                  rotate_left
                  · go_simp
                    rfl
                  refine hK.out _ _ ⟨gb521, gb522, gb523, m6_, m7_, m8_, (by rw [ha.out]; exact putSel_none (v := undef) rfl), (by (with_reducible repeat (first | refine blk_drewN ?_ _ | refine blk_drew ?_ | refine blk_alloc ?_ _)); refine blk_far ?_ NB519_522.out _; (with_reducible repeat (first | refine blk_drewN ?_ _ | refine blk_drew ?_ | refine blk_alloc ?_ _)); refine blk_far ?_ NB519_522.out _; (with_reducible repeat (first | refine blk_drewN ?_ _ | refine blk_drew ?_ | refine blk_alloc ?_ _)); exact BK519.out), (by (with_reducible repeat (first | refine blk_drewN ?_ _ | refine blk_drew ?_ | refine blk_alloc ?_ _)); refine blk_far ?_ NB520_522.out _; (with_reducible repeat (first | refine blk_drewN ?_ _ | refine blk_drew ?_ | refine blk_alloc ?_ _)); refine blk_far ?_ NB520_522.out _; (with_reducible repeat (first | refine blk_drewN ?_ _ | refine blk_drew ?_ | refine blk_alloc ?_ _)); exact BK520.out), (by repeat (first | (with_reducible first | exact HB.out | apply below_alloc | apply pw_below_drewN | apply below_drew1 | refine below_set ?_ GE519.out | refine below_set ?_ GE520.out | refine below_set ?_ GE521.out | refine below_set ?_ GE522.out | refine below_set ?_ GE523.out) | exact HB.out)), fun _ _ => NB522_521.out, fun _ _ => NB521_522.out, fun _ _ => NB523_521.out, fun _ _ => NB521_523.out, fun _ _ => NB523_522.out, fun _ _ => NB522_523.out, fun _ h1_ => absurd ((hon 9 (by kernel_rfl)).symm.trans h1_) (by decide), fun _ => GW521.out, fun _ => GE521.out, fun _ => NB519_521.out, fun _ => NB521_519.out, fun _ => NB520_521.out, fun _ => NB521_520.out, fun _ h1_ => absurd ((up_self b 10).symm.trans h1_) (by decide), fun _ => GW522.out, fun _ => GE522.out, fun _ => NB519_522.out, fun _ => NB522_519.out, fun _ => NB520_522.out, fun _ => NB522_520.out, fun _ _ => (by (with_reducible repeat (first | refine blk_drewN ?_ _ | refine blk_drew ?_ | refine blk_alloc ?_ _)); refine blk_far ?_ NB523_522.out _; (with_reducible repeat (first | refine blk_drewN ?_ _ | refine blk_drew ?_ | refine blk_alloc ?_ _)); refine blk_far ?_ NB523_522.out _; (with_reducible repeat (first | refine blk_drewN ?_ _ | refine blk_drew ?_ | refine blk_alloc ?_ _)); exact BK523.out), fun _ => GW523.out, fun _ => GE523.out, fun _ => NB519_523.out, fun _ => NB523_519.out, fun _ => NB520_523.out, fun _ => NB523_520.out, fun _ => (by (with_reducible repeat (first | refine blk_drewN ?_ _ | refine blk_drew ?_ | refine blk_alloc ?_ _)); refine blk_far ?_ NB521_522.out _; (with_reducible repeat (first | refine blk_drewN ?_ _ | refine blk_drew ?_ | refine blk_alloc ?_ _)); refine blk_far ?_ NB521_522.out _; (with_reducible repeat (first | refine blk_drewN ?_ _ | refine blk_drew ?_ | refine blk_alloc ?_ _)); exact BK521.out), fun _ => (by (with_reducible repeat (first | refine blk_drewN ?_ _ | refine blk_drew ?_ | refine blk_alloc ?_ _)); refine blk_put (cs := #[.int .i64 a0_2, .int .i64 0]) ?_ 1 _ rfl; (with_reducible repeat (first | refine blk_drewN ?_ _ | refine blk_drew ?_ | refine blk_alloc ?_ _)); refine blk_put (cs := #[.int .i64 0, .int .i64 0]) ?_ 0 _ rfl; (with_reducible repeat (first | refine blk_drewN ?_ _ | refine blk_drew ?_ | refine blk_alloc ?_ _)); exact BK522.out), fun h0_ => absurd ((hoff 11 (by kernel_rfl)).symm.trans h0_) (by decide), Q_X6_, Q_X7_, Q_X8_⟩
                refine steps_cons ?_ ?_
                · rintro b a w' ⟨gb521, gb522, gb523, m6_, m7_, m8_, ha, Q_BK519, Q_BK520, Q_HB, Q_NB522_521, Q_NB521_522, Q_NB523_521, Q_NB521_523, Q_NB523_522, Q_NB522_523, Q_BK521, Q_GW521, Q_GE521, Q_NB519_521, Q_NB521_519, Q_NB520_521, Q_NB521_520, Q_BK522, Q_GW522, Q_GE522, Q_NB519_522, Q_NB522_519, Q_NB520_522, Q_NB522_520, Q_BK523, Q_GW523, Q_GE523, Q_NB519_523, Q_NB523_519, Q_NB520_523, Q_NB523_520, Q_BK521_e9, Q_BK522_e10, Q_BK523_e11, Q_X6_, Q_X7_, Q_X8_⟩ hb_ hon hoff
                  refine ⟨_, rfl, fun K hK => ?_⟩
                  have e7 : a.tmps[7]? = some (m8_) := by rw [ha]; exact putSel_on (e := (8, 7, m8_)) 5 rfl rfl (hon 8 (by kernel_rfl)) rfl
                  rw [Q_X8_ (hon 8 (by kernel_rfl))] at e7
                  have e15 : a.tmps[15]? = some (.agg #[.int .i64 a0_4, .int .i64 a0_5]) := by rw [ha]; exact putSel_on (e := (5, 15, .agg #[.int .i64 a0_4, .int .i64 a0_5])) 2 rfl rfl (hon 5 (by kernel_rfl)) rfl
                  replace ha := Aside0.mk ha
                  have BK519 := Aside0.mk Q_BK519
                  have BK520 := Aside0.mk Q_BK520
                  have HB := Aside0.mk Q_HB
                  have NB522_521 := Aside0.mk (Q_NB522_521 (hon 6 (by kernel_rfl)) (hon 7 (by kernel_rfl)))
                  have NB521_522 := Aside0.mk (Q_NB521_522 (hon 6 (by kernel_rfl)) (hon 7 (by kernel_rfl)))
                  have NB523_521 := Aside0.mk (Q_NB523_521 (hon 6 (by kernel_rfl)) (hon 8 (by kernel_rfl)))
                  have NB521_523 := Aside0.mk (Q_NB521_523 (hon 6 (by kernel_rfl)) (hon 8 (by kernel_rfl)))
                  have NB523_522 := Aside0.mk (Q_NB523_522 (hon 7 (by kernel_rfl)) (hon 8 (by kernel_rfl)))
                  have NB522_523 := Aside0.mk (Q_NB522_523 (hon 7 (by kernel_rfl)) (hon 8 (by kernel_rfl)))
                  have GW521 := Aside0.mk (Q_GW521 (hon 6 (by kernel_rfl)))
                  have GE521 := Aside0.mk (Q_GE521 (hon 6 (by kernel_rfl)))
                  have NB519_521 := Aside0.mk (Q_NB519_521 (hon 6 (by kernel_rfl)))
                  have NB521_519 := Aside0.mk (Q_NB521_519 (hon 6 (by kernel_rfl)))
                  have NB520_521 := Aside0.mk (Q_NB520_521 (hon 6 (by kernel_rfl)))
                  have NB521_520 := Aside0.mk (Q_NB521_520 (hon 6 (by kernel_rfl)))
                  have GW522 := Aside0.mk (Q_GW522 (hon 7 (by kernel_rfl)))
                  have GE522 := Aside0.mk (Q_GE522 (hon 7 (by kernel_rfl)))
                  have NB519_522 := Aside0.mk (Q_NB519_522 (hon 7 (by kernel_rfl)))
                  have NB522_519 := Aside0.mk (Q_NB522_519 (hon 7 (by kernel_rfl)))
                  have NB520_522 := Aside0.mk (Q_NB520_522 (hon 7 (by kernel_rfl)))
                  have NB522_520 := Aside0.mk (Q_NB522_520 (hon 7 (by kernel_rfl)))
                  have BK523 := Aside0.mk (Q_BK523 (hon 8 (by kernel_rfl)) hb_)
                  have GW523 := Aside0.mk (Q_GW523 (hon 8 (by kernel_rfl)))
                  have GE523 := Aside0.mk (Q_GE523 (hon 8 (by kernel_rfl)))
                  have NB519_523 := Aside0.mk (Q_NB519_523 (hon 8 (by kernel_rfl)))
                  have NB523_519 := Aside0.mk (Q_NB523_519 (hon 8 (by kernel_rfl)))
                  have NB520_523 := Aside0.mk (Q_NB520_523 (hon 8 (by kernel_rfl)))
                  have NB523_520 := Aside0.mk (Q_NB523_520 (hon 8 (by kernel_rfl)))
                  have BK521 := Aside0.mk (Q_BK521_e9 (hon 9 (by kernel_rfl)))
                  have BK522 := Aside0.mk (Q_BK522_e10 (hon 10 (by kernel_rfl)))
                  have hs29 : w'.cell? ⟨gb523, 0, none⟩ = some (.int .i64 0) := (blk_cell BK523.out 0).trans rfl
                  have hfs29 := blk_frozen BK523.out 0
                  have hns29_0 := NB519_523.out
                  have hns29_1 := NB520_523.out
                  have hns29_2 := NB521_523.out
                  have hns29_3 := NB522_523.out
                  have hms29_0 := NB523_519.out
                  have hms29_1 := NB523_520.out
                  have hms29_2 := NB523_521.out
                  have hms29_3 := NB523_522.out
                  have hs30 : w'.cell? ⟨gb523, 1, none⟩ = some (.int .i64 0) := (blk_cell BK523.out 1).trans rfl
                  have hfs30 := blk_frozen BK523.out 1
                  have hns30_0 := NB519_523.out
                  have hns30_1 := NB520_523.out
                  have hns30_2 := NB521_523.out
                  have hns30_3 := NB522_523.out
                  have hms30_0 := NB523_519.out
                  have hms30_1 := NB523_520.out
                  have hms30_2 := NB523_521.out
                  have hms30_3 := NB523_522.out
                  refine skip_ (w1 := ?_) (by rfl) rfl ?_ ?_
                  rotate_left
                  · go_simp
                    rfl
                  refine hK.out _ _ ⟨gb521, gb522, gb523, m6_, m7_, m8_, (by rw [ha.out]; exact putSel_none (v := undef) rfl), (by (with_reducible repeat (first | refine blk_drewN ?_ _ | refine blk_drew ?_ | refine blk_alloc ?_ _)); refine blk_far ?_ NB519_523.out _; (with_reducible repeat (first | refine blk_drewN ?_ _ | refine blk_drew ?_ | refine blk_alloc ?_ _)); refine blk_far ?_ NB519_523.out _; (with_reducible repeat (first | refine blk_drewN ?_ _ | refine blk_drew ?_ | refine blk_alloc ?_ _)); exact BK519.out), (by (with_reducible repeat (first | refine blk_drewN ?_ _ | refine blk_drew ?_ | refine blk_alloc ?_ _)); refine blk_far ?_ NB520_523.out _; (with_reducible repeat (first | refine blk_drewN ?_ _ | refine blk_drew ?_ | refine blk_alloc ?_ _)); refine blk_far ?_ NB520_523.out _; (with_reducible repeat (first | refine blk_drewN ?_ _ | refine blk_drew ?_ | refine blk_alloc ?_ _)); exact BK520.out), (by repeat (first | (with_reducible first | exact HB.out | apply below_alloc | apply pw_below_drewN | apply below_drew1 | refine below_set ?_ GE519.out | refine below_set ?_ GE520.out | refine below_set ?_ GE521.out | refine below_set ?_ GE522.out | refine below_set ?_ GE523.out) | exact HB.out)), fun _ _ => NB522_521.out, fun _ _ => NB521_522.out, fun _ _ => NB523_521.out, fun _ _ => NB521_523.out, fun _ _ => NB523_522.out, fun _ _ => NB522_523.out, fun _ h1_ => absurd ((hon 9 (by kernel_rfl)).symm.trans h1_) (by decide), fun _ => GW521.out, fun _ => GE521.out, fun _ => NB519_521.out, fun _ => NB521_519.out, fun _ => NB520_521.out, fun _ => NB521_520.out, fun _ h1_ => absurd ((hon 10 (by kernel_rfl)).symm.trans h1_) (by decide), fun _ => GW522.out, fun _ => GE522.out, fun _ => NB519_522.out, fun _ => NB522_519.out, fun _ => NB520_522.out, fun _ => NB522_520.out, fun _ h1_ => absurd ((up_self b 11).symm.trans h1_) (by decide), fun _ => GW523.out, fun _ => GE523.out, fun _ => NB519_523.out, fun _ => NB523_519.out, fun _ => NB520_523.out, fun _ => NB523_520.out, fun _ => (by (with_reducible repeat (first | refine blk_drewN ?_ _ | refine blk_drew ?_ | refine blk_alloc ?_ _)); refine blk_far ?_ NB521_523.out _; (with_reducible repeat (first | refine blk_drewN ?_ _ | refine blk_drew ?_ | refine blk_alloc ?_ _)); refine blk_far ?_ NB521_523.out _; (with_reducible repeat (first | refine blk_drewN ?_ _ | refine blk_drew ?_ | refine blk_alloc ?_ _)); exact BK521.out), fun _ => (by (with_reducible repeat (first | refine blk_drewN ?_ _ | refine blk_drew ?_ | refine blk_alloc ?_ _)); refine blk_far ?_ NB522_523.out _; (with_reducible repeat (first | refine blk_drewN ?_ _ | refine blk_drew ?_ | refine blk_alloc ?_ _)); refine blk_far ?_ NB522_523.out _; (with_reducible repeat (first | refine blk_drewN ?_ _ | refine blk_drew ?_ | refine blk_alloc ?_ _)); exact BK522.out), fun _ => (by (with_reducible repeat (first | refine blk_drewN ?_ _ | refine blk_drew ?_ | refine blk_alloc ?_ _)); refine blk_put (cs := #[.int .i64 a0_4, .int .i64 0]) ?_ 1 _ rfl; (with_reducible repeat (first | refine blk_drewN ?_ _ | refine blk_drew ?_ | refine blk_alloc ?_ _)); refine blk_put (cs := #[.int .i64 0, .int .i64 0]) ?_ 0 _ rfl; (with_reducible repeat (first | refine blk_drewN ?_ _ | refine blk_drew ?_ | refine blk_alloc ?_ _)); exact BK523.out), Q_X6_, Q_X7_, Q_X8_⟩
                exact steps_nil
              rintro b a w30 hall ⟨gb521, gb522, gb523, m6_, m7_, m8_, ha, Q_BK519, Q_BK520, Q_HB, Q_NB522_521, Q_NB521_522, Q_NB523_521, Q_NB521_523, Q_NB523_522, Q_NB522_523, Q_BK521, Q_GW521, Q_GE521, Q_NB519_521, Q_NB521_519, Q_NB520_521, Q_NB521_520, Q_BK522, Q_GW522, Q_GE522, Q_NB519_522, Q_NB522_519, Q_NB520_522, Q_NB522_520, Q_BK523, Q_GW523, Q_GE523, Q_NB519_523, Q_NB523_519, Q_NB520_523, Q_NB523_520, Q_BK521_e9, Q_BK522_e10, Q_BK523_e11, Q_X6_, Q_X7_, Q_X8_⟩
              clear BK519 BK520 HB
              have hb1_ := hall 1 (by kernel_rfl)
              have hb3_ := hall 3 (by kernel_rfl)
              have hb5_ := hall 5 (by kernel_rfl)
              have hb6_ := hall 6 (by kernel_rfl)
              have hb7_ := hall 7 (by kernel_rfl)
              have hb8_ := hall 8 (by kernel_rfl)
              have hb9_ := hall 9 (by kernel_rfl)
              have hb10_ := hall 10 (by kernel_rfl)
              have hb11_ := hall 11 (by kernel_rfl)
              subst ha
              obtain rfl := Q_X6_ hb6_
              obtain rfl := Q_X7_ hb7_
              obtain rfl := Q_X8_ hb8_
              simp only [putSel, hb1_, hb3_, hb5_, hb6_, hb7_, hb8_, hb9_, hb10_, hb11_, if_true, Act.put, List.setIfInBounds_toArray, List.set_cons_zero, List.set_cons_succ]
              have BK519 := Aside0.mk Q_BK519
              clear Q_BK519
              have BK520 := Aside0.mk Q_BK520
              clear Q_BK520
              have HB := Aside0.mk Q_HB
              clear Q_HB
              have NB522_521 := Aside0.mk (Q_NB522_521 hb6_ hb7_)
              clear Q_NB522_521
              have NB521_522 := Aside0.mk (Q_NB521_522 hb6_ hb7_)
              clear Q_NB521_522
              have NB523_521 := Aside0.mk (Q_NB523_521 hb6_ hb8_)
              clear Q_NB523_521
              have NB521_523 := Aside0.mk (Q_NB521_523 hb6_ hb8_)
              clear Q_NB521_523
              have NB523_522 := Aside0.mk (Q_NB523_522 hb7_ hb8_)
              clear Q_NB523_522
              have NB522_523 := Aside0.mk (Q_NB522_523 hb7_ hb8_)
              clear Q_NB522_523
              clear Q_BK521
              have GW521 := Aside0.mk (Q_GW521 hb6_)
              clear Q_GW521
              have GE521 := Aside0.mk (Q_GE521 hb6_)
              clear Q_GE521
              have NB519_521 := Aside0.mk (Q_NB519_521 hb6_)
              clear Q_NB519_521
              have NB521_519 := Aside0.mk (Q_NB521_519 hb6_)
              clear Q_NB521_519
              have NB520_521 := Aside0.mk (Q_NB520_521 hb6_)
              clear Q_NB520_521
              have NB521_520 := Aside0.mk (Q_NB521_520 hb6_)
              clear Q_NB521_520
              clear Q_BK522
              have GW522 := Aside0.mk (Q_GW522 hb7_)
              clear Q_GW522
              have GE522 := Aside0.mk (Q_GE522 hb7_)
              clear Q_GE522
              have NB519_522 := Aside0.mk (Q_NB519_522 hb7_)
              clear Q_NB519_522
              have NB522_519 := Aside0.mk (Q_NB522_519 hb7_)
              clear Q_NB522_519
              have NB520_522 := Aside0.mk (Q_NB520_522 hb7_)
              clear Q_NB520_522
              have NB522_520 := Aside0.mk (Q_NB522_520 hb7_)
              clear Q_NB522_520
              clear Q_BK523
              have GW523 := Aside0.mk (Q_GW523 hb8_)
              clear Q_GW523
              have GE523 := Aside0.mk (Q_GE523 hb8_)
              clear Q_GE523
              have NB519_523 := Aside0.mk (Q_NB519_523 hb8_)
              clear Q_NB519_523
              have NB523_519 := Aside0.mk (Q_NB523_519 hb8_)
              clear Q_NB523_519
              have NB520_523 := Aside0.mk (Q_NB520_523 hb8_)
              clear Q_NB520_523
              have NB523_520 := Aside0.mk (Q_NB523_520 hb8_)
              clear Q_NB523_520
              have BK521 := Aside0.mk (Q_BK521_e9 hb9_)
              clear Q_BK521_e9
              have BK522 := Aside0.mk (Q_BK522_e10 hb10_)
              clear Q_BK522_e10
              have BK523 := Aside0.mk (Q_BK523_e11 hb11_)
              clear Q_BK523_e11
              clear hall hb1_ hb3_ hb5_ hb6_ hb7_ hb8_ hb9_ hb10_ hb11_
              try go_wp2
              have n0_ := Aside0.mk (blk_drew BK519.out)
              have n1_ := Aside0.mk (blk_drew BK520.out)
              have n2_ := Aside0.mk (blk_drew BK521.out)
              have n3_ := Aside0.mk (blk_drew BK522.out)
              have n4_ := Aside0.mk (blk_drew BK523.out)
              have n5_ := Aside0.mk (below_drew1 HB.out)
              clear BK519
              clear BK520
              clear BK521
              clear BK522
              clear BK523
              clear HB
              have BK519 := n0_
              have BK520 := n1_
              have BK521 := n2_
              have BK522 := n3_
              have BK523 := n4_
              have HB := n5_
              clear n0_ n1_ n2_ n3_ n4_ n5_
              refine start_ (n := 11) (S := fun w' => w'.cell? ⟨gb521, 0, none⟩ = some (.int .i64 a0_0) ∧ w'.cell? ⟨gb521, 1, none⟩ = some (.int .i64 a0_1) ∧ w'.cell? ⟨gb522, 0, none⟩ = some (.int .i64 a0_2) ∧ w'.cell? ⟨gb522, 1, none⟩ = some (.int .i64 a0_3) ∧ w'.cell? ⟨gb523, 0, none⟩ = some (.int .i64 a0_4) ∧ w'.cell? ⟨gb523, 1, none⟩ = some (.int .i64 a0_5) ∧ w'.cell? ⟨gb520, 0, none⟩ = some (.int .i64 a1_0) ∧ w'.cell? ⟨gb520, 1, none⟩ = some (.int .i64 a1_1)) (ds := []) #[false, false, false, false, false, false, false, false, false, false, false] (by kernel_rfl) rfl rfl ⟨(blk_cell BK521.out 0).trans rfl, (blk_cell BK521.out 1).trans rfl, (blk_cell BK522.out 0).trans rfl, (blk_cell BK522.out 1).trans rfl, (blk_cell BK523.out 0).trans rfl, (blk_cell BK523.out 1).trans rfl, (blk_cell BK520.out 0).trans rfl, (blk_cell BK520.out 1).trans rfl⟩ (fun hHeld => ?_); refine with_tabW zelligelaw07_PredTurns.tab2 zelligelaw07_PredTurns.bits2 (fun HT_ HW_ => ?_)
              generalize w30.drew = w31 at BK519 BK520 BK521 BK522 BK523 HB hHeld ⊢
              refine take_ (i := 0) (N := some 16) (v := ?_) (a' := ?_) #[true, false, false, false, false, false, false, false, false, false, false] rfl rfl (take_ofW HT_.out HW_.out (by kernel_rfl)) (fun _ _ _ h => h) (Or.inl ⟨by rfl, ?_⟩) hHeld ?_ ?_
              rotate_left
              · rintro w' ⟨s0, s1, s2, s3, s4, s5, s6, s7⟩
                go_simp
                with_reducible rfl
              rotate_left
              · simp only [Act.put, List.setIfInBounds_toArray, List.set_cons_zero, List.set_cons_succ, i64_w, i32_w]
                rfl
              refine take_ (i := 1) (N := some 17) (v := ?_) (a' := ?_) #[true, true, false, false, false, false, false, false, false, false, false] rfl rfl (take_ofW HT_.out HW_.out (by kernel_rfl)) (fun _ _ _ h => h) (Or.inl ⟨by rfl, ?_⟩) hHeld ?_ ?_
              rotate_left
              · rintro w' ⟨s0, s1, s2, s3, s4, s5, s6, s7⟩
                go_simp
                with_reducible rfl
              rotate_left
              · simp only [Act.put, List.setIfInBounds_toArray, List.set_cons_zero, List.set_cons_succ, i64_w, i32_w]
                rfl
              refine take_ (i := 2) (N := some 18) (v := ?_) (a' := ?_) #[true, true, true, false, false, false, false, false, false, false, false] rfl rfl (take_ofW HT_.out HW_.out (by kernel_rfl)) (fun _ _ _ h => h) (Or.inl ⟨by rfl, ?_⟩) hHeld ?_ ?_
              rotate_left
              · rintro w' ⟨s0, s1, s2, s3, s4, s5, s6, s7⟩
                go_simp
                with_reducible rfl
              rotate_left
              · simp only [Act.put, List.setIfInBounds_toArray, List.set_cons_zero, List.set_cons_succ, i64_w, i32_w]
                rfl
              refine take_ (i := 4) (N := some 20) (v := ?_) (a' := ?_) #[true, true, true, false, true, false, false, false, false, false, false] rfl rfl (take_ofW HT_.out HW_.out (by kernel_rfl)) (fun _ _ _ h => h) (Or.inl ⟨by rfl, ?_⟩) hHeld ?_ ?_
              rotate_left
              · rintro w' ⟨s0, s1, s2, s3, s4, s5, s6, s7⟩
                go_simp
                with_reducible rfl
              rotate_left
              · simp only [Act.put, List.setIfInBounds_toArray, List.set_cons_zero, List.set_cons_succ, i64_w, i32_w]
                rfl
              refine take_ (i := 5) (N := some 21) (v := ?_) (a' := ?_) #[true, true, true, false, true, true, false, false, false, false, false] rfl rfl (take_ofW HT_.out HW_.out (by kernel_rfl)) (fun _ _ _ h => h) (Or.inl ⟨by rfl, ?_⟩) hHeld ?_ ?_
              rotate_left
              · rintro w' ⟨s0, s1, s2, s3, s4, s5, s6, s7⟩
                go_simp
                with_reducible rfl
              rotate_left
              · simp only [Act.put, List.setIfInBounds_toArray, List.set_cons_zero, List.set_cons_succ, i64_w, i32_w]
                rfl
              refine take_ (i := 6) (N := some 22) (v := ?_) (a' := ?_) #[true, true, true, false, true, true, true, false, false, false, false] rfl rfl (take_ofW HT_.out HW_.out (by kernel_rfl)) (fun _ _ _ h => h) (Or.inl ⟨by rfl, ?_⟩) hHeld ?_ ?_
              rotate_left
              · rintro w' ⟨s0, s1, s2, s3, s4, s5, s6, s7⟩
                go_simp
                with_reducible rfl
              rotate_left
              · simp only [Act.put, List.setIfInBounds_toArray, List.set_cons_zero, List.set_cons_succ, i64_w, i32_w]
                rfl
              refine take_ (i := 7) (N := some 23) (v := ?_) (a' := ?_) #[true, true, true, false, true, true, true, true, false, false, false] rfl rfl (take_ofW HT_.out HW_.out (by kernel_rfl)) (fun _ _ _ h => h) (Or.inl ⟨by rfl, ?_⟩) hHeld ?_ ?_
              rotate_left
              · rintro w' ⟨s0, s1, s2, s3, s4, s5, s6, s7⟩
                go_simp
                with_reducible rfl
              rotate_left
              · simp only [Act.put, List.setIfInBounds_toArray, List.set_cons_zero, List.set_cons_succ, i64_w, i32_w]
                rfl
              refine one_ (i := 3) (N := some 19) #[true, true, true, true, true, true, true, true, false, false, false] rfl rfl (one_of HT_.out (by kernel_rfl)) (by decide) (fun K hK => ?_)
              refine goes_ Try.func14 (by kernel_rfl) rfl #[.agg #[.int .i64 a0_0, .int .i64 a0_1], .agg #[.int .i64 a0_2, .int .i64 a0_3], .agg #[.int .i64 a0_4, .int .i64 a0_5]] (by rfl) rfl rfl (by (try simp only [List.map_toArray, List.map_cons, List.map_nil]); first | done | rfl | (simp only [List.length_drop, List.length_take]; rfl)) ?_
              with_reducible refine (pred_Orient.calls k a0_0 a0_1 a0_2 a0_3 a0_4 a0_5 t524 _ A3.out).mono ?_
              rintro e w32 ⟨rfl, hb⟩
              refine ⟨_, rfl, ?_⟩
              have n0_ := Aside0.mk (blk_below (g := gb519) (o := .cells #[.int .i64 a0_0, .int .i64 a0_1, .int .i64 a0_2, .int .i64 a0_3, .int .i64 a0_4, .int .i64 a0_5] 24 (0, 0)) (by (with_reducible repeat (first | refine blk_drewN ?_ _ | refine blk_drew ?_ | refine blk_alloc ?_ _)); exact BK519.out) hb)
              have n1_ := Aside0.mk (blk_below (g := gb520) (o := .cells #[.int .i64 a1_0, .int .i64 a1_1] 23 (0, 0)) (by (with_reducible repeat (first | refine blk_drewN ?_ _ | refine blk_drew ?_ | refine blk_alloc ?_ _)); exact BK520.out) hb)
              have n2_ := Aside0.mk (blk_below (g := gb521) (o := .cells #[.int .i64 a0_0, .int .i64 a0_1] 23 (0, 0)) (by (with_reducible repeat (first | refine blk_drewN ?_ _ | refine blk_drew ?_ | refine blk_alloc ?_ _)); exact BK521.out) hb)
              have n3_ := Aside0.mk (blk_below (g := gb522) (o := .cells #[.int .i64 a0_2, .int .i64 a0_3] 23 (0, 0)) (by (with_reducible repeat (first | refine blk_drewN ?_ _ | refine blk_drew ?_ | refine blk_alloc ?_ _)); exact BK522.out) hb)
              have n4_ := Aside0.mk (blk_below (g := gb523) (o := .cells #[.int .i64 a0_4, .int .i64 a0_5] 23 (0, 0)) (by (with_reducible repeat (first | refine blk_drewN ?_ _ | refine blk_drew ?_ | refine blk_alloc ?_ _)); exact BK523.out) hb)
              have n5_ := Aside0.mk (below_step (by repeat (first | (with_reducible first | exact HB.out | apply below_alloc | apply pw_below_drewN | apply below_drew1 | refine below_set ?_ GE519.out | refine below_set ?_ GE520.out | refine below_set ?_ GE521.out | refine below_set ?_ GE522.out | refine below_set ?_ GE523.out) | exact HB.out)) hb)
              clear BK519
              clear BK520
              clear BK521
              clear BK522
              clear BK523
              clear HB
              have BK519 := n0_
              have BK520 := n1_
              have BK521 := n2_
              have BK522 := n3_
              have BK523 := n4_
              have HB := n5_
              clear n0_ n1_ n2_ n3_ n4_ n5_
              (try clear hb)
              (try clear hb2)
              (try clear hk)
              (try clear hi)
              refine hK.out _ _ ⟨(blk_cell BK521.out 0).trans rfl, (blk_cell BK521.out 1).trans rfl, (blk_cell BK522.out 0).trans rfl, (blk_cell BK522.out 1).trans rfl, (blk_cell BK523.out 0).trans rfl, (blk_cell BK523.out 1).trans rfl, (blk_cell BK520.out 0).trans rfl, (blk_cell BK520.out 1).trans rfl⟩ (fun hHeld => ?_)
              clear hK K
              refine norm_ (a' := ?_) ?_ ?_
              rotate_left
              · show Act.put _ (some 19) _ = _
                simp only [Act.put, List.setIfInBounds_toArray, List.set_cons_zero, List.set_cons_succ, i64_w, i32_w]
                rfl
              refine one_ (i := 8) (N := some 24) #[true, true, true, true, true, true, true, true, true, false, false] rfl rfl (one_of HT_.out (by kernel_rfl)) (by decide) (fun K hK => ?_)
              refine goes_ Try.func8 (by kernel_rfl) rfl #[.agg #[.int .i64 a0_0, .int .i64 a0_1], .agg #[.int .i64 a0_2, .int .i64 a0_3], .agg #[.int .i64 a0_4, .int .i64 a0_5], .agg #[.int .i64 a1_0, .int .i64 a1_1]] (by rfl) rfl rfl (by (try simp only [List.map_toArray, List.map_cons, List.map_nil]); first | done | rfl | (simp only [List.length_drop, List.length_take]; rfl)) ?_
              with_reducible refine (pred_InCircle.calls k a0_0 a0_1 a0_2 a0_3 a0_4 a0_5 a1_0 a1_1 t525 _ A4.out).mono ?_
              rintro e w33 ⟨rfl, hb⟩
              refine ⟨_, rfl, ?_⟩
              have n0_ := Aside0.mk (blk_below (g := gb519) (o := .cells #[.int .i64 a0_0, .int .i64 a0_1, .int .i64 a0_2, .int .i64 a0_3, .int .i64 a0_4, .int .i64 a0_5] 24 (0, 0)) (by (with_reducible repeat (first | refine blk_drewN ?_ _ | refine blk_drew ?_ | refine blk_alloc ?_ _)); exact BK519.out) hb)
              have n1_ := Aside0.mk (blk_below (g := gb520) (o := .cells #[.int .i64 a1_0, .int .i64 a1_1] 23 (0, 0)) (by (with_reducible repeat (first | refine blk_drewN ?_ _ | refine blk_drew ?_ | refine blk_alloc ?_ _)); exact BK520.out) hb)
              have n2_ := Aside0.mk (blk_below (g := gb521) (o := .cells #[.int .i64 a0_0, .int .i64 a0_1] 23 (0, 0)) (by (with_reducible repeat (first | refine blk_drewN ?_ _ | refine blk_drew ?_ | refine blk_alloc ?_ _)); exact BK521.out) hb)
              have n3_ := Aside0.mk (blk_below (g := gb522) (o := .cells #[.int .i64 a0_2, .int .i64 a0_3] 23 (0, 0)) (by (with_reducible repeat (first | refine blk_drewN ?_ _ | refine blk_drew ?_ | refine blk_alloc ?_ _)); exact BK522.out) hb)
              have n4_ := Aside0.mk (blk_below (g := gb523) (o := .cells #[.int .i64 a0_4, .int .i64 a0_5] 23 (0, 0)) (by (with_reducible repeat (first | refine blk_drewN ?_ _ | refine blk_drew ?_ | refine blk_alloc ?_ _)); exact BK523.out) hb)
              have n5_ := Aside0.mk (below_step (by repeat (first | (with_reducible first | exact HB.out | apply below_alloc | apply pw_below_drewN | apply below_drew1 | refine below_set ?_ GE519.out | refine below_set ?_ GE520.out | refine below_set ?_ GE521.out | refine below_set ?_ GE522.out | refine below_set ?_ GE523.out) | exact HB.out)) hb)
              clear BK519
              clear BK520
              clear BK521
              clear BK522
              clear BK523
              clear HB
              have BK519 := n0_
              have BK520 := n1_
              have BK521 := n2_
              have BK522 := n3_
              have BK523 := n4_
              have HB := n5_
              clear n0_ n1_ n2_ n3_ n4_ n5_
              (try clear hb)
              (try clear hb2)
              (try clear hk)
              (try clear hi)
              refine hK.out _ _ ⟨(blk_cell BK521.out 0).trans rfl, (blk_cell BK521.out 1).trans rfl, (blk_cell BK522.out 0).trans rfl, (blk_cell BK522.out 1).trans rfl, (blk_cell BK523.out 0).trans rfl, (blk_cell BK523.out 1).trans rfl, (blk_cell BK520.out 0).trans rfl, (blk_cell BK520.out 1).trans rfl⟩ (fun hHeld => ?_)
              clear hK K
              refine norm_ (a' := ?_) ?_ ?_
              rotate_left
              · show Act.put _ (some 24) _ = _
                simp only [Act.put, List.setIfInBounds_toArray, List.set_cons_zero, List.set_cons_succ, i64_w, i32_w]
                rfl
              refine pure_ (i := 9) (N := some 8) (v := ?_) (a' := ?_) #[true, true, true, true, true, true, true, true, true, true, false] rfl rfl (any_of HT_.out (by kernel_rfl)) (fun _ _ _ h => h) (Or.inl ⟨by rfl, ?_⟩) ?_ ?_
              rotate_left
              · intro w'
                go_simp
                with_reducible rfl
              rotate_left
              · simp only [Act.put, List.setIfInBounds_toArray, List.set_cons_zero, List.set_cons_succ, i64_w, i32_w]
                rfl
              refine pure_ (i := 10) (N := some 9) (v := ?_) (a' := ?_) #[true, true, true, true, true, true, true, true, true, true, true] rfl rfl (any_of HT_.out (by kernel_rfl)) (fun _ _ _ h => h) (Or.inl ⟨by rfl, ?_⟩) ?_ ?_
              rotate_left
              · intro w'
                go_simp
                with_reducible rfl
              rotate_left
              · simp only [Act.put, List.setIfInBounds_toArray, List.set_cons_zero, List.set_cons_succ, i64_w, i32_w]
                rfl
              refine done_ (done_of HT_.out (by kernel_rfl)) ?_
              have hnb34 := NB522_519.out
              have hnc34 := NB519_522.out
              have hnb35 := NB522_520.out
              have hnc35 := NB520_522.out
              have hnb36 := NB522_521.out
              have hnc36 := NB521_522.out
              have hnb37 := NB522_523.out
              have hnc37 := NB523_522.out
              have hcz38_0 : w33.cell? ⟨gb522, 0, none⟩ = some (.int .i64 a0_2) := (blk_cell BK522.out 0).trans rfl
              have hcz38_1 : w33.cell? ⟨gb522, 1, none⟩ = some (.int .i64 a0_3) := (blk_cell BK522.out 1).trans rfl
              have hfz38_0 := blk_frozen BK522.out 0
              have hfz38_1 := blk_frozen BK522.out 1
              have hnb39 := NB523_519.out
              have hnc39 := NB519_523.out
              have hnb40 := NB523_520.out
              have hnc40 := NB520_523.out
              have hnb41 := NB523_521.out
              have hnc41 := NB521_523.out
              have hcz42_0 : w33.cell? ⟨gb523, 0, none⟩ = some (.int .i64 a0_4) := (blk_cell BK523.out 0).trans rfl
              have hcz42_1 : w33.cell? ⟨gb523, 1, none⟩ = some (.int .i64 a0_5) := (blk_cell BK523.out 1).trans rfl
              have hfz42_0 := blk_frozen BK523.out 0
              have hfz42_1 := blk_frozen BK523.out 1
              have hnb43 := NB521_519.out
              have hnc43 := NB519_521.out
              have hnb44 := NB521_520.out
              have hnc44 := NB520_521.out
              have hcz45_0 : w33.cell? ⟨gb521, 0, none⟩ = some (.int .i64 a0_0) := (blk_cell BK521.out 0).trans rfl
              have hcz45_1 : w33.cell? ⟨gb521, 1, none⟩ = some (.int .i64 a0_1) := (blk_cell BK521.out 1).trans rfl
              have hfz45_0 := blk_frozen BK521.out 0
              have hfz45_1 := blk_frozen BK521.out 1
              try go_wp2_with (first | ((with_reducible refine gate_callee (f := 14) rfl ?_); refine goesL_ (some 28) rfl rfl Try.func14 (by kernel_rfl) rfl #[.agg #[.int .i64 a0_2, .int .i64 a0_3], .agg #[.int .i64 a0_4, .int .i64 a0_5], .agg #[.int .i64 a0_0, .int .i64 a0_1]] rfl (by (try simp only [List.map_toArray, List.map_cons, List.map_nil]); first | done | rfl | (simp only [List.length_drop, List.length_take]; rfl)) ?_; (with_reducible refine (pred_Orient.calls k a0_2 a0_3 a0_4 a0_5 a0_0 a0_1 t526 _ A5.out).mono ?_); rintro e w46 ⟨rfl, hb⟩; refine ⟨_, rfl, ?_⟩; have n0_ := Aside0.mk (blk_below (g := gb519) (o := .cells #[.int .i64 a0_0, .int .i64 a0_1, .int .i64 a0_2, .int .i64 a0_3, .int .i64 a0_4, .int .i64 a0_5] 24 (0, 0)) (by (with_reducible repeat (first | refine blk_drewN ?_ _ | refine blk_drew ?_ | refine blk_alloc ?_ _)); exact BK519.out) hb); have n1_ := Aside0.mk (blk_below (g := gb520) (o := .cells #[.int .i64 a1_0, .int .i64 a1_1] 23 (0, 0)) (by (with_reducible repeat (first | refine blk_drewN ?_ _ | refine blk_drew ?_ | refine blk_alloc ?_ _)); exact BK520.out) hb); have n2_ := Aside0.mk (blk_below (g := gb521) (o := .cells #[.int .i64 a0_0, .int .i64 a0_1] 23 (0, 0)) (by (with_reducible repeat (first | refine blk_drewN ?_ _ | refine blk_drew ?_ | refine blk_alloc ?_ _)); exact BK521.out) hb); have n3_ := Aside0.mk (blk_below (g := gb522) (o := .cells #[.int .i64 a0_2, .int .i64 a0_3] 23 (0, 0)) (by (with_reducible repeat (first | refine blk_drewN ?_ _ | refine blk_drew ?_ | refine blk_alloc ?_ _)); exact BK522.out) hb); have n4_ := Aside0.mk (blk_below (g := gb523) (o := .cells #[.int .i64 a0_4, .int .i64 a0_5] 23 (0, 0)) (by (with_reducible repeat (first | refine blk_drewN ?_ _ | refine blk_drew ?_ | refine blk_alloc ?_ _)); exact BK523.out) hb); have n5_ := Aside0.mk (below_step (by repeat (first | (with_reducible first | exact HB.out | apply below_alloc | apply pw_below_drewN | apply below_drew1 | refine below_set ?_ GE519.out | refine below_set ?_ GE520.out | refine below_set ?_ GE521.out | refine below_set ?_ GE522.out | refine below_set ?_ GE523.out) | exact HB.out)) hb); clear BK519; clear BK520; clear BK521; clear BK522; clear BK523; clear HB; have BK519 := n0_; have BK520 := n1_; have BK521 := n2_; have BK522 := n3_; have BK523 := n4_; have HB := n5_; clear n0_ n1_ n2_ n3_ n4_ n5_; (try clear hb); (try clear hb2); (try clear hk); (try clear hi); have hcz47_0 : w46.cell? ⟨gb522, 0, none⟩ = some (.int .i64 a0_2) := (blk_cell BK522.out 0).trans rfl; have hcz47_1 : w46.cell? ⟨gb522, 1, none⟩ = some (.int .i64 a0_3) := (blk_cell BK522.out 1).trans rfl; have hfz47_0 := blk_frozen BK522.out 0; have hfz47_1 := blk_frozen BK522.out 1; have hcz48_0 : w46.cell? ⟨gb521, 0, none⟩ = some (.int .i64 a0_0) := (blk_cell BK521.out 0).trans rfl; have hcz48_1 : w46.cell? ⟨gb521, 1, none⟩ = some (.int .i64 a0_1) := (blk_cell BK521.out 1).trans rfl; have hfz48_0 := blk_frozen BK521.out 0; have hfz48_1 := blk_frozen BK521.out 1; have hcz49_0 : w46.cell? ⟨gb523, 0, none⟩ = some (.int .i64 a0_4) := (blk_cell BK523.out 0).trans rfl; have hcz49_1 : w46.cell? ⟨gb523, 1, none⟩ = some (.int .i64 a0_5) := (blk_cell BK523.out 1).trans rfl; have hfz49_0 := blk_frozen BK523.out 0; have hfz49_1 := blk_frozen BK523.out 1) | (go_at_call 14; (with_reducible refine (pred_Orient.calls k a0_2 a0_3 a0_0 a0_1 a0_4 a0_5 t527 _ A7.out).mono ?_); rintro e w50 ⟨rfl, hb⟩; have n0_ := Aside0.mk (blk_below (g := gb519) (o := .cells #[.int .i64 a0_0, .int .i64 a0_1, .int .i64 a0_2, .int .i64 a0_3, .int .i64 a0_4, .int .i64 a0_5] 24 (0, 0)) (by (with_reducible repeat (first | refine blk_drewN ?_ _ | refine blk_drew ?_ | refine blk_alloc ?_ _)); exact BK519.out) hb); have n1_ := Aside0.mk (blk_below (g := gb520) (o := .cells #[.int .i64 a1_0, .int .i64 a1_1] 23 (0, 0)) (by (with_reducible repeat (first | refine blk_drewN ?_ _ | refine blk_drew ?_ | refine blk_alloc ?_ _)); exact BK520.out) hb); have n2_ := Aside0.mk (blk_below (g := gb521) (o := .cells #[.int .i64 a0_0, .int .i64 a0_1] 23 (0, 0)) (by (with_reducible repeat (first | refine blk_drewN ?_ _ | refine blk_drew ?_ | refine blk_alloc ?_ _)); exact BK521.out) hb); have n3_ := Aside0.mk (blk_below (g := gb522) (o := .cells #[.int .i64 a0_2, .int .i64 a0_3] 23 (0, 0)) (by (with_reducible repeat (first | refine blk_drewN ?_ _ | refine blk_drew ?_ | refine blk_alloc ?_ _)); exact BK522.out) hb); have n4_ := Aside0.mk (blk_below (g := gb523) (o := .cells #[.int .i64 a0_4, .int .i64 a0_5] 23 (0, 0)) (by (with_reducible repeat (first | refine blk_drewN ?_ _ | refine blk_drew ?_ | refine blk_alloc ?_ _)); exact BK523.out) hb); have n5_ := Aside0.mk (below_step (by repeat (first | (with_reducible first | exact HB.out | apply below_alloc | apply pw_below_drewN | apply below_drew1 | refine below_set ?_ GE519.out | refine below_set ?_ GE520.out | refine below_set ?_ GE521.out | refine below_set ?_ GE522.out | refine below_set ?_ GE523.out) | exact HB.out)) hb); clear BK519; clear BK520; clear BK521; clear BK522; clear BK523; clear HB; have BK519 := n0_; have BK520 := n1_; have BK521 := n2_; have BK522 := n3_; have BK523 := n4_; have HB := n5_; clear n0_ n1_ n2_ n3_ n4_ n5_; (try clear hb); (try clear hb2); (try clear hk); (try clear hi); have hcz51_0 : w50.cell? ⟨gb522, 0, none⟩ = some (.int .i64 a0_2) := (blk_cell BK522.out 0).trans rfl; have hcz51_1 : w50.cell? ⟨gb522, 1, none⟩ = some (.int .i64 a0_3) := (blk_cell BK522.out 1).trans rfl; have hfz51_0 := blk_frozen BK522.out 0; have hfz51_1 := blk_frozen BK522.out 1; have hcz52_0 : w50.cell? ⟨gb521, 0, none⟩ = some (.int .i64 a0_0) := (blk_cell BK521.out 0).trans rfl; have hcz52_1 : w50.cell? ⟨gb521, 1, none⟩ = some (.int .i64 a0_1) := (blk_cell BK521.out 1).trans rfl; have hfz52_0 := blk_frozen BK521.out 0; have hfz52_1 := blk_frozen BK521.out 1; have hcz53_0 : w50.cell? ⟨gb523, 0, none⟩ = some (.int .i64 a0_4) := (blk_cell BK523.out 0).trans rfl; have hcz53_1 : w50.cell? ⟨gb523, 1, none⟩ = some (.int .i64 a0_5) := (blk_cell BK523.out 1).trans rfl; have hfz53_0 := blk_frozen BK523.out 0; have hfz53_1 := blk_frozen BK523.out 1; have hnb54 := NB520_519.out; have hnc54 := NB519_520.out; have hcz55_0 : w50.cell? ⟨gb520, 0, none⟩ = some (.int .i64 a1_0) := (blk_cell BK520.out 0).trans rfl; have hcz55_1 : w50.cell? ⟨gb520, 1, none⟩ = some (.int .i64 a1_1) := (blk_cell BK520.out 1).trans rfl; have hfz55_0 := blk_frozen BK520.out 0; have hfz55_1 := blk_frozen BK520.out 1) | (go_at_call 8; (with_reducible refine (pred_InCircle.calls k a0_2 a0_3 a0_0 a0_1 a0_4 a0_5 a1_0 a1_1 t528 _ A9.out).mono ?_); rintro e w56 ⟨rfl, hb⟩; have n0_ := Aside0.mk (blk_below (g := gb519) (o := .cells #[.int .i64 a0_0, .int .i64 a0_1, .int .i64 a0_2, .int .i64 a0_3, .int .i64 a0_4, .int .i64 a0_5] 24 (0, 0)) (by (with_reducible repeat (first | refine blk_drewN ?_ _ | refine blk_drew ?_ | refine blk_alloc ?_ _)); exact BK519.out) hb); have n1_ := Aside0.mk (blk_below (g := gb520) (o := .cells #[.int .i64 a1_0, .int .i64 a1_1] 23 (0, 0)) (by (with_reducible repeat (first | refine blk_drewN ?_ _ | refine blk_drew ?_ | refine blk_alloc ?_ _)); exact BK520.out) hb); have n2_ := Aside0.mk (blk_below (g := gb521) (o := .cells #[.int .i64 a0_0, .int .i64 a0_1] 23 (0, 0)) (by (with_reducible repeat (first | refine blk_drewN ?_ _ | refine blk_drew ?_ | refine blk_alloc ?_ _)); exact BK521.out) hb); have n3_ := Aside0.mk (blk_below (g := gb522) (o := .cells #[.int .i64 a0_2, .int .i64 a0_3] 23 (0, 0)) (by (with_reducible repeat (first | refine blk_drewN ?_ _ | refine blk_drew ?_ | refine blk_alloc ?_ _)); exact BK522.out) hb); have n4_ := Aside0.mk (blk_below (g := gb523) (o := .cells #[.int .i64 a0_4, .int .i64 a0_5] 23 (0, 0)) (by (with_reducible repeat (first | refine blk_drewN ?_ _ | refine blk_drew ?_ | refine blk_alloc ?_ _)); exact BK523.out) hb); have n5_ := Aside0.mk (below_step (by repeat (first | (with_reducible first | exact HB.out | apply below_alloc | apply pw_below_drewN | apply below_drew1 | refine below_set ?_ GE519.out | refine below_set ?_ GE520.out | refine below_set ?_ GE521.out | refine below_set ?_ GE522.out | refine below_set ?_ GE523.out) | exact HB.out)) hb); clear BK519; clear BK520; clear BK521; clear BK522; clear BK523; clear HB; have BK519 := n0_; have BK520 := n1_; have BK521 := n2_; have BK522 := n3_; have BK523 := n4_; have HB := n5_; clear n0_ n1_ n2_ n3_ n4_ n5_; (try clear hb); (try clear hb2); (try clear hk); (try clear hi); have hcz57_0 : w56.cell? ⟨gb521, 0, none⟩ = some (.int .i64 a0_0) := (blk_cell BK521.out 0).trans rfl; have hcz57_1 : w56.cell? ⟨gb521, 1, none⟩ = some (.int .i64 a0_1) := (blk_cell BK521.out 1).trans rfl; have hfz57_0 := blk_frozen BK521.out 0; have hfz57_1 := blk_frozen BK521.out 1; have hcz58_0 : w56.cell? ⟨gb522, 0, none⟩ = some (.int .i64 a0_2) := (blk_cell BK522.out 0).trans rfl; have hcz58_1 : w56.cell? ⟨gb522, 1, none⟩ = some (.int .i64 a0_3) := (blk_cell BK522.out 1).trans rfl; have hfz58_0 := blk_frozen BK522.out 0; have hfz58_1 := blk_frozen BK522.out 1; have hcz59_0 : w56.cell? ⟨gb520, 0, none⟩ = some (.int .i64 a1_0) := (blk_cell BK520.out 0).trans rfl; have hcz59_1 : w56.cell? ⟨gb520, 1, none⟩ = some (.int .i64 a1_1) := (blk_cell BK520.out 1).trans rfl; have hfz59_0 := blk_frozen BK520.out 0; have hfz59_1 := blk_frozen BK520.out 1; have hcz60_0 : w56.cell? ⟨gb523, 0, none⟩ = some (.int .i64 a0_4) := (blk_cell BK523.out 0).trans rfl; have hcz60_1 : w56.cell? ⟨gb523, 1, none⟩ = some (.int .i64 a0_5) := (blk_cell BK523.out 1).trans rfl; have hfz60_0 := blk_frozen BK523.out 0; have hfz60_1 := blk_frozen BK523.out 1) | (go_at_call 8; (with_reducible refine (pred_InCircle.calls k a0_0 a0_1 a0_2 a0_3 a1_0 a1_1 a0_4 a0_5 t529 _ A11.out).mono ?_); rintro e w61 ⟨rfl, hb⟩; have n0_ := Aside0.mk (blk_below (g := gb519) (o := .cells #[.int .i64 a0_0, .int .i64 a0_1, .int .i64 a0_2, .int .i64 a0_3, .int .i64 a0_4, .int .i64 a0_5] 24 (0, 0)) (by (with_reducible repeat (first | refine blk_drewN ?_ _ | refine blk_drew ?_ | refine blk_alloc ?_ _)); exact BK519.out) hb); have n1_ := Aside0.mk (blk_below (g := gb520) (o := .cells #[.int .i64 a1_0, .int .i64 a1_1] 23 (0, 0)) (by (with_reducible repeat (first | refine blk_drewN ?_ _ | refine blk_drew ?_ | refine blk_alloc ?_ _)); exact BK520.out) hb); have n2_ := Aside0.mk (blk_below (g := gb521) (o := .cells #[.int .i64 a0_0, .int .i64 a0_1] 23 (0, 0)) (by (with_reducible repeat (first | refine blk_drewN ?_ _ | refine blk_drew ?_ | refine blk_alloc ?_ _)); exact BK521.out) hb); have n3_ := Aside0.mk (blk_below (g := gb522) (o := .cells #[.int .i64 a0_2, .int .i64 a0_3] 23 (0, 0)) (by (with_reducible repeat (first | refine blk_drewN ?_ _ | refine blk_drew ?_ | refine blk_alloc ?_ _)); exact BK522.out) hb); have n4_ := Aside0.mk (blk_below (g := gb523) (o := .cells #[.int .i64 a0_4, .int .i64 a0_5] 23 (0, 0)) (by (with_reducible repeat (first | refine blk_drewN ?_ _ | refine blk_drew ?_ | refine blk_alloc ?_ _)); exact BK523.out) hb); have n5_ := Aside0.mk (below_step (by repeat (first | (with_reducible first | exact HB.out | apply below_alloc | apply pw_below_drewN | apply below_drew1 | refine below_set ?_ GE519.out | refine below_set ?_ GE520.out | refine below_set ?_ GE521.out | refine below_set ?_ GE522.out | refine below_set ?_ GE523.out) | exact HB.out)) hb); clear BK519; clear BK520; clear BK521; clear BK522; clear BK523; clear HB; have BK519 := n0_; have BK520 := n1_; have BK521 := n2_; have BK522 := n3_; have BK523 := n4_; have HB := n5_; clear n0_ n1_ n2_ n3_ n4_ n5_; (try clear hb); (try clear hb2); (try clear hk); (try clear hi); have hcz62_0 : w61.cell? ⟨gb520, 0, none⟩ = some (.int .i64 a1_0) := (blk_cell BK520.out 0).trans rfl; have hcz62_1 : w61.cell? ⟨gb520, 1, none⟩ = some (.int .i64 a1_1) := (blk_cell BK520.out 1).trans rfl; have hfz62_0 := blk_frozen BK520.out 0; have hfz62_1 := blk_frozen BK520.out 1; have hcz63_0 : w61.cell? ⟨gb522, 0, none⟩ = some (.int .i64 a0_2) := (blk_cell BK522.out 0).trans rfl; have hcz63_1 : w61.cell? ⟨gb522, 1, none⟩ = some (.int .i64 a0_3) := (blk_cell BK522.out 1).trans rfl; have hfz63_0 := blk_frozen BK522.out 0; have hfz63_1 := blk_frozen BK522.out 1; have hcz64_0 : w61.cell? ⟨gb523, 0, none⟩ = some (.int .i64 a0_4) := (blk_cell BK523.out 0).trans rfl; have hcz64_1 : w61.cell? ⟨gb523, 1, none⟩ = some (.int .i64 a0_5) := (blk_cell BK523.out 1).trans rfl; have hfz64_0 := blk_frozen BK523.out 0; have hfz64_1 := blk_frozen BK523.out 1; have hcz65_0 : w61.cell? ⟨gb521, 0, none⟩ = some (.int .i64 a0_0) := (blk_cell BK521.out 0).trans rfl; have hcz65_1 : w61.cell? ⟨gb521, 1, none⟩ = some (.int .i64 a0_1) := (blk_cell BK521.out 1).trans rfl; have hfz65_0 := blk_frozen BK521.out 0; have hfz65_1 := blk_frozen BK521.out 1) | (go_at_call 8; (with_reducible refine (pred_InCircle.calls k a1_0 a1_1 a0_2 a0_3 a0_4 a0_5 a0_0 a0_1 t530 _ A13.out).mono ?_); rintro e w66 ⟨rfl, hb⟩; have n0_ := Aside0.mk (blk_below (g := gb519) (o := .cells #[.int .i64 a0_0, .int .i64 a0_1, .int .i64 a0_2, .int .i64 a0_3, .int .i64 a0_4, .int .i64 a0_5] 24 (0, 0)) (by (with_reducible repeat (first | refine blk_drewN ?_ _ | refine blk_drew ?_ | refine blk_alloc ?_ _)); exact BK519.out) hb); have n1_ := Aside0.mk (blk_below (g := gb520) (o := .cells #[.int .i64 a1_0, .int .i64 a1_1] 23 (0, 0)) (by (with_reducible repeat (first | refine blk_drewN ?_ _ | refine blk_drew ?_ | refine blk_alloc ?_ _)); exact BK520.out) hb); have n2_ := Aside0.mk (blk_below (g := gb521) (o := .cells #[.int .i64 a0_0, .int .i64 a0_1] 23 (0, 0)) (by (with_reducible repeat (first | refine blk_drewN ?_ _ | refine blk_drew ?_ | refine blk_alloc ?_ _)); exact BK521.out) hb); have n3_ := Aside0.mk (blk_below (g := gb522) (o := .cells #[.int .i64 a0_2, .int .i64 a0_3] 23 (0, 0)) (by (with_reducible repeat (first | refine blk_drewN ?_ _ | refine blk_drew ?_ | refine blk_alloc ?_ _)); exact BK522.out) hb); have n4_ := Aside0.mk (blk_below (g := gb523) (o := .cells #[.int .i64 a0_4, .int .i64 a0_5] 23 (0, 0)) (by (with_reducible repeat (first | refine blk_drewN ?_ _ | refine blk_drew ?_ | refine blk_alloc ?_ _)); exact BK523.out) hb); have n5_ := Aside0.mk (below_step (by repeat (first | (with_reducible first | exact HB.out | apply below_alloc | apply pw_below_drewN | apply below_drew1 | refine below_set ?_ GE519.out | refine below_set ?_ GE520.out | refine below_set ?_ GE521.out | refine below_set ?_ GE522.out | refine below_set ?_ GE523.out) | exact HB.out)) hb); clear BK519; clear BK520; clear BK521; clear BK522; clear BK523; clear HB; have BK519 := n0_; have BK520 := n1_; have BK521 := n2_; have BK522 := n3_; have BK523 := n4_; have HB := n5_; clear n0_ n1_ n2_ n3_ n4_ n5_; (try clear hb); (try clear hb2); (try clear hk); (try clear hi); have hcz67_0 : w66.cell? ⟨gb522, 0, none⟩ = some (.int .i64 a0_2) := (blk_cell BK522.out 0).trans rfl; have hcz67_1 : w66.cell? ⟨gb522, 1, none⟩ = some (.int .i64 a0_3) := (blk_cell BK522.out 1).trans rfl; have hfz67_0 := blk_frozen BK522.out 0; have hfz67_1 := blk_frozen BK522.out 1; have hcz68_0 : w66.cell? ⟨gb523, 0, none⟩ = some (.int .i64 a0_4) := (blk_cell BK523.out 0).trans rfl; have hcz68_1 : w66.cell? ⟨gb523, 1, none⟩ = some (.int .i64 a0_5) := (blk_cell BK523.out 1).trans rfl; have hfz68_0 := blk_frozen BK523.out 0; have hfz68_1 := blk_frozen BK523.out 1; have hcz69_0 : w66.cell? ⟨gb521, 0, none⟩ = some (.int .i64 a0_0) := (blk_cell BK521.out 0).trans rfl; have hcz69_1 : w66.cell? ⟨gb521, 1, none⟩ = some (.int .i64 a0_1) := (blk_cell BK521.out 1).trans rfl; have hfz69_0 := blk_frozen BK521.out 0; have hfz69_1 := blk_frozen BK521.out 1; have hcz70_0 : w66.cell? ⟨gb520, 0, none⟩ = some (.int .i64 a1_0) := (blk_cell BK520.out 0).trans rfl; have hcz70_1 : w66.cell? ⟨gb520, 1, none⟩ = some (.int .i64 a1_1) := (blk_cell BK520.out 1).trans rfl; have hfz70_0 := blk_frozen BK520.out 0; have hfz70_1 := blk_frozen BK520.out 1) | (go_at_call 8; (with_reducible refine (pred_InCircle.calls k a0_2 a0_3 a0_4 a0_5 a0_0 a0_1 a1_0 a1_1 t531 _ A15.out).mono ?_); rintro e w71 ⟨rfl, hb⟩; have n0_ := Aside0.mk (blk_below (g := gb519) (o := .cells #[.int .i64 a0_0, .int .i64 a0_1, .int .i64 a0_2, .int .i64 a0_3, .int .i64 a0_4, .int .i64 a0_5] 24 (0, 0)) (by (with_reducible repeat (first | refine blk_drewN ?_ _ | refine blk_drew ?_ | refine blk_alloc ?_ _)); exact BK519.out) hb); have n1_ := Aside0.mk (blk_below (g := gb520) (o := .cells #[.int .i64 a1_0, .int .i64 a1_1] 23 (0, 0)) (by (with_reducible repeat (first | refine blk_drewN ?_ _ | refine blk_drew ?_ | refine blk_alloc ?_ _)); exact BK520.out) hb); have n2_ := Aside0.mk (blk_below (g := gb521) (o := .cells #[.int .i64 a0_0, .int .i64 a0_1] 23 (0, 0)) (by (with_reducible repeat (first | refine blk_drewN ?_ _ | refine blk_drew ?_ | refine blk_alloc ?_ _)); exact BK521.out) hb); have n3_ := Aside0.mk (blk_below (g := gb522) (o := .cells #[.int .i64 a0_2, .int .i64 a0_3] 23 (0, 0)) (by (with_reducible repeat (first | refine blk_drewN ?_ _ | refine blk_drew ?_ | refine blk_alloc ?_ _)); exact BK522.out) hb); have n4_ := Aside0.mk (blk_below (g := gb523) (o := .cells #[.int .i64 a0_4, .int .i64 a0_5] 23 (0, 0)) (by (with_reducible repeat (first | refine blk_drewN ?_ _ | refine blk_drew ?_ | refine blk_alloc ?_ _)); exact BK523.out) hb); have n5_ := Aside0.mk (below_step (by repeat (first | (with_reducible first | exact HB.out | apply below_alloc | apply pw_below_drewN | apply below_drew1 | refine below_set ?_ GE519.out | refine below_set ?_ GE520.out | refine below_set ?_ GE521.out | refine below_set ?_ GE522.out | refine below_set ?_ GE523.out) | exact HB.out)) hb); clear BK519; clear BK520; clear BK521; clear BK522; clear BK523; clear HB; have BK519 := n0_; have BK520 := n1_; have BK521 := n2_; have BK522 := n3_; have BK523 := n4_; have HB := n5_; clear n0_ n1_ n2_ n3_ n4_ n5_; (try clear hb); (try clear hb2); (try clear hk); (try clear hi)) | (go_at_call 10; (with_reducible refine (zelligelaw07_lives.calls k  true _ A17.out).mono ?_); rintro e w72 ⟨rfl, hb⟩; have n0_ := Aside0.mk (blk_below (g := gb519) (o := .cells #[.int .i64 a0_0, .int .i64 a0_1, .int .i64 a0_2, .int .i64 a0_3, .int .i64 a0_4, .int .i64 a0_5] 24 (0, 0)) (by (with_reducible repeat (first | refine blk_drewN ?_ _ | refine blk_drew ?_ | refine blk_alloc ?_ _)); exact BK519.out) hb); have n1_ := Aside0.mk (blk_below (g := gb520) (o := .cells #[.int .i64 a1_0, .int .i64 a1_1] 23 (0, 0)) (by (with_reducible repeat (first | refine blk_drewN ?_ _ | refine blk_drew ?_ | refine blk_alloc ?_ _)); exact BK520.out) hb); have n2_ := Aside0.mk (blk_below (g := gb521) (o := .cells #[.int .i64 a0_0, .int .i64 a0_1] 23 (0, 0)) (by (with_reducible repeat (first | refine blk_drewN ?_ _ | refine blk_drew ?_ | refine blk_alloc ?_ _)); exact BK521.out) hb); have n3_ := Aside0.mk (blk_below (g := gb522) (o := .cells #[.int .i64 a0_2, .int .i64 a0_3] 23 (0, 0)) (by (with_reducible repeat (first | refine blk_drewN ?_ _ | refine blk_drew ?_ | refine blk_alloc ?_ _)); exact BK522.out) hb); have n4_ := Aside0.mk (blk_below (g := gb523) (o := .cells #[.int .i64 a0_4, .int .i64 a0_5] 23 (0, 0)) (by (with_reducible repeat (first | refine blk_drewN ?_ _ | refine blk_drew ?_ | refine blk_alloc ?_ _)); exact BK523.out) hb); have n5_ := Aside0.mk (below_step (by repeat (first | (with_reducible first | exact HB.out | apply below_alloc | apply pw_below_drewN | apply below_drew1 | refine below_set ?_ GE519.out | refine below_set ?_ GE520.out | refine below_set ?_ GE521.out | refine below_set ?_ GE522.out | refine below_set ?_ GE523.out) | exact HB.out)) hb); clear BK519; clear BK520; clear BK521; clear BK522; clear BK523; clear HB; have BK519 := n0_; have BK520 := n1_; have BK521 := n2_; have BK522 := n3_; have BK523 := n4_; have HB := n5_; clear n0_ n1_ n2_ n3_ n4_ n5_; (try clear hb); (try clear hb2); (try clear hk); (try clear hi)))
              go_ret
              exact ⟨by first | rfl | (simp [errW_none, errW_some] <;> rfl) | (simp [*, errW_none, errW_some] <;> rfl), by repeat (first | (with_reducible first | exact HB.out | apply below_alloc | apply pw_below_drewN | apply below_drew1 | refine below_set ?_ GE519.out | refine below_set ?_ GE520.out | refine below_set ?_ GE521.out | refine below_set ?_ GE522.out | refine below_set ?_ GE523.out) | exact HB.out)⟩
            · rw [if_neg c16] at H
              have c16b0 : (t531 == t525) = false := beq_eq_false_iff_ne.mpr c16
              have c16b1 : (t531 != t525) = true := bne_iff_ne.mpr c16
              exact absurd (Option.some.inj H) (by decide)
          · rw [if_neg c14] at H
            have c14b0 : (t530 == (wrap64 (-t525))) = false := beq_eq_false_iff_ne.mpr c14
            have c14b1 : (t530 != (wrap64 (-t525))) = true := bne_iff_ne.mpr c14
            exact absurd (Option.some.inj H) (by decide)
        · rw [if_neg c12] at H
          have c12b0 : (t529 == (wrap64 (-t525))) = false := beq_eq_false_iff_ne.mpr c12
          have c12b1 : (t529 != (wrap64 (-t525))) = true := bne_iff_ne.mpr c12
          exact absurd (Option.some.inj H) (by decide)
      · rw [if_neg c10] at H
        have c10b0 : (t528 == (wrap64 (-t525))) = false := beq_eq_false_iff_ne.mpr c10
        have c10b1 : (t528 != (wrap64 (-t525))) = true := bne_iff_ne.mpr c10
        exact absurd (Option.some.inj H) (by decide)
    · rw [if_neg c8] at H
      have c8b0 : (t527 == (wrap64 (-t524))) = false := beq_eq_false_iff_ne.mpr c8
      have c8b1 : (t527 != (wrap64 (-t524))) = true := bne_iff_ne.mpr c8
      exact absurd (Option.some.inj H) (by decide)
  · rw [if_neg c6] at H
    have c6b0 : (t526 == t524) = false := beq_eq_false_iff_ne.mpr c6
    have c6b1 : (t526 != t524) = true := bne_iff_ne.mpr c6
    exact absurd (Option.some.inj H) (by decide)
end Go.Proofs.Ytmeckkckjikjiaa.F
end

section
/- PredTurns: the law answers true for all points. -/
namespace Go.Proofs.Ytmeckkckjikjiaa.Pd
open Go Go.RowKit Go.Proofs.YtmeckkckjikjiaaW.PrintWords Go.Proofs.Ytmeckkckjikjiaa.F Go.Proofs.Ytmeckkckjikjiaa.Wd Go.Proofs.Ytmeckkckjikjiaa.Pm
set_option linter.unusedVariables false
theorem sign_am (n : Int) : -1 ≤ n.sign ∧ n.sign ≤ 1 := by rcases sign_cases n with ⟨_, h⟩ | ⟨_, h⟩ | ⟨_, h⟩ <;> omega
theorem or_am (a0 a1 b0 b1 c0 c1 : Int) : -1 ≤ orS a0 a1 b0 b1 c0 c1 ∧ orS a0 a1 b0 b1 c0 c1 ≤ 1 := by unfold orS; split; exact sign_am _; omega
theorem ic_am (a0 a1 b0 b1 c0 c1 d0 d1 : Int) : -1 ≤ icS a0 a1 b0 b1 c0 c1 d0 d1 ∧ icS a0 a1 b0 b1 c0 c1 d0 d1 ≤ 1 := by unfold icS; split; exact sign_am _; omega
theorem or_turn (a0 a1 b0 b1 c0 c1 : Int) : orS b0 b1 c0 c1 a0 a1 = orS a0 a1 b0 b1 c0 c1 := by
  unfold orS
  rw [ar_turn]
  by_cases h : CoP a0 a1 ∧ CoP b0 b1 ∧ CoP c0 c1
  · rw [if_pos h, if_pos ⟨h.2.1, h.2.2, h.1⟩]
  · rw [if_neg h, if_neg (fun q => h ⟨q.2.2, q.1, q.2.1⟩)]
theorem or_swap (a0 a1 b0 b1 c0 c1 : Int) : orS b0 b1 a0 a1 c0 c1 = -orS a0 a1 b0 b1 c0 c1 := by
  unfold orS
  rw [ar_swap, sign_neg]
  by_cases h : CoP a0 a1 ∧ CoP b0 b1 ∧ CoP c0 c1
  · rw [if_pos h, if_pos ⟨h.2.1, h.1, h.2.2⟩]
  · rw [if_neg h, if_neg (fun q => h ⟨q.2.1, q.1, q.2.2⟩)]; rfl
theorem ic_swap (a0 a1 b0 b1 c0 c1 d0 d1 : Int) : icS b0 b1 a0 a1 c0 c1 d0 d1 = -icS a0 a1 b0 b1 c0 c1 d0 d1 := by
  unfold icS
  rw [dt_swap, sign_neg]
  by_cases h : CoP a0 a1 ∧ CoP b0 b1 ∧ CoP c0 c1 ∧ CoP d0 d1
  · rw [if_pos h, if_pos ⟨h.2.1, h.1, h.2.2⟩]
  · rw [if_neg h, if_neg (fun q => h ⟨q.2.1, q.1, q.2.2⟩)]; rfl
theorem ic_cd (a0 a1 b0 b1 c0 c1 d0 d1 : Int) : icS a0 a1 b0 b1 d0 d1 c0 c1 = -icS a0 a1 b0 b1 c0 c1 d0 d1 := by
  unfold icS
  rw [dt_cd, sign_neg]
  by_cases h : CoP a0 a1 ∧ CoP b0 b1 ∧ CoP c0 c1 ∧ CoP d0 d1
  · rw [if_pos h, if_pos ⟨h.1, h.2.1, h.2.2.2, h.2.2.1⟩]
  · rw [if_neg h, if_neg (fun q => h ⟨q.1, q.2.1, q.2.2.2, q.2.2.1⟩)]; rfl
theorem ic_ad (a0 a1 b0 b1 c0 c1 d0 d1 : Int) : icS d0 d1 b0 b1 c0 c1 a0 a1 = -icS a0 a1 b0 b1 c0 c1 d0 d1 := by
  unfold icS
  rw [dt_ad, sign_neg]
  by_cases h : CoP a0 a1 ∧ CoP b0 b1 ∧ CoP c0 c1 ∧ CoP d0 d1
  · rw [if_pos h, if_pos ⟨h.2.2.2, h.2.1, h.2.2.1, h.1⟩]
  · rw [if_neg h, if_neg (fun q => h ⟨q.2.2.2, q.2.1, q.2.2.1, q.1⟩)]; rfl
theorem ic_turn (a0 a1 b0 b1 c0 c1 d0 d1 : Int) : icS b0 b1 c0 c1 a0 a1 d0 d1 = icS a0 a1 b0 b1 c0 c1 d0 d1 := by
  unfold icS
  rw [dt_turn]
  by_cases h : CoP a0 a1 ∧ CoP b0 b1 ∧ CoP c0 c1 ∧ CoP d0 d1
  · rw [if_pos h, if_pos ⟨h.2.1, h.2.2.1, h.1, h.2.2.2⟩]
  · rw [if_neg h, if_neg (fun q => h ⟨q.2.2.1, q.1, q.2.1, q.2.2.2⟩)]
theorem turns_f (a0 a1 b0 b1 c0 c1 d0 d1 : Int) : zelligelaw07_PredTurns.f 2000 a0 a1 b0 b1 c0 c1 d0 d1 = some true := by
  obtain ⟨k, hk⟩ : ∃ k, k = 2000 := ⟨_, rfl⟩
  have h : 2000 ≤ k := by omega
  have o := or_am a0 a1 b0 b1 c0 c1
  have i := ic_am a0 a1 b0 b1 c0 c1 d0 d1
  unfold zelligelaw07_PredTurns.f
  rw [← hk, Orient_f _ _ _ _ _ _ h, Option.bind_some, InCircle_f _ _ _ _ _ _ _ _ h, Option.bind_some, Orient_f _ _ _ _ _ _ h, Option.bind_some, if_pos (or_turn _ _ _ _ _ _), Orient_f _ _ _ _ _ _ h, Option.bind_some, if_pos (by rw [p64 (by omega)]; exact or_swap _ _ _ _ _ _),
    InCircle_f _ _ _ _ _ _ _ _ h, Option.bind_some, if_pos (by rw [p64 (by omega)]; exact ic_swap _ _ _ _ _ _ _ _), InCircle_f _ _ _ _ _ _ _ _ h, Option.bind_some, if_pos (by rw [p64 (by omega)]; exact ic_cd _ _ _ _ _ _ _ _), InCircle_f _ _ _ _ _ _ _ _ h, Option.bind_some, if_pos (by rw [p64 (by omega)]; exact ic_ad _ _ _ _ _ _ _ _),
    InCircle_f _ _ _ _ _ _ _ _ h, Option.bind_some, if_pos (ic_turn _ _ _ _ _ _ _ _), lives_true h]
  rfl
theorem turns_calls (a0_0 a0_1 a0_2 a0_3 a0_4 a0_5 a1_0 a1_1 : Int) (w : World) (h0_0 : (Lit.int .i64 a0_0).wf = true) (h0_1 : (Lit.int .i64 a0_1).wf = true) (h0_2 : (Lit.int .i64 a0_2).wf = true) (h0_3 : (Lit.int .i64 a0_3).wf = true) (h0_4 : (Lit.int .i64 a0_4).wf = true) (h0_5 : (Lit.int .i64 a0_5).wf = true) (h1_0 : (Lit.int .i64 a1_0).wf = true) (h1_1 : (Lit.int .i64 a1_1).wf = true) :
    Calls Try.prog 5 #[.agg #[.int .i64 a0_0, .int .i64 a0_1, .int .i64 a0_2, .int .i64 a0_3, .int .i64 a0_4, .int .i64 a0_5], .agg #[.int .i64 a1_0, .int .i64 a1_1]] w fun e w' => e = .returned (.bool true) ∧ Below w.heap.size w w' :=
  zelligelaw07_PredTurns.calls 2000 _ _ _ _ _ _ _ _ w (turns_f _ _ _ _ _ _ _ _)
end Go.Proofs.Ytmeckkckjikjiaa.Pd
end

section
/- Arrays as arguments: of four whole numbers, of two or three structs of two whole numbers each. -/
namespace Go.Proofs.Ytmeckkckjikjiaa.RK
open Go Go.ChangeShapes Go.WideShapes Go.ChangeAt Go.RowKit Go.WideElems Go.Maps Go.Deep
variable {H : Type} {enc : TypeId × Value → H} {P : Program}

theorem okWide_array {k e : TypeId} {n : Nat} (hu : P.underlying k = some (.array n e)) {W : World} {r : Reach} {b0 : Nat} {v : Value} (h : Value.okWide P W r b0 k v) : ∃ cs : Array Value, v = .agg cs ∧ cs.size = P.cellsOf k := by
  simp only [Value.okWide, hu] at h
  obtain ⟨cs, h1, h2, _⟩ := h
  exact ⟨cs, h1, h2⟩
theorem list4 {α : Type} {l : List α} (h : l.length = 4) : ∃ a b c d, l = [a, b, c, d] := by
  match l, h with
  | [a, b, c, d], _ => exact ⟨a, b, c, d, rfl⟩
theorem list6 {α : Type} {l : List α} (h : l.length = 6) : ∃ a b c d e f, l = [a, b, c, d, e, f] := by
  match l, h with
  | [a, b, c, d, e, f], _ => exact ⟨a, b, c, d, e, f, rfl⟩
/-- An array of four whole numbers. -/
theorem open_four {w : World} {sp : Nat → Bool} {held : Bool} {r : Reach} {b0 base : Nat} {t e : TypeId} {q : IntKind} {v : Value} {d : DataW H} {p : List MemPlace} (hu : P.underlying t = some (.array 4 e)) (he : P.underlying e = some (.int q)) (one : P.cellsOf e = 1) (size : P.cellsOf t = 4)
    (hv : Value.okWide P w r b0 t v) (h : DataW.Trod enc P w base sp held t v d p) :
    ∃ a b c d : Int, v = .agg #[.int q a, .int q b, .int q c, .int q d] ∧ (Lit.int q a).wf = true ∧ (Lit.int q b).wf = true ∧ (Lit.int q c).wf = true ∧ (Lit.int q d).wf = true := by
  obtain ⟨cs, rfl, hsz⟩ := okWide_array hu hv
  obtain ⟨l⟩ := cs
  obtain ⟨c0, c1, c2, c3, rfl⟩ := list4 (hsz.trans size)
  obtain ⟨fuel, hf⟩ := h
  cases fuel with
  | zero => simp [DataW.trod] at hf
  | succ n =>
    rw [DataW.trod_step] at hf
    unfold DataW.trodStep at hf
    simp only [hu, Value.cells] at hf
    rw [if_pos (by rw [size]; rfl)] at hf
    simp only [Option.map_eq_some_iff] at hf
    obtain ⟨xs, hx, e1⟩ := hf
    rw [show List.range 4 = [0, 1, 2, 3] from rfl, List.mapM_cons, List.mapM_cons, List.mapM_cons, List.mapM_cons, List.mapM_nil] at hx
    simp only [bind, Option.bind_eq_some_iff, pure, Option.some.injEq, one] at hx
    obtain ⟨y0, h0, _, ⟨y1, h1, _, ⟨y2, h2, _, ⟨y3, h3, _, rfl, rfl⟩, rfl⟩, rfl⟩, rfl⟩ := hx
    obtain ⟨a, ea, _, wa⟩ := DataW.trod_int he h0
    obtain ⟨b, eb, _, wb⟩ := DataW.trod_int he h1
    obtain ⟨c, ec, _, wc⟩ := DataW.trod_int he h2
    obtain ⟨d, ed, _, wd⟩ := DataW.trod_int he h3
    simp at ea eb ec ed
    subst ea eb ec ed
    exact ⟨a, b, c, d, rfl, wa, wb, wc, wd⟩
/-- One struct of two whole numbers out of its cells. -/
theorem cells_two {w : World} {sp : Nat → Bool} {held : Bool} {base fuel : Nat} {e : TypeId} {f0 f1 : Field} {k0 k1 : IntKind} {v0 v1 : Value} {x : DataW H × List MemPlace} (hs : P.underlying e = some (.struct #[f0, f1]))
    (o0 : f0.offset = 0) (o1 : f1.offset = 1) (s0 : P.cellsOf f0.type = 1) (s1 : P.cellsOf f1.type = 1) (h0 : P.underlying f0.type = some (.int k0)) (h1 : P.underlying f1.type = some (.int k1)) (h : DataW.trod enc P w base sp held fuel e [v0, v1] = some x) :
    ∃ a b : Int, v0 = .int k0 a ∧ v1 = .int k1 b ∧ (Lit.int k0 a).wf = true ∧ (Lit.int k1 b).wf = true := by
  obtain ⟨y0, y1, n, _, _, g0, g1⟩ := trod_struct2 hs h
  rw [o0, s0] at g0
  rw [o1, s1] at g1
  obtain ⟨a, ea, _, wa⟩ := DataW.trod_int h0 g0
  obtain ⟨b, eb, _, wb⟩ := DataW.trod_int h1 g1
  simp at ea eb
  exact ⟨a, b, ea, eb, wa, wb⟩
/-- An array of two structs of two whole numbers. -/
theorem open_pairs2 {w : World} {sp : Nat → Bool} {held : Bool} {r : Reach} {b0 base : Nat} {t e : TypeId} {f0 f1 : Field} {k0 k1 : IntKind} {v : Value} {d : DataW H} {p : List MemPlace} (hu : P.underlying t = some (.array 2 e)) (hs : P.underlying e = some (.struct #[f0, f1]))
    (o0 : f0.offset = 0) (o1 : f1.offset = 1) (s0 : P.cellsOf f0.type = 1) (s1 : P.cellsOf f1.type = 1) (h0 : P.underlying f0.type = some (.int k0)) (h1 : P.underlying f1.type = some (.int k1)) (two : P.cellsOf e = 2) (size : P.cellsOf t = 4)
    (hv : Value.okWide P w r b0 t v) (h : DataW.Trod enc P w base sp held t v d p) :
    ∃ a b a' b' : Int, v = .agg #[.int k0 a, .int k1 b, .int k0 a', .int k1 b'] ∧ (Lit.int k0 a).wf = true ∧ (Lit.int k1 b).wf = true ∧ (Lit.int k0 a').wf = true ∧ (Lit.int k1 b').wf = true := by
  obtain ⟨cs, rfl, hsz⟩ := okWide_array hu hv
  obtain ⟨l⟩ := cs
  obtain ⟨c0, c1, c2, c3, rfl⟩ := list4 (hsz.trans size)
  obtain ⟨fuel, hf⟩ := h
  cases fuel with
  | zero => simp [DataW.trod] at hf
  | succ n =>
    rw [DataW.trod_step] at hf
    unfold DataW.trodStep at hf
    simp only [hu, Value.cells] at hf
    rw [if_pos (by rw [size]; rfl)] at hf
    simp only [Option.map_eq_some_iff] at hf
    obtain ⟨xs, hx, e1⟩ := hf
    rw [show List.range 2 = [0, 1] from rfl, List.mapM_cons, List.mapM_cons, List.mapM_nil] at hx
    simp only [bind, Option.bind_eq_some_iff, pure, Option.some.injEq, two] at hx
    obtain ⟨y0, g0, _, ⟨y1, g1, _, rfl, rfl⟩, rfl⟩ := hx
    obtain ⟨a, b, rfl, rfl, wa, wb⟩ := cells_two hs o0 o1 s0 s1 h0 h1 g0
    obtain ⟨a', b', rfl, rfl, wa', wb'⟩ := cells_two hs o0 o1 s0 s1 h0 h1 g1
    exact ⟨a, b, a', b', rfl, wa, wb, wa', wb'⟩
/-- An array of three structs of two whole numbers. -/
theorem open_pairs3 {w : World} {sp : Nat → Bool} {held : Bool} {r : Reach} {b0 base : Nat} {t e : TypeId} {f0 f1 : Field} {k0 k1 : IntKind} {v : Value} {d : DataW H} {p : List MemPlace} (hu : P.underlying t = some (.array 3 e)) (hs : P.underlying e = some (.struct #[f0, f1]))
    (o0 : f0.offset = 0) (o1 : f1.offset = 1) (s0 : P.cellsOf f0.type = 1) (s1 : P.cellsOf f1.type = 1) (h0 : P.underlying f0.type = some (.int k0)) (h1 : P.underlying f1.type = some (.int k1)) (two : P.cellsOf e = 2) (size : P.cellsOf t = 6)
    (hv : Value.okWide P w r b0 t v) (h : DataW.Trod enc P w base sp held t v d p) :
    ∃ a b a' b' a'' b'' : Int, v = .agg #[.int k0 a, .int k1 b, .int k0 a', .int k1 b', .int k0 a'', .int k1 b''] ∧ (Lit.int k0 a).wf = true ∧ (Lit.int k1 b).wf = true ∧ (Lit.int k0 a').wf = true ∧ (Lit.int k1 b').wf = true ∧ (Lit.int k0 a'').wf = true ∧ (Lit.int k1 b'').wf = true := by
  obtain ⟨cs, rfl, hsz⟩ := okWide_array hu hv
  obtain ⟨l⟩ := cs
  obtain ⟨c0, c1, c2, c3, c4, c5, rfl⟩ := list6 (hsz.trans size)
  obtain ⟨fuel, hf⟩ := h
  cases fuel with
  | zero => simp [DataW.trod] at hf
  | succ n =>
    rw [DataW.trod_step] at hf
    unfold DataW.trodStep at hf
    simp only [hu, Value.cells] at hf
    rw [if_pos (by rw [size]; rfl)] at hf
    simp only [Option.map_eq_some_iff] at hf
    obtain ⟨xs, hx, e1⟩ := hf
    rw [show List.range 3 = [0, 1, 2] from rfl, List.mapM_cons, List.mapM_cons, List.mapM_cons, List.mapM_nil] at hx
    simp only [bind, Option.bind_eq_some_iff, pure, Option.some.injEq, two] at hx
    obtain ⟨y0, g0, _, ⟨y1, g1, _, ⟨y2, g2, _, rfl, rfl⟩, rfl⟩, rfl⟩ := hx
    obtain ⟨a, b, rfl, rfl, wa, wb⟩ := cells_two hs o0 o1 s0 s1 h0 h1 g0
    obtain ⟨a', b', rfl, rfl, wa', wb'⟩ := cells_two hs o0 o1 s0 s1 h0 h1 g1
    obtain ⟨a'', b'', rfl, rfl, wa'', wb''⟩ := cells_two hs o0 o1 s0 s1 h0 h1 g2
    exact ⟨a, b, a', b', a'', b'', rfl, wa, wb, wa', wb', wa'', wb''⟩
end Go.Proofs.Ytmeckkckjikjiaa.RK
end
