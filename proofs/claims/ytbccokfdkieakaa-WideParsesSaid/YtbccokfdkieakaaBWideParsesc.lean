/- WideParses: own texts in one (part 3 of 3): contracts of the functions that the law reaches. -/
import Derived.Test.YtbccokfdkieakaaBWideParsesb

section
namespace Go.Proofs.Ytbccokfdkieakaa.F
open Go.RowKit Go.Proofs.YtbccokfdkieakaaW.PrintWords Go.Proofs.YtbccokfdkieakaaW.PrintLast Go.Proofs.YtbccokfdkieakaaW.PrintMore
attribute [local go_sem] max2_int min2_int max_two min_two max_three min_three max_four min_four   -- for this text's walks alone
set_option linter.unusedVariables false
set_option linter.unusedSimpArgs false

/-! ### wide_Parse: function 28 -/
def wide_Parse.l0 : Nat → ByteArray → ByteArray → Int → Int → Int → Int → Option (Int × Int × Int)
  | 0, _, _, _, _, _, _ => none
  | k + 1, x0, x5, x15, x16, x349000, x349001 => if x16 < x15 then (if 0 ≤ x16 then (if x16 < (x5.size : Int) then (if (((bt x5 x16) - 48) % 256) > 9 then (some (0, 0, 4)) else ((wide_times10.f x349000 x349001 (((bt x5 x16) - 48) % 256)).bind fun bt350 => (wide_Parse.l0 k x0 x5 x15 (wrap64 (x16 + 1)) bt350.1 bt350.2))) else (none)) else (none)) else (if (x5.size : Int) < (x0.size : Int) then ((wide_sub.f 0 0 x349000 x349001).bind fun bt352 => ((wide_show.f bt352.1 bt352.2).bind fun t354 => (if t354.toList = x0.toList then (some (bt352.1, bt352.2, 0)) else (some (0, 0, 4))))) else ((wide_show.f x349000 x349001).bind fun t355 => (if t355.toList = x0.toList then (some (x349000, x349001, 0)) else (some (0, 0, 4)))))
def wide_Parse.f (k : Nat) (a0 : ByteArray) : Option (Int × Int × Int) := (strings_TrimPrefix.f a0 (⟨#[45]⟩ : ByteArray)).bind fun t349 => (if (t349.size : Int) ≥ 40 then (some (0, 0, 4)) else (wide_Parse.l0 k a0 t349 (t349.size : Int) 0 0 0))
theorem wide_Parse.mono_l : ∀ k, (∀ y0 y1 y2 y3 y4 y5, LeO (wide_Parse.l0 k y0 y1 y2 y3 y4 y5) (wide_Parse.l0 (k + 1) y0 y1 y2 y3 y4 y5))
  | 0 => fun _ _ _ _ _ _ r h => by simp [wide_Parse.l0] at h
  | k + 1 => by
    have ih0 := wide_Parse.mono_l k
    · intro y0 y1 y2 y3 y4 y5
      unfold wide_Parse.l0
      repeat' first
      | (with_reducible exact ih0 _ _ _ _ _ _)
      | (with_reducible exact LeO.refl _)
      | (with_reducible exact LeO.none _)
      | (with_reducible refine LeO.ite ?_ ?_)
      | (with_reducible refine LeO.bind ?_ (fun _ => ?_))
      | exact ih0 _ _ _ _ _ _
      | exact LeO.none _
      | refine LeO.ite ?_ ?_
      | refine LeO.bind ?_ (fun _ => ?_)
theorem wide_Parse.mono : ∀ a0 k, LeO (wide_Parse.f k a0) (wide_Parse.f (k + 1) a0) := by
  intro a0 k
  have ih0 := wide_Parse.mono_l k
  unfold wide_Parse.f
  repeat' first
      | (with_reducible exact ih0 _ _ _ _ _ _)
      | (with_reducible exact LeO.refl _)
      | (with_reducible exact LeO.none _)
      | (with_reducible refine LeO.ite ?_ ?_)
      | (with_reducible refine LeO.bind ?_ (fun _ => ?_))
      | exact ih0 _ _ _ _ _ _
      | exact LeO.none _
      | refine LeO.ite ?_ ?_
      | refine LeO.bind ?_ (fun _ => ?_)
set_option maxHeartbeats 8000000 in
set_option maxRecDepth 100000 in
theorem wide_Parse.calls (k : Nat) (a0 : ByteArray) (r1 : Int) (r2 : Int) (r3 : Int) (w : World) (h : wide_Parse.f k a0 = some (r1, r2, r3)) :
    Calls Try.prog 28 #[.string a0] w fun e w' => e = .returned (.tuple #[.agg #[.int .i64 r1, .int .u64 r2], .int .i64 r3]) ∧ Below w.heap.size w w' := by
  have hu24 := Try.underlying24
  have HB := Aside0.mk (Below.refl w.heap.size w)
  have H : ((strings_TrimPrefix.f a0 (⟨#[45]⟩ : ByteArray)).bind fun t349 => (if (t349.size : Int) ≥ 40 then (some (0, 0, 4)) else (wide_Parse.l0 k a0 t349 (t349.size : Int) 0 0 0))) = some (r1, r2, r3) := h
  clear h
  replace H := Option.bind_eq_some_iff.mp H
  obtain ⟨t349, A20, H⟩ := H
  replace H : (if (t349.size : Int) ≥ 40 then (some (0, 0, 4)) else (wide_Parse.l0 k a0 t349 (t349.size : Int) 0 0 0)) = some (r1, r2, r3) := H
  have A2 := Aside0.mk A20
  clear A20
  by_cases c3 : (t349.size : Int) ≥ 40
  · rw [if_pos c3] at H
    have c3b0 : decide (40 ≤ (t349.size : Int)) = true := decide_eq_true c3
    have c3b1 : decide (40 ≤ t349.size) = true := decide_eq_true (by omega)
    clear c3
    simp only [Option.some.injEq, Prod.mk.injEq] at H
    obtain ⟨rfl, rfl, rfl⟩ := H
    go_enter Try.func28, Try.ntmps28
    go_wp2_with (first | ((with_reducible refine gate_dst (N := 2) rfl ?_); refine box_event ?hg (N := 2) ?hd (cs := #[.int .i64 0, .int .u64 0]) (t := 24) ?hr ?_; (case hd => rfl); (case hg => rfl); (case hr => first | (go_simp; done) | (go_simp; rfl)); intro gb347 hg w4 hbox hb; have n0_ := Aside0.mk (below_step (by repeat (first | (with_reducible first | exact HB.out | apply below_alloc | apply pw_below_drewN | apply below_drew1) | exact HB.out)) hb); have n1_ := Aside0.mk (hbox); have n2_ := Aside0.mk ((by rw [hg]; exact (below_size (by repeat (first | (with_reducible first | exact HB.out | apply below_alloc | apply pw_below_drewN | apply below_drew1) | exact HB.out))) : w.heap.size ≤ gb347)); have n3_ := Aside0.mk ((by rw [hg]; exact (below_size (by repeat (first | (with_reducible first | exact HB.out | apply below_alloc | apply pw_below_drewN | apply below_drew1) | exact HB.out))) : w.heap.size ≤ gb347)); clear HB; have HB := n0_; have BK347 := n1_; have GW347 := n2_; have GE347 := n3_; clear n0_ n1_ n2_ n3_; clear hb hbox hg) | ((with_reducible refine gate_dst (N := 4) rfl ?_); refine box_event ?hg (N := 4) ?hd (cs := #[.int .i64 0, .int .u64 0]) (t := 24) ?hr ?_; (case hd => rfl); (case hg => rfl); (case hr => first | (go_simp; done) | (go_simp; rfl)); intro gb348 hg w5 hbox hb; have n0_ := Aside0.mk (blk_below (g := gb347) (o := .cells #[.int .i64 0, .int .u64 0] 24 (0, 0)) (by (with_reducible repeat (first | refine blk_drewN ?_ _ | refine blk_drew ?_ | refine blk_alloc ?_ _)); exact BK347.out) hb); have n1_ := Aside0.mk (below_step (by repeat (first | (with_reducible first | exact HB.out | apply below_alloc | apply pw_below_drewN | apply below_drew1 | refine below_set ?_ GE347.out) | exact HB.out)) hb); have n2_ := Aside0.mk (hbox); have n3_ := Aside0.mk ((by rw [hg]; exact (below_size (by repeat (first | (with_reducible first | exact HB.out | apply below_alloc | apply pw_below_drewN | apply below_drew1 | refine below_set ?_ GE347.out) | exact HB.out))) : w.heap.size ≤ gb348)); have n4_ := Aside0.mk ((by rw [hg]; exact (below_size (by repeat (first | (with_reducible first | exact HB.out | apply below_alloc | apply pw_below_drewN | apply below_drew1 | refine below_set ?_ GE347.out) | exact HB.out))) : w.heap.size ≤ gb348)); have n5_ := Aside0.mk ((by rw [hg]; exact Nat.ne_of_lt (blk_lt (g := gb347) (o := .cells #[.int .i64 0, .int .u64 0] 24 (0, 0)) (by (with_reducible repeat (first | refine blk_drewN ?_ _ | refine blk_drew ?_ | refine blk_alloc ?_ _)); exact BK347.out)) : gb347 ≠ gb348)); have n6_ := Aside0.mk ((by rw [hg]; exact Nat.ne_of_gt (blk_lt (g := gb347) (o := .cells #[.int .i64 0, .int .u64 0] 24 (0, 0)) (by (with_reducible repeat (first | refine blk_drewN ?_ _ | refine blk_drew ?_ | refine blk_alloc ?_ _)); exact BK347.out)) : gb348 ≠ gb347)); clear BK347; clear HB; have BK347 := n0_; have HB := n1_; have BK348 := n2_; have GW348 := n3_; have GE348 := n4_; have NB347_348 := n5_; have NB348_347 := n6_; clear n0_ n1_ n2_ n3_ n4_ n5_ n6_; clear hb hbox hg) | ((with_reducible refine gate_callee (f := 37) rfl ?_); refine goesL_ (some 9) rfl rfl Try.func37 (by kernel_rfl) rfl #[.string a0, .string (⟨#[45]⟩ : ByteArray)] rfl (by (try simp only [List.map_toArray, List.map_cons, List.map_nil]); first | done | rfl | (simp only [List.length_drop, List.length_take]; rfl)) ?_; (with_reducible refine (strings_TrimPrefix.calls a0 (⟨#[45]⟩ : ByteArray) t349 _ A2.out).mono ?_); rintro e w' ⟨rfl, ⟨nd, rfl⟩⟩; refine ⟨_, rfl, ?_⟩; (try (rw [drewN_self w5]; generalize hq_ : World.drewN w5 _ = w5; have n0_ : Aside0 (w5.heap[gb347]? = some (.cells #[.int .i64 0, .int .u64 0] 24 (0, 0))) := ⟨by rw [← hq_]; exact (by (with_reducible repeat (first | refine blk_drewN ?_ _ | refine blk_drew ?_ | refine blk_alloc ?_ _)); exact BK347.out)⟩; have n1_ : Aside0 (w5.heap[gb348]? = some (.cells #[.int .i64 0, .int .u64 0] 24 (0, 0))) := ⟨by rw [← hq_]; exact (by (with_reducible repeat (first | refine blk_drewN ?_ _ | refine blk_drew ?_ | refine blk_alloc ?_ _)); exact BK348.out)⟩; have n2_ : Aside0 (Below w.heap.size w w5) := ⟨by rw [← hq_]; exact (by repeat (first | (with_reducible first | exact HB.out | apply below_alloc | apply pw_below_drewN | apply below_drew1 | refine below_set ?_ GE347.out | refine below_set ?_ GE348.out) | exact HB.out))⟩; clear BK347 BK348 HB hq_; have BK347 := n0_; have BK348 := n1_; have HB := n2_; clear n0_ n1_ n2_)); have hnb6 := NB348_347.out; have hnc6 := NB347_348.out; have hcz7_0 : w5.cell? ⟨gb348, 0, none⟩ = some (.int .i64 0) := (blk_cell BK348.out 0).trans rfl; have hcz7_1 : w5.cell? ⟨gb348, 1, none⟩ = some (.int .u64 0) := (blk_cell BK348.out 1).trans rfl; have hfz7_0 := blk_frozen BK348.out 0; have hfz7_1 := blk_frozen BK348.out 1; have hcz8_0 : w5.cell? ⟨gb347, 0, none⟩ = some (.int .i64 0) := (blk_cell BK347.out 0).trans rfl; have hcz8_1 : w5.cell? ⟨gb347, 1, none⟩ = some (.int .u64 0) := (blk_cell BK347.out 1).trans rfl; have hfz8_0 := blk_frozen BK347.out 0; have hfz8_1 := blk_frozen BK347.out 1))
    refine bodyPost_ret (results_ct rfl _ _ gb347 24 #[.int .i64 0, .int .u64 0] (0, 0) _ rfl (by (with_reducible repeat (first | refine blk_drewN ?_ _ | refine blk_drew ?_ | refine blk_alloc ?_ _)); refine blk_put (cs := #[.int .i64 0, .int .u64 0]) ?_ 1 _ rfl; (with_reducible repeat (first | refine blk_drewN ?_ _ | refine blk_drew ?_ | refine blk_alloc ?_ _)); refine blk_put (cs := #[.int .i64 0, .int .u64 0]) ?_ 0 _ rfl; (with_reducible repeat (first | refine blk_drewN ?_ _ | refine blk_drew ?_ | refine blk_alloc ?_ _)); exact BK347.out) Try.underlying24 rfl (by kernel_rfl)) rfl ?_
    exact ⟨by first | rfl | (simp [errW_none, errW_some] <;> rfl) | (simp [*, errW_none, errW_some] <;> rfl), by repeat (first | (with_reducible first | exact HB.out | apply below_alloc | apply pw_below_drewN | apply below_drew1 | refine below_set ?_ GE347.out | refine below_set ?_ GE348.out) | exact HB.out)⟩
  · rw [if_neg c3] at H
    have c3b0 : decide (40 ≤ (t349.size : Int)) = false := decide_eq_false c3
    have c3b1 : decide (40 ≤ t349.size) = false := decide_eq_false (by omega)
    clear c3
    have H' := Aside0.mk H
    clear H
    go_enter Try.func28, Try.ntmps28
    go_wp2_with (first | ((with_reducible refine gate_dst (N := 2) rfl ?_); refine box_event ?hg (N := 2) ?hd (cs := #[.int .i64 0, .int .u64 0]) (t := 24) ?hr ?_; (case hd => rfl); (case hg => rfl); (case hr => first | (go_simp; done) | (go_simp; rfl)); intro gb347 hg w9 hbox hb; have n0_ := Aside0.mk (below_step (by repeat (first | (with_reducible first | exact HB.out | apply below_alloc | apply pw_below_drewN | apply below_drew1) | exact HB.out)) hb); have n1_ := Aside0.mk (hbox); have n2_ := Aside0.mk ((by rw [hg]; exact (below_size (by repeat (first | (with_reducible first | exact HB.out | apply below_alloc | apply pw_below_drewN | apply below_drew1) | exact HB.out))) : w.heap.size ≤ gb347)); have n3_ := Aside0.mk ((by rw [hg]; exact (below_size (by repeat (first | (with_reducible first | exact HB.out | apply below_alloc | apply pw_below_drewN | apply below_drew1) | exact HB.out))) : w.heap.size ≤ gb347)); clear HB; have HB := n0_; have BK347 := n1_; have GW347 := n2_; have GE347 := n3_; clear n0_ n1_ n2_ n3_; clear hb hbox hg) | ((with_reducible refine gate_dst (N := 4) rfl ?_); refine box_event ?hg (N := 4) ?hd (cs := #[.int .i64 0, .int .u64 0]) (t := 24) ?hr ?_; (case hd => rfl); (case hg => rfl); (case hr => first | (go_simp; done) | (go_simp; rfl)); intro gb348 hg w10 hbox hb; have n0_ := Aside0.mk (blk_below (g := gb347) (o := .cells #[.int .i64 0, .int .u64 0] 24 (0, 0)) (by (with_reducible repeat (first | refine blk_drewN ?_ _ | refine blk_drew ?_ | refine blk_alloc ?_ _)); exact BK347.out) hb); have n1_ := Aside0.mk (below_step (by repeat (first | (with_reducible first | exact HB.out | apply below_alloc | apply pw_below_drewN | apply below_drew1 | refine below_set ?_ GE347.out) | exact HB.out)) hb); have n2_ := Aside0.mk (hbox); have n3_ := Aside0.mk ((by rw [hg]; exact (below_size (by repeat (first | (with_reducible first | exact HB.out | apply below_alloc | apply pw_below_drewN | apply below_drew1 | refine below_set ?_ GE347.out) | exact HB.out))) : w.heap.size ≤ gb348)); have n4_ := Aside0.mk ((by rw [hg]; exact (below_size (by repeat (first | (with_reducible first | exact HB.out | apply below_alloc | apply pw_below_drewN | apply below_drew1 | refine below_set ?_ GE347.out) | exact HB.out))) : w.heap.size ≤ gb348)); have n5_ := Aside0.mk ((by rw [hg]; exact Nat.ne_of_lt (blk_lt (g := gb347) (o := .cells #[.int .i64 0, .int .u64 0] 24 (0, 0)) (by (with_reducible repeat (first | refine blk_drewN ?_ _ | refine blk_drew ?_ | refine blk_alloc ?_ _)); exact BK347.out)) : gb347 ≠ gb348)); have n6_ := Aside0.mk ((by rw [hg]; exact Nat.ne_of_gt (blk_lt (g := gb347) (o := .cells #[.int .i64 0, .int .u64 0] 24 (0, 0)) (by (with_reducible repeat (first | refine blk_drewN ?_ _ | refine blk_drew ?_ | refine blk_alloc ?_ _)); exact BK347.out)) : gb348 ≠ gb347)); clear BK347; clear HB; have BK347 := n0_; have HB := n1_; have BK348 := n2_; have GW348 := n3_; have GE348 := n4_; have NB347_348 := n5_; have NB348_347 := n6_; clear n0_ n1_ n2_ n3_ n4_ n5_ n6_; clear hb hbox hg) | ((with_reducible refine gate_callee (f := 37) rfl ?_); refine goesL_ (some 9) rfl rfl Try.func37 (by kernel_rfl) rfl #[.string a0, .string (⟨#[45]⟩ : ByteArray)] rfl (by (try simp only [List.map_toArray, List.map_cons, List.map_nil]); first | done | rfl | (simp only [List.length_drop, List.length_take]; rfl)) ?_; (with_reducible refine (strings_TrimPrefix.calls a0 (⟨#[45]⟩ : ByteArray) t349 _ A2.out).mono ?_); rintro e w' ⟨rfl, ⟨nd, rfl⟩⟩; refine ⟨_, rfl, ?_⟩))
    go_loopg [16] k (fun kq v16 w' => ∃ (x16_1 : Int) (x348000_1 : Int) (x348001_1 : Int) (x349000_1 : Int) (x349001_1 : Int), v16 = .int .i64 x16_1 ∧ Aside0 (wide_Parse.l0 kq a0 t349 (t349.size : Int) x16_1 x349000_1 x349001_1 = some (r1, r2, r3)) ∧ Aside0 (kq ≤ k) ∧ Aside0 (w'.heap[gb347]? = some (.cells #[.int .i64 x348000_1, .int .u64 x348001_1] 24 (0, 0))) ∧ Aside0 (w'.heap[gb348]? = some (.cells #[.int .i64 x349000_1, .int .u64 x349001_1] 24 (0, 0))) ∧ Aside0 (Below w.heap.size w w'))
    case atStart => exact ⟨(0), (0), (0), (0), (0), (by first | rfl | (simp; done) | (simp [*]; done)), H', ⟨Nat.le_refl _⟩, ⟨by (with_reducible repeat (first | refine blk_drewN ?_ _ | refine blk_drew ?_ | refine blk_alloc ?_ _)); exact BK347.out⟩, ⟨by (with_reducible repeat (first | refine blk_drewN ?_ _ | refine blk_drew ?_ | refine blk_alloc ?_ _)); exact BK348.out⟩, ⟨by repeat (first | (with_reducible first | exact HB.out | apply below_alloc | apply pw_below_drewN | apply below_drew1 | refine below_set ?_ GE347.out | refine below_set ?_ GE348.out) | exact HB.out)⟩⟩
    case round =>
      clear H'
      try clear c2
      try clear p2
      try clear c3
      try clear c3b0
      try clear c3b1
      try clear c6
      try clear hcz7_0
      try clear hcz7_1
      try clear hcz8_0
      try clear hcz8_1
      try clear hfz7_0
      try clear hfz7_1
      try clear hfz8_0
      try clear hfz8_1
      obtain ⟨x16_1, x348000_1, x348001_1, x349000_1, x349001_1, rfl, HA, HK1, BK347, BK348, HB⟩ := hrel
      cases gk with
      | zero => exact absurd HA.out (by simp [wide_Parse.l0])
      | succ k1 =>
        have H := HA.out
        clear HA
        simp only [wide_Parse.l0] at H
        by_cases c11 : x16_1 < (t349.size : Int)
        · rw [if_pos c11] at H
          have c11b0 : decide (x16_1 < (t349.size : Int)) = true := decide_eq_true c11
          clear c11
          by_cases c12 : 0 ≤ x16_1
          · rw [if_pos c12] at H
            have c12b0 : decide (0 ≤ x16_1) = true := decide_eq_true c12
            clear c12
            by_cases c13 : x16_1 < (t349.size : Int)
            · rw [if_pos c13] at H
              have c13b0 : decide (x16_1 < (t349.size : Int)) = true := decide_eq_true c13
              clear c13
              by_cases c15 : (((bt t349 x16_1) - 48) % 256) > 9
              · rw [if_pos c15] at H
                have c15b0 : decide (9 < (((bt t349 x16_1) - 48) % 256)) = true := decide_eq_true c15
                clear c15
                simp only [Option.some.injEq, Prod.mk.injEq] at H
                obtain ⟨rfl, rfl, rfl⟩ := H
                have p14 : 0 ≤ (x16_1 : Int) := of_decide_eq_true (by first | (with_reducible assumption) | assumption)
                have q14 : x16_1 < (t349.size : Int) := of_decide_eq_true (by first | (with_reducible assumption) | assumption)
                have hx14 := bt_at t349 x16_1
                replace p14 := eq_true p14
                replace q14 := eq_true q14
                have hnb16 := NB347_348.out
                have hnc16 := NB348_347.out
                have hcz17_0 : wr.cell? ⟨gb347, 0, none⟩ = some (.int .i64 x348000_1) := (blk_cell BK347.out 0).trans rfl
                have hcz17_1 : wr.cell? ⟨gb347, 1, none⟩ = some (.int .u64 x348001_1) := (blk_cell BK347.out 1).trans rfl
                have hfz17_0 := blk_frozen BK347.out 0
                have hfz17_1 := blk_frozen BK347.out 1
                go_wp2
                refine bodyPost_ret (results_ct rfl _ _ gb347 24 #[.int .i64 0, .int .u64 0] (0, 0) _ rfl (by (with_reducible repeat (first | refine blk_drewN ?_ _ | refine blk_drew ?_ | refine blk_alloc ?_ _)); refine blk_put (cs := #[.int .i64 0, .int .u64 x348001_1]) ?_ 1 _ rfl; (with_reducible repeat (first | refine blk_drewN ?_ _ | refine blk_drew ?_ | refine blk_alloc ?_ _)); refine blk_put (cs := #[.int .i64 x348000_1, .int .u64 x348001_1]) ?_ 0 _ rfl; (with_reducible repeat (first | refine blk_drewN ?_ _ | refine blk_drew ?_ | refine blk_alloc ?_ _)); exact BK347.out) Try.underlying24 rfl (by kernel_rfl)) rfl ?_
                exact ⟨by first | rfl | (simp [errW_none, errW_some] <;> rfl) | (simp [*, errW_none, errW_some] <;> rfl), by repeat (first | (with_reducible first | exact HB.out | apply below_alloc | apply pw_below_drewN | apply below_drew1 | refine below_set ?_ GE347.out | refine below_set ?_ GE348.out) | exact HB.out)⟩
              · rw [if_neg c15] at H
                have c15b0 : decide (9 < (((bt t349 x16_1) - 48) % 256)) = false := decide_eq_false c15
                clear c15
                replace H := Option.bind_eq_some_iff.mp H
                obtain ⟨⟨t350, t351⟩, A180, H⟩ := H
                replace H : (wide_Parse.l0 k1 a0 t349 (t349.size : Int) (wrap64 (x16_1 + 1)) t350 t351) = some (r1, r2, r3) := H
                have A18 := Aside0.mk A180
                clear A180
                have H' := Aside0.mk H
                clear H
                have p14 : 0 ≤ (x16_1 : Int) := of_decide_eq_true (by first | (with_reducible assumption) | assumption)
                have q14 : x16_1 < (t349.size : Int) := of_decide_eq_true (by first | (with_reducible assumption) | assumption)
                have hx14 := bt_at t349 x16_1
                replace p14 := eq_true p14
                replace q14 := eq_true q14
                have hnb19 := NB348_347.out
                have hnc19 := NB347_348.out
                have hcz20_0 : wr.cell? ⟨gb348, 0, none⟩ = some (.int .i64 x349000_1) := (blk_cell BK348.out 0).trans rfl
                have hcz20_1 : wr.cell? ⟨gb348, 1, none⟩ = some (.int .u64 x349001_1) := (blk_cell BK348.out 1).trans rfl
                have hfz20_0 := blk_frozen BK348.out 0
                have hfz20_1 := blk_frozen BK348.out 1
                go_wp2_with (first | ((with_reducible refine gate_callee (f := 38) rfl ?_); refine goesL_ (some 28) rfl rfl Try.func38 (by kernel_rfl) rfl #[.agg #[.int .i64 x349000_1, .int .u64 x349001_1], .int .u8 (((bt t349 x16_1) - 48) % 256)] rfl (by (try simp only [List.map_toArray, List.map_cons, List.map_nil]); first | done | rfl | (simp only [List.length_drop, List.length_take]; rfl)) ?_; (with_reducible refine (wide_times10.calls x349000_1 x349001_1 (((bt t349 x16_1) - 48) % 256) t350 t351 _ A18.out).mono ?_); rintro e w21 ⟨rfl, hb⟩; refine ⟨_, rfl, ?_⟩; have n0_ := Aside0.mk (blk_below (g := gb347) (o := .cells #[.int .i64 x348000_1, .int .u64 x348001_1] 24 (0, 0)) (by (with_reducible repeat (first | refine blk_drewN ?_ _ | refine blk_drew ?_ | refine blk_alloc ?_ _)); exact BK347.out) hb); have n1_ := Aside0.mk (blk_below (g := gb348) (o := .cells #[.int .i64 x349000_1, .int .u64 x349001_1] 24 (0, 0)) (by (with_reducible repeat (first | refine blk_drewN ?_ _ | refine blk_drew ?_ | refine blk_alloc ?_ _)); exact BK348.out) hb); have n2_ := Aside0.mk (below_step (by repeat (first | (with_reducible first | exact HB.out | apply below_alloc | apply pw_below_drewN | apply below_drew1 | refine below_set ?_ GE347.out | refine below_set ?_ GE348.out) | exact HB.out)) hb); clear BK347; clear BK348; clear HB; have BK347 := n0_; have BK348 := n1_; have HB := n2_; clear n0_ n1_ n2_; (try clear hb); (try clear hb2); (try clear hk); (try clear hi); have hcz22_0 : w21.cell? ⟨gb348, 0, none⟩ = some (.int .i64 x349000_1) := (blk_cell BK348.out 0).trans rfl; have hcz22_1 : w21.cell? ⟨gb348, 1, none⟩ = some (.int .u64 x349001_1) := (blk_cell BK348.out 1).trans rfl; have hfz22_0 := blk_frozen BK348.out 0; have hfz22_1 := blk_frozen BK348.out 1))
                go_roundg k1
                case measure => have := HK1.out; omega
                case rel => exact ⟨(wrap64 (x16_1 + 1)), (x348000_1), (x348001_1), (t350), (t351), (by first | rfl | (simp; done) | (simp [*]; done)), H', ⟨by have := HK1.out; omega⟩, ⟨by (with_reducible repeat (first | refine blk_drewN ?_ _ | refine blk_drew ?_ | refine blk_alloc ?_ _)); refine blk_far ?_ NB347_348.out _; (with_reducible repeat (first | refine blk_drewN ?_ _ | refine blk_drew ?_ | refine blk_alloc ?_ _)); refine blk_far ?_ NB347_348.out _; (with_reducible repeat (first | refine blk_drewN ?_ _ | refine blk_drew ?_ | refine blk_alloc ?_ _)); exact BK347.out⟩, ⟨by (with_reducible repeat (first | refine blk_drewN ?_ _ | refine blk_drew ?_ | refine blk_alloc ?_ _)); refine blk_put (cs := #[.int .i64 t350, .int .u64 x349001_1]) ?_ 1 _ rfl; (with_reducible repeat (first | refine blk_drewN ?_ _ | refine blk_drew ?_ | refine blk_alloc ?_ _)); refine blk_put (cs := #[.int .i64 x349000_1, .int .u64 x349001_1]) ?_ 0 _ rfl; (with_reducible repeat (first | refine blk_drewN ?_ _ | refine blk_drew ?_ | refine blk_alloc ?_ _)); exact BK348.out⟩, ⟨by repeat (first | (with_reducible first | exact HB.out | apply below_alloc | apply pw_below_drewN | apply below_drew1 | refine below_set ?_ GE347.out | refine below_set ?_ GE348.out) | exact HB.out)⟩⟩
            · rw [if_neg c13] at H
              exact absurd H (by simp)
          · rw [if_neg c12] at H
            exact absurd H (by simp)
        · rw [if_neg c11] at H
          have c11b0 : decide (x16_1 < (t349.size : Int)) = false := decide_eq_false c11
          clear c11
          by_cases c23 : (t349.size : Int) < (a0.size : Int)
          · rw [if_pos c23] at H
            have c23b0 : decide ((t349.size : Int) < (a0.size : Int)) = true := decide_eq_true c23
            have c23b1 : decide (t349.size < a0.size) = true := decide_eq_true (Int.ofNat_lt.mp c23)
            clear c23
            replace H := Option.bind_eq_some_iff.mp H
            obtain ⟨⟨t352, t353⟩, A240, H⟩ := H
            replace H : ((wide_show.f t352 t353).bind fun t354 => (if t354.toList = a0.toList then (some (t352, t353, 0)) else (some (0, 0, 4)))) = some (r1, r2, r3) := H
            have A24 := Aside0.mk A240
            clear A240
            replace H := Option.bind_eq_some_iff.mp H
            obtain ⟨t354, A250, H⟩ := H
            replace H : (if t354.toList = a0.toList then (some (t352, t353, 0)) else (some (0, 0, 4))) = some (r1, r2, r3) := H
            have A25 := Aside0.mk A250
            clear A250
            by_cases c26 : t354.toList = a0.toList
            · rw [if_pos c26] at H
              have c26b0 : (t354.toList == a0.toList) = true := beq_iff_eq.mpr c26
              have c26b1 : (t354.toList != a0.toList) = false := bne_eq_false_iff_eq.mpr c26
              clear c26
              simp only [Option.some.injEq, Prod.mk.injEq] at H
              obtain ⟨rfl, rfl, rfl⟩ := H
              have hnb27 := NB348_347.out
              have hnc27 := NB347_348.out
              have hcz28_0 : wr.cell? ⟨gb348, 0, none⟩ = some (.int .i64 x349000_1) := (blk_cell BK348.out 0).trans rfl
              have hcz28_1 : wr.cell? ⟨gb348, 1, none⟩ = some (.int .u64 x349001_1) := (blk_cell BK348.out 1).trans rfl
              have hfz28_0 := blk_frozen BK348.out 0
              have hfz28_1 := blk_frozen BK348.out 1
              go_wp2_with (first | ((with_reducible refine gate_callee (f := 33) rfl ?_); refine goesL_ (some 37) rfl rfl Try.func33 (by kernel_rfl) rfl #[.agg #[.int .i64 0, .int .u64 0], .agg #[.int .i64 x349000_1, .int .u64 x349001_1]] rfl (by (try simp only [List.map_toArray, List.map_cons, List.map_nil]); first | done | rfl | (simp only [List.length_drop, List.length_take]; rfl)) ?_; (with_reducible refine (wide_sub.calls 0 0 x349000_1 x349001_1 t352 t353 _ A24.out).mono ?_); rintro e w29 ⟨rfl, hb⟩; refine ⟨_, rfl, ?_⟩; have n0_ := Aside0.mk (blk_below (g := gb347) (o := .cells #[.int .i64 x348000_1, .int .u64 x348001_1] 24 (0, 0)) (by (with_reducible repeat (first | refine blk_drewN ?_ _ | refine blk_drew ?_ | refine blk_alloc ?_ _)); exact BK347.out) hb); have n1_ := Aside0.mk (blk_below (g := gb348) (o := .cells #[.int .i64 x349000_1, .int .u64 x349001_1] 24 (0, 0)) (by (with_reducible repeat (first | refine blk_drewN ?_ _ | refine blk_drew ?_ | refine blk_alloc ?_ _)); exact BK348.out) hb); have n2_ := Aside0.mk (below_step (by repeat (first | (with_reducible first | exact HB.out | apply below_alloc | apply pw_below_drewN | apply below_drew1 | refine below_set ?_ GE347.out | refine below_set ?_ GE348.out) | exact HB.out)) hb); clear BK347; clear BK348; clear HB; have BK347 := n0_; have BK348 := n1_; have HB := n2_; clear n0_ n1_ n2_; (try clear hb); (try clear hb2); (try clear hk); (try clear hi); have hcz30_0 : w29.cell? ⟨gb348, 0, none⟩ = some (.int .i64 x349000_1) := (blk_cell BK348.out 0).trans rfl; have hcz30_1 : w29.cell? ⟨gb348, 1, none⟩ = some (.int .u64 x349001_1) := (blk_cell BK348.out 1).trans rfl; have hfz30_0 := blk_frozen BK348.out 0; have hfz30_1 := blk_frozen BK348.out 1) | ((with_reducible refine gate_callee (f := 36) rfl ?_); refine goesL_ (some 39) rfl rfl Try.func36 (by kernel_rfl) rfl #[.agg #[.int .i64 t352, .int .u64 t353]] rfl (by (try simp only [List.map_toArray, List.map_cons, List.map_nil]); first | done | rfl | (simp only [List.length_drop, List.length_take]; rfl)) ?_; (with_reducible refine (wide_show.calls t352 t353 t354 _ A25.out).mono ?_); rintro e w31 ⟨rfl, hb⟩; refine ⟨_, rfl, ?_⟩; have n0_ := Aside0.mk (blk_below (g := gb347) (o := .cells #[.int .i64 x348000_1, .int .u64 x348001_1] 24 (0, 0)) (by (with_reducible repeat (first | refine blk_drewN ?_ _ | refine blk_drew ?_ | refine blk_alloc ?_ _)); refine blk_far ?_ NB347_348.out _; (with_reducible repeat (first | refine blk_drewN ?_ _ | refine blk_drew ?_ | refine blk_alloc ?_ _)); refine blk_far ?_ NB347_348.out _; (with_reducible repeat (first | refine blk_drewN ?_ _ | refine blk_drew ?_ | refine blk_alloc ?_ _)); exact BK347.out) hb); have n1_ := Aside0.mk (blk_below (g := gb348) (o := .cells #[.int .i64 t352, .int .u64 t353] 24 (0, 0)) (by (with_reducible repeat (first | refine blk_drewN ?_ _ | refine blk_drew ?_ | refine blk_alloc ?_ _)); refine blk_put (cs := #[.int .i64 t352, .int .u64 x349001_1]) ?_ 1 _ rfl; (with_reducible repeat (first | refine blk_drewN ?_ _ | refine blk_drew ?_ | refine blk_alloc ?_ _)); refine blk_put (cs := #[.int .i64 x349000_1, .int .u64 x349001_1]) ?_ 0 _ rfl; (with_reducible repeat (first | refine blk_drewN ?_ _ | refine blk_drew ?_ | refine blk_alloc ?_ _)); exact BK348.out) hb); have n2_ := Aside0.mk (below_step (by repeat (first | (with_reducible first | exact HB.out | apply below_alloc | apply pw_below_drewN | apply below_drew1 | refine below_set ?_ GE347.out | refine below_set ?_ GE348.out) | exact HB.out)) hb); clear BK347; clear BK348; clear HB; have BK347 := n0_; have BK348 := n1_; have HB := n2_; clear n0_ n1_ n2_; (try clear hb); (try clear hb2); (try clear hk); (try clear hi); have hcz32_0 : w31.cell? ⟨gb348, 0, none⟩ = some (.int .i64 t352) := (blk_cell BK348.out 0).trans rfl; have hcz32_1 : w31.cell? ⟨gb348, 1, none⟩ = some (.int .u64 t353) := (blk_cell BK348.out 1).trans rfl; have hfz32_0 := blk_frozen BK348.out 0; have hfz32_1 := blk_frozen BK348.out 1; have hcz33_0 : w31.cell? ⟨gb347, 0, none⟩ = some (.int .i64 x348000_1) := (blk_cell BK347.out 0).trans rfl; have hcz33_1 : w31.cell? ⟨gb347, 1, none⟩ = some (.int .u64 x348001_1) := (blk_cell BK347.out 1).trans rfl; have hfz33_0 := blk_frozen BK347.out 0; have hfz33_1 := blk_frozen BK347.out 1))
              refine bodyPost_ret (results_ct rfl _ _ gb347 24 #[.int .i64 t352, .int .u64 t353] (0, 0) _ rfl (by (with_reducible repeat (first | refine blk_drewN ?_ _ | refine blk_drew ?_ | refine blk_alloc ?_ _)); refine blk_put (cs := #[.int .i64 t352, .int .u64 x348001_1]) ?_ 1 _ rfl; (with_reducible repeat (first | refine blk_drewN ?_ _ | refine blk_drew ?_ | refine blk_alloc ?_ _)); refine blk_put (cs := #[.int .i64 x348000_1, .int .u64 x348001_1]) ?_ 0 _ rfl; (with_reducible repeat (first | refine blk_drewN ?_ _ | refine blk_drew ?_ | refine blk_alloc ?_ _)); exact BK347.out) Try.underlying24 rfl (by kernel_rfl)) rfl ?_
              exact ⟨by first | rfl | (simp [errW_none, errW_some] <;> rfl) | (simp [*, errW_none, errW_some] <;> rfl), by repeat (first | (with_reducible first | exact HB.out | apply below_alloc | apply pw_below_drewN | apply below_drew1 | refine below_set ?_ GE347.out | refine below_set ?_ GE348.out) | exact HB.out)⟩
            · rw [if_neg c26] at H
              have c26b0 : (t354.toList == a0.toList) = false := beq_eq_false_iff_ne.mpr c26
              have c26b1 : (t354.toList != a0.toList) = true := bne_iff_ne.mpr c26
              simp only [Option.some.injEq, Prod.mk.injEq] at H
              obtain ⟨rfl, rfl, rfl⟩ := H
              have hnb34 := NB348_347.out
              have hnc34 := NB347_348.out
              have hcz35_0 : wr.cell? ⟨gb348, 0, none⟩ = some (.int .i64 x349000_1) := (blk_cell BK348.out 0).trans rfl
              have hcz35_1 : wr.cell? ⟨gb348, 1, none⟩ = some (.int .u64 x349001_1) := (blk_cell BK348.out 1).trans rfl
              have hfz35_0 := blk_frozen BK348.out 0
              have hfz35_1 := blk_frozen BK348.out 1
              go_wp2_with (first | ((with_reducible refine gate_callee (f := 33) rfl ?_); refine goesL_ (some 37) rfl rfl Try.func33 (by kernel_rfl) rfl #[.agg #[.int .i64 0, .int .u64 0], .agg #[.int .i64 x349000_1, .int .u64 x349001_1]] rfl (by (try simp only [List.map_toArray, List.map_cons, List.map_nil]); first | done | rfl | (simp only [List.length_drop, List.length_take]; rfl)) ?_; (with_reducible refine (wide_sub.calls 0 0 x349000_1 x349001_1 t352 t353 _ A24.out).mono ?_); rintro e w36 ⟨rfl, hb⟩; refine ⟨_, rfl, ?_⟩; have n0_ := Aside0.mk (blk_below (g := gb347) (o := .cells #[.int .i64 x348000_1, .int .u64 x348001_1] 24 (0, 0)) (by (with_reducible repeat (first | refine blk_drewN ?_ _ | refine blk_drew ?_ | refine blk_alloc ?_ _)); exact BK347.out) hb); have n1_ := Aside0.mk (blk_below (g := gb348) (o := .cells #[.int .i64 x349000_1, .int .u64 x349001_1] 24 (0, 0)) (by (with_reducible repeat (first | refine blk_drewN ?_ _ | refine blk_drew ?_ | refine blk_alloc ?_ _)); exact BK348.out) hb); have n2_ := Aside0.mk (below_step (by repeat (first | (with_reducible first | exact HB.out | apply below_alloc | apply pw_below_drewN | apply below_drew1 | refine below_set ?_ GE347.out | refine below_set ?_ GE348.out) | exact HB.out)) hb); clear BK347; clear BK348; clear HB; have BK347 := n0_; have BK348 := n1_; have HB := n2_; clear n0_ n1_ n2_; (try clear hb); (try clear hb2); (try clear hk); (try clear hi); have hcz37_0 : w36.cell? ⟨gb348, 0, none⟩ = some (.int .i64 x349000_1) := (blk_cell BK348.out 0).trans rfl; have hcz37_1 : w36.cell? ⟨gb348, 1, none⟩ = some (.int .u64 x349001_1) := (blk_cell BK348.out 1).trans rfl; have hfz37_0 := blk_frozen BK348.out 0; have hfz37_1 := blk_frozen BK348.out 1) | ((with_reducible refine gate_callee (f := 36) rfl ?_); refine goesL_ (some 39) rfl rfl Try.func36 (by kernel_rfl) rfl #[.agg #[.int .i64 t352, .int .u64 t353]] rfl (by (try simp only [List.map_toArray, List.map_cons, List.map_nil]); first | done | rfl | (simp only [List.length_drop, List.length_take]; rfl)) ?_; (with_reducible refine (wide_show.calls t352 t353 t354 _ A25.out).mono ?_); rintro e w38 ⟨rfl, hb⟩; refine ⟨_, rfl, ?_⟩; have n0_ := Aside0.mk (blk_below (g := gb347) (o := .cells #[.int .i64 x348000_1, .int .u64 x348001_1] 24 (0, 0)) (by (with_reducible repeat (first | refine blk_drewN ?_ _ | refine blk_drew ?_ | refine blk_alloc ?_ _)); refine blk_far ?_ NB347_348.out _; (with_reducible repeat (first | refine blk_drewN ?_ _ | refine blk_drew ?_ | refine blk_alloc ?_ _)); refine blk_far ?_ NB347_348.out _; (with_reducible repeat (first | refine blk_drewN ?_ _ | refine blk_drew ?_ | refine blk_alloc ?_ _)); exact BK347.out) hb); have n1_ := Aside0.mk (blk_below (g := gb348) (o := .cells #[.int .i64 t352, .int .u64 t353] 24 (0, 0)) (by (with_reducible repeat (first | refine blk_drewN ?_ _ | refine blk_drew ?_ | refine blk_alloc ?_ _)); refine blk_put (cs := #[.int .i64 t352, .int .u64 x349001_1]) ?_ 1 _ rfl; (with_reducible repeat (first | refine blk_drewN ?_ _ | refine blk_drew ?_ | refine blk_alloc ?_ _)); refine blk_put (cs := #[.int .i64 x349000_1, .int .u64 x349001_1]) ?_ 0 _ rfl; (with_reducible repeat (first | refine blk_drewN ?_ _ | refine blk_drew ?_ | refine blk_alloc ?_ _)); exact BK348.out) hb); have n2_ := Aside0.mk (below_step (by repeat (first | (with_reducible first | exact HB.out | apply below_alloc | apply pw_below_drewN | apply below_drew1 | refine below_set ?_ GE347.out | refine below_set ?_ GE348.out) | exact HB.out)) hb); clear BK347; clear BK348; clear HB; have BK347 := n0_; have BK348 := n1_; have HB := n2_; clear n0_ n1_ n2_; (try clear hb); (try clear hb2); (try clear hk); (try clear hi); have hcz39_0 : w38.cell? ⟨gb347, 0, none⟩ = some (.int .i64 x348000_1) := (blk_cell BK347.out 0).trans rfl; have hcz39_1 : w38.cell? ⟨gb347, 1, none⟩ = some (.int .u64 x348001_1) := (blk_cell BK347.out 1).trans rfl; have hfz39_0 := blk_frozen BK347.out 0; have hfz39_1 := blk_frozen BK347.out 1))
              refine bodyPost_ret (results_ct rfl _ _ gb347 24 #[.int .i64 0, .int .u64 0] (0, 0) _ rfl (by (with_reducible repeat (first | refine blk_drewN ?_ _ | refine blk_drew ?_ | refine blk_alloc ?_ _)); refine blk_put (cs := #[.int .i64 0, .int .u64 x348001_1]) ?_ 1 _ rfl; (with_reducible repeat (first | refine blk_drewN ?_ _ | refine blk_drew ?_ | refine blk_alloc ?_ _)); refine blk_put (cs := #[.int .i64 x348000_1, .int .u64 x348001_1]) ?_ 0 _ rfl; (with_reducible repeat (first | refine blk_drewN ?_ _ | refine blk_drew ?_ | refine blk_alloc ?_ _)); exact BK347.out) Try.underlying24 rfl (by kernel_rfl)) rfl ?_
              exact ⟨by first | rfl | (simp [errW_none, errW_some] <;> rfl) | (simp [*, errW_none, errW_some] <;> rfl), by repeat (first | (with_reducible first | exact HB.out | apply below_alloc | apply pw_below_drewN | apply below_drew1 | refine below_set ?_ GE347.out | refine below_set ?_ GE348.out) | exact HB.out)⟩
          · rw [if_neg c23] at H
            have c23b0 : decide ((t349.size : Int) < (a0.size : Int)) = false := decide_eq_false c23
            have c23b1 : decide (t349.size < a0.size) = false := decide_eq_false (fun h => c23 (Int.ofNat_lt.mpr h))
            clear c23
            replace H := Option.bind_eq_some_iff.mp H
            obtain ⟨t355, A400, H⟩ := H
            replace H : (if t355.toList = a0.toList then (some (x349000_1, x349001_1, 0)) else (some (0, 0, 4))) = some (r1, r2, r3) := H
            have A40 := Aside0.mk A400
            clear A400
            by_cases c41 : t355.toList = a0.toList
            · rw [if_pos c41] at H
              have c41b0 : (t355.toList == a0.toList) = true := beq_iff_eq.mpr c41
              have c41b1 : (t355.toList != a0.toList) = false := bne_eq_false_iff_eq.mpr c41
              clear c41
              simp only [Option.some.injEq, Prod.mk.injEq] at H
              obtain ⟨rfl, rfl, rfl⟩ := H
              have hnb42 := NB348_347.out
              have hnc42 := NB347_348.out
              have hcz43_0 : wr.cell? ⟨gb348, 0, none⟩ = some (.int .i64 x349000_1) := (blk_cell BK348.out 0).trans rfl
              have hcz43_1 : wr.cell? ⟨gb348, 1, none⟩ = some (.int .u64 x349001_1) := (blk_cell BK348.out 1).trans rfl
              have hfz43_0 := blk_frozen BK348.out 0
              have hfz43_1 := blk_frozen BK348.out 1
              go_wp2_with (first | ((with_reducible refine gate_callee (f := 36) rfl ?_); refine goesL_ (some 39) rfl rfl Try.func36 (by kernel_rfl) rfl #[.agg #[.int .i64 x349000_1, .int .u64 x349001_1]] rfl (by (try simp only [List.map_toArray, List.map_cons, List.map_nil]); first | done | rfl | (simp only [List.length_drop, List.length_take]; rfl)) ?_; (with_reducible refine (wide_show.calls x349000_1 x349001_1 t355 _ A40.out).mono ?_); rintro e w44 ⟨rfl, hb⟩; refine ⟨_, rfl, ?_⟩; have n0_ := Aside0.mk (blk_below (g := gb347) (o := .cells #[.int .i64 x348000_1, .int .u64 x348001_1] 24 (0, 0)) (by (with_reducible repeat (first | refine blk_drewN ?_ _ | refine blk_drew ?_ | refine blk_alloc ?_ _)); exact BK347.out) hb); have n1_ := Aside0.mk (blk_below (g := gb348) (o := .cells #[.int .i64 x349000_1, .int .u64 x349001_1] 24 (0, 0)) (by (with_reducible repeat (first | refine blk_drewN ?_ _ | refine blk_drew ?_ | refine blk_alloc ?_ _)); exact BK348.out) hb); have n2_ := Aside0.mk (below_step (by repeat (first | (with_reducible first | exact HB.out | apply below_alloc | apply pw_below_drewN | apply below_drew1 | refine below_set ?_ GE347.out | refine below_set ?_ GE348.out) | exact HB.out)) hb); clear BK347; clear BK348; clear HB; have BK347 := n0_; have BK348 := n1_; have HB := n2_; clear n0_ n1_ n2_; (try clear hb); (try clear hb2); (try clear hk); (try clear hi); have hcz45_0 : w44.cell? ⟨gb348, 0, none⟩ = some (.int .i64 x349000_1) := (blk_cell BK348.out 0).trans rfl; have hcz45_1 : w44.cell? ⟨gb348, 1, none⟩ = some (.int .u64 x349001_1) := (blk_cell BK348.out 1).trans rfl; have hfz45_0 := blk_frozen BK348.out 0; have hfz45_1 := blk_frozen BK348.out 1; have hcz46_0 : w44.cell? ⟨gb347, 0, none⟩ = some (.int .i64 x348000_1) := (blk_cell BK347.out 0).trans rfl; have hcz46_1 : w44.cell? ⟨gb347, 1, none⟩ = some (.int .u64 x348001_1) := (blk_cell BK347.out 1).trans rfl; have hfz46_0 := blk_frozen BK347.out 0; have hfz46_1 := blk_frozen BK347.out 1))
              refine bodyPost_ret (results_ct rfl _ _ gb347 24 #[.int .i64 x349000_1, .int .u64 x349001_1] (0, 0) _ rfl (by (with_reducible repeat (first | refine blk_drewN ?_ _ | refine blk_drew ?_ | refine blk_alloc ?_ _)); refine blk_put (cs := #[.int .i64 x349000_1, .int .u64 x348001_1]) ?_ 1 _ rfl; (with_reducible repeat (first | refine blk_drewN ?_ _ | refine blk_drew ?_ | refine blk_alloc ?_ _)); refine blk_put (cs := #[.int .i64 x348000_1, .int .u64 x348001_1]) ?_ 0 _ rfl; (with_reducible repeat (first | refine blk_drewN ?_ _ | refine blk_drew ?_ | refine blk_alloc ?_ _)); exact BK347.out) Try.underlying24 rfl (by kernel_rfl)) rfl ?_
              exact ⟨by first | rfl | (simp [errW_none, errW_some] <;> rfl) | (simp [*, errW_none, errW_some] <;> rfl), by repeat (first | (with_reducible first | exact HB.out | apply below_alloc | apply pw_below_drewN | apply below_drew1 | refine below_set ?_ GE347.out | refine below_set ?_ GE348.out) | exact HB.out)⟩
            · rw [if_neg c41] at H
              have c41b0 : (t355.toList == a0.toList) = false := beq_eq_false_iff_ne.mpr c41
              have c41b1 : (t355.toList != a0.toList) = true := bne_iff_ne.mpr c41
              simp only [Option.some.injEq, Prod.mk.injEq] at H
              obtain ⟨rfl, rfl, rfl⟩ := H
              have hnb47 := NB348_347.out
              have hnc47 := NB347_348.out
              have hcz48_0 : wr.cell? ⟨gb348, 0, none⟩ = some (.int .i64 x349000_1) := (blk_cell BK348.out 0).trans rfl
              have hcz48_1 : wr.cell? ⟨gb348, 1, none⟩ = some (.int .u64 x349001_1) := (blk_cell BK348.out 1).trans rfl
              have hfz48_0 := blk_frozen BK348.out 0
              have hfz48_1 := blk_frozen BK348.out 1
              go_wp2_with (first | ((with_reducible refine gate_callee (f := 36) rfl ?_); refine goesL_ (some 39) rfl rfl Try.func36 (by kernel_rfl) rfl #[.agg #[.int .i64 x349000_1, .int .u64 x349001_1]] rfl (by (try simp only [List.map_toArray, List.map_cons, List.map_nil]); first | done | rfl | (simp only [List.length_drop, List.length_take]; rfl)) ?_; (with_reducible refine (wide_show.calls x349000_1 x349001_1 t355 _ A40.out).mono ?_); rintro e w49 ⟨rfl, hb⟩; refine ⟨_, rfl, ?_⟩; have n0_ := Aside0.mk (blk_below (g := gb347) (o := .cells #[.int .i64 x348000_1, .int .u64 x348001_1] 24 (0, 0)) (by (with_reducible repeat (first | refine blk_drewN ?_ _ | refine blk_drew ?_ | refine blk_alloc ?_ _)); exact BK347.out) hb); have n1_ := Aside0.mk (blk_below (g := gb348) (o := .cells #[.int .i64 x349000_1, .int .u64 x349001_1] 24 (0, 0)) (by (with_reducible repeat (first | refine blk_drewN ?_ _ | refine blk_drew ?_ | refine blk_alloc ?_ _)); exact BK348.out) hb); have n2_ := Aside0.mk (below_step (by repeat (first | (with_reducible first | exact HB.out | apply below_alloc | apply pw_below_drewN | apply below_drew1 | refine below_set ?_ GE347.out | refine below_set ?_ GE348.out) | exact HB.out)) hb); clear BK347; clear BK348; clear HB; have BK347 := n0_; have BK348 := n1_; have HB := n2_; clear n0_ n1_ n2_; (try clear hb); (try clear hb2); (try clear hk); (try clear hi); have hcz50_0 : w49.cell? ⟨gb347, 0, none⟩ = some (.int .i64 x348000_1) := (blk_cell BK347.out 0).trans rfl; have hcz50_1 : w49.cell? ⟨gb347, 1, none⟩ = some (.int .u64 x348001_1) := (blk_cell BK347.out 1).trans rfl; have hfz50_0 := blk_frozen BK347.out 0; have hfz50_1 := blk_frozen BK347.out 1))
              refine bodyPost_ret (results_ct rfl _ _ gb347 24 #[.int .i64 0, .int .u64 0] (0, 0) _ rfl (by (with_reducible repeat (first | refine blk_drewN ?_ _ | refine blk_drew ?_ | refine blk_alloc ?_ _)); refine blk_put (cs := #[.int .i64 0, .int .u64 x348001_1]) ?_ 1 _ rfl; (with_reducible repeat (first | refine blk_drewN ?_ _ | refine blk_drew ?_ | refine blk_alloc ?_ _)); refine blk_put (cs := #[.int .i64 x348000_1, .int .u64 x348001_1]) ?_ 0 _ rfl; (with_reducible repeat (first | refine blk_drewN ?_ _ | refine blk_drew ?_ | refine blk_alloc ?_ _)); exact BK347.out) Try.underlying24 rfl (by kernel_rfl)) rfl ?_
              exact ⟨by first | rfl | (simp [errW_none, errW_some] <;> rfl) | (simp [*, errW_none, errW_some] <;> rfl), by repeat (first | (with_reducible first | exact HB.out | apply below_alloc | apply pw_below_drewN | apply below_drew1 | refine below_set ?_ GE347.out | refine below_set ?_ GE348.out) | exact HB.out)⟩

end Go.Proofs.Ytbccokfdkieakaa.F
end

section
/- WideShows, WideParses: the laws answer true for all numbers and texts. -/
namespace Go.Proofs.Ytbccokfdkieakaa.Wd
open Go Go.RowKit Go.Proofs.YtbccokfdkieakaaW.PrintWords Go.Proofs.Ytbccokfdkieakaa.F Go.Proofs.Ytbccokfdkieakaa.D8
set_option linter.unusedVariables false
theorem times10_f {h x d : Int} (ok : WOk h x) (d0 : 0 ≤ d) (d1 : d < 256) : wide_times10.f h x d = some (whi (10 * wv h x + d), wlo (10 * wv h x + d)) := by
  have add := fun (a b c e : Int) (h1 : WOk a b) (h2 : WOk c e) => (show wide_add.f a b c e = some (whi (wv a b + wv c e), wlo (wv a b + wv c e)) by unfold wide_add.f; rw [if_pos ⟨h1, h2⟩])
  have hd : IntKind.u64.wrap d = d := by rw [IntKind.wrap_u64]; omega
  have okd : WOk 0 d := ⟨by omega, by omega⟩
  have vd : wv 0 d = d := by unfold wv; omega
  obtain ⟨t2, e2⟩ := wv_of (wv h x + wv h x)
  obtain ⟨t4, e4⟩ := wv_of (wv (whi (wv h x + wv h x)) (wlo (wv h x + wv h x)) + wv (whi (wv h x + wv h x)) (wlo (wv h x + wv h x)))
  unfold wide_times10.f
  rw [add h x h x ok ok, Option.bind_some, add _ _ _ _ (wok_of _) (wok_of _), Option.bind_some, Option.bind_some, add _ _ _ _ (wok_of _) (wok_of _), Option.bind_some, add _ _ _ _ (wok_of _) (wok_of _), Option.bind_some, hd, add _ _ _ _ (wok_of _) okd, Option.bind_some, vd]
  generalize hA2 : wv (whi (wv h x + wv h x)) (wlo (wv h x + wv h x)) = A2 at e2 e4 ⊢
  generalize hA4 : wv (whi (A2 + A2)) (wlo (A2 + A2)) = A4 at e4 ⊢
  obtain ⟨t8, e8⟩ := wv_of (A4 + A4)
  generalize hA8 : wv (whi (A4 + A4)) (wlo (A4 + A4)) = A8 at e8 ⊢
  obtain ⟨t10, e10⟩ := wv_of (A8 + A2)
  generalize hA10 : wv (whi (A8 + A2)) (wlo (A8 + A2)) = A10 at e10 ⊢
  obtain ⟨c1, c2⟩ := wcong (n := A10 + d) (m := 10 * wv h x + d) (t := t10 + (t8 + 2 * t4 + 4 * t2) + t2) (by omega)
  rw [c1, c2]
/-! ### the sign ahead -/
theorem bt_ext (s : ByteArray) (i : Nat) : bt (s.extract 1 s.size) (i : Int) = bt s ((i + 1 : Nat) : Int) := by
  have e : (s.extract 1 s.size).size = s.size - 1 := by rw [ByteArray.size_extract]; omega
  unfold bt
  by_cases h : i + 1 < s.size
  · rw [dif_pos (show ((i : Nat) : Int).toNat < (s.extract 1 s.size).size by rw [e]; omega), dif_pos (show ((i + 1 : Nat) : Int).toNat < s.size by omega)]
    congr 2
    rw [ByteArray.getElem_extract]
    congr 1
    omega
  · rw [dif_neg (show ¬ ((i : Nat) : Int).toNat < (s.extract 1 s.size).size by rw [e]; omega), dif_neg (show ¬ ((i + 1 : Nat) : Int).toNat < s.size by omega)]
theorem toList_eq {a b : ByteArray} (h : a.toList = b.toList) : a = b := by
  rw [ByteArray.toList_eq, ByteArray.toList_eq] at h
  exact ByteArray.ext (Array.ext' h)
theorem toList_iff {a b : ByteArray} : a.toList = b.toList ↔ a = b := ⟨toList_eq, fun h => by rw [h]⟩
/-- The text begins with '-'. -/
def ng (s : ByteArray) : Bool := decide (0 < s.size ∧ bt s 0 = 45)
def off (s : ByteArray) : Nat := if ng s = true then 1 else 0
theorem head_eq (s : ByteArray) (h : 0 < s.size) : ((s.extract 0 1).toList == (⟨#[45]⟩ : ByteArray).toList) = decide (bt s 0 = 45) := by
  obtain ⟨⟨l⟩⟩ := s
  cases l with
  | nil => exact absurd h (by decide)
  | cons x xs =>
    rw [ByteArray.toList_eq, ByteArray.toList_eq]
    have e1 : bt ⟨⟨x :: xs⟩⟩ 0 = (x.toNat : Int) := by
      unfold bt
      rw [dif_pos (show (0 : Int).toNat < _ from h)]
      rfl
    have e2 : ((⟨⟨x :: xs⟩⟩ : ByteArray).extract 0 1).data.toList = [x] := by
      rw [ByteArray.data_extract]
      simp
    rw [e1, e2]
    show ([x] == [45]) = _
    rw [Bool.eq_iff_iff, beq_iff_eq, decide_eq_true_iff, List.cons.injEq]
    constructor
    · rintro ⟨rfl, _⟩; rfl
    · intro h2
      refine ⟨UInt8.toNat_inj.1 ?_, rfl⟩
      show x.toNat = 45
      omega
theorem trim_f (s : ByteArray) : strings_TrimPrefix.f s (⟨#[45]⟩ : ByteArray) = some (if ng s = true then s.extract 1 s.size else s) := by
  have z : ((⟨#[45]⟩ : ByteArray).size : Int) = 1 := rfl
  have e0 : (1 : Int).toNat = 1 := rfl
  unfold strings_TrimPrefix.f stringslite_TrimPrefix.f stringslite_HasPrefix.f ng
  rw [z, e0]
  by_cases h : 0 < s.size
  · rw [if_pos (by omega), if_pos (by omega), if_pos (by omega), Option.bind_some, head_eq s h]
    by_cases c : bt s 0 = 45
    · rw [decide_eq_true c, if_pos rfl, if_pos (by omega), if_pos (by omega), decide_eq_true ⟨h, c⟩, if_pos rfl]; rfl
    · rw [decide_eq_false c, if_neg (by decide), decide_eq_false (fun h2 => c h2.2), if_neg (by decide)]; rfl
  · rw [if_neg (by omega), Option.bind_some, if_neg (by decide), decide_eq_false (fun h2 => h h2.1), if_neg (by decide)]; rfl
/-- What the digits from the place i come to: d of them are left. -/
def hn (s : ByteArray) : Nat → Nat → Int → Option Int
  | 0, _, n => some n
  | d + 1, i, n => if 48 ≤ bt s (i : Int) ∧ bt s (i : Int) ≤ 57 then hn s d (i + 1) (10 * n + (bt s (i : Int) - 48)) else none
theorem hn_ext (s : ByteArray) : ∀ (d i : Nat) (n : Int), hn (s.extract 1 s.size) d i n = hn s d (i + 1) n := by
  intro d
  induction d with
  | zero => intro i n; rfl
  | succ d ih =>
    intro i n
    rw [hn, hn, bt_ext, ih]
/-- The number told, as a wide. -/
def sg (s : ByteArray) (m : Int) : Int := if ng s = true then -m else m
def wt (n : Int) : ByteArray := txt (wv (whi n) (wlo n))
theorem wsh (n : Int) : wide_show.f (whi n) (wlo n) = some (wt n) := wshow_f (wok_of n)
theorem wfin (s : ByteArray) (t : ByteArray) (ht : t = if ng s = true then s.extract 1 s.size else s) (hs : s.size ≤ 140737488351232) : ∀ (d k i : Nat) (n : Int), t.size - i = d → i ≤ t.size → d < k →
    wide_Parse.l0 k s t (t.size : Int) (i : Int) (whi n) (wlo n) = some (match hn t d i n with
      | none => (0, 0, 4)
      | some m => if (wt (sg s m)).toList = s.toList then (whi (sg s m), wlo (sg s m), 0) else (0, 0, 4)) := by
  have tz : t.size ≤ s.size := by rw [ht]; split; · rw [ByteArray.size_extract]; omega
                                  · omega
  have tn : (t.size < s.size) ↔ ng s = true := by
    rw [ht]
    by_cases c : ng s = true
    · rw [if_pos c, ByteArray.size_extract]
      have : 0 < s.size := by unfold ng at c; exact (of_decide_eq_true c).1
      exact ⟨fun _ => c, fun _ => by omega⟩
    · rw [if_neg c]
      exact ⟨fun h => by omega, fun h => absurd h c⟩
  intro d
  induction d with
  | zero =>
    intro k i n hd hi hk
    obtain ⟨k, rfl⟩ : ∃ m, k = m + 1 := ⟨k - 1, by omega⟩
    rw [wide_Parse.l0, if_neg (by omega), hn]
    by_cases c : ng s = true
    · have c2 := tn.2 c
      have sub : wide_sub.f 0 0 (whi n) (wlo n) = some (whi (-n), wlo (-n)) := by
        unfold wide_sub.f
        rw [if_pos ⟨⟨by omega, by omega⟩, wok_of n⟩]
        obtain ⟨t2, e2⟩ := wv_of n
        have e0 : wv 0 0 = 0 := rfl
        obtain ⟨c1, c2⟩ := wcong (n := wv 0 0 - wv (whi n) (wlo n)) (m := -n) (t := -t2) (by rw [e0]; generalize wv (whi n) (wlo n) = W at e2 ⊢; omega)
        rw [c1, c2]
      have e : sg s n = -n := if_pos c
      rw [if_pos (by omega), sub, Option.bind_some]
      show (wide_show.f (whi (-n)) (wlo (-n))).bind _ = _
      rw [wsh, Option.bind_some]
      show _ = some (if (wt (sg s n)).toList = _ then _ else _)
      rw [e]
      by_cases hh : (wt (-n)).toList = s.toList
      · rw [if_pos hh, if_pos hh]
      · rw [if_neg hh, if_neg hh]
    · have c2 : ¬ t.size < s.size := fun h => c (tn.1 h)
      have e : sg s n = n := if_neg c
      rw [if_neg (by omega), wsh, Option.bind_some]
      show _ = some (if (wt (sg s n)).toList = _ then _ else _)
      rw [e]
      by_cases hh : (wt n).toList = s.toList
      · rw [if_pos hh, if_pos hh]
      · rw [if_neg hh, if_neg hh]
  | succ d ih =>
    intro k i n hd hi hk
    obtain ⟨k, rfl⟩ : ∃ m, k = m + 1 := ⟨k - 1, by omega⟩
    obtain ⟨b0, b1⟩ := bt_range t (i : Int)
    rw [wide_Parse.l0, if_pos (by omega), if_pos (by omega), if_pos (by omega), hn]
    by_cases c : 48 ≤ bt t (i : Int) ∧ bt t (i : Int) ≤ 57
    · obtain ⟨t2, e2⟩ := wv_of n
      have e3 := Aside0.mk (show wrap64 ((i : Int) + 1) = ((i + 1 : Nat) : Int) by rw [D8.w64 (by omega) (by omega)]; omega)
      have e4 : (bt t (i : Int) - 48) % 256 = bt t (i : Int) - 48 := by omega
      rw [e4, if_neg (by omega), if_pos c, times10_f (wok_of n) (by omega) (by omega), Option.bind_some]
      obtain ⟨c1, c2⟩ := wcong (n := 10 * wv (whi n) (wlo n) + (bt t (i : Int) - 48)) (m := 10 * n + (bt t (i : Int) - 48)) (t := 10 * t2) (by generalize wv (whi n) (wlo n) = W at e2 ⊢; omega)
      show wide_Parse.l0 k s t (t.size : Int) (wrap64 ((i : Int) + 1)) (whi _) (wlo _) = _
      rw [c1, c2, e3.out]
      exact ih k (i + 1) _ (by omega) (by omega) (by omega)
    · rw [if_pos (by omega), if_neg c]
theorem parse_f (s : ByteArray) (hs : s.size ≤ 140737488351232) (k : Nat) (t : ByteArray) (ht : t = if ng s = true then s.extract 1 s.size else s) (hk : 100 ≤ k) :
    wide_Parse.f k s = some (if 40 ≤ t.size then ((0 : Int), (0 : Int), (4 : Int)) else match hn t t.size 0 0 with
      | none => (0, 0, 4)
      | some m => if (wt (sg s m)).toList = s.toList then (whi (sg s m), wlo (sg s m), 0) else (0, 0, 4)) := by
  unfold wide_Parse.f
  rw [trim_f, Option.bind_some, ← ht]
  by_cases c : 40 ≤ t.size
  · rw [if_pos (by omega), if_pos c]
  · rw [if_neg (by omega), if_neg c]
    have h := wfin s t ht hs t.size k 0 0 (by omega) (by omega) (by omega)
    rw [show whi 0 = 0 by unfold whi wrap64; omega, show wlo 0 = 0 by unfold wlo; omega] at h
    exact h
/-! ### the text of a number is read again -/
theorem bt_nums (l : List Int) (i : Nat) (h : ∀ x, x ∈ l → 0 ≤ x ∧ x < 256) (hi : i < l.length) : bt (strOfNums l) (i : Int) = l.getD i 0 := by
  unfold bt
  rw [dif_pos (show ((i : Nat) : Int).toNat < (strOfNums l).size by rw [strOfNums_size]; omega)]
  have e : (strOfNums l)[((i : Nat) : Int).toNat]'(by rw [strOfNums_size]; omega) = UInt8.ofNat (l[i]).toNat := by
    simp [strOfNums, ByteArray.getElem_eq_getElem_data]
  obtain ⟨h0, h1⟩ := h (l[i]) (List.getElem_mem hi)
  rw [e, UInt8.toNat_ofNat', List.getD_eq_getElem?_getD, List.getElem?_eq_getElem hi]
  show ((l[i].toNat % 256 : Nat) : Int) = l[i]
  omega
theorem chars_get (N : Nat) : ∀ (L j : Nat), j < L → (chars N L).getD (L - 1 - j) 0 = ((48 + N / 10 ^ j % 10 : Nat) : Int) := by
  intro L
  induction L with
  | zero => intro j h; omega
  | succ L ih =>
    intro j h
    rw [chars]
    by_cases c : j = L
    · rw [c, show L + 1 - 1 - L = 0 by omega]; rfl
    · rw [show L + 1 - 1 - j = (L - 1 - j) + 1 by omega, List.getD_cons_succ]
      exact ih j (by omega)
theorem chars_bd (N : Nat) : ∀ (L : Nat) (x : Int), x ∈ chars N L → 0 ≤ x ∧ x < 256 := by
  intro L
  induction L with
  | zero => intro x h; cases h
  | succ L ih =>
    intro x h
    rw [chars] at h
    rcases List.mem_cons.1 h with rfl | h
    · generalize N / 10 ^ L = M; omega
    · exact ih x h
theorem hn_chars (N L : Nat) (pre : List Int) (hp : ∀ x, x ∈ pre → 0 ≤ x ∧ x < 256) : ∀ (d : Nat), d ≤ L → hn (strOfNums (pre ++ chars N L)) d (pre.length + (L - d)) ((N / 10 ^ d : Nat) : Int) = some (N : Int) := by
  intro d
  induction d with
  | zero => intro _; rw [hn, Nat.pow_zero, Nat.div_one]
  | succ d ih =>
    intro hd
    have b : bt (strOfNums (pre ++ chars N L)) ((pre.length + (L - (d + 1)) : Nat) : Int) = ((48 + N / 10 ^ d % 10 : Nat) : Int) := by
      rw [bt_nums _ _ (fun x hx => (List.mem_append.1 hx).elim (hp x) (chars_bd N L x)) (by rw [List.length_append, chars_len]; omega), List.getD_eq_getElem?_getD, List.getElem?_append_right (by omega), ← List.getD_eq_getElem?_getD,
        show pre.length + (L - (d + 1)) - pre.length = L - 1 - d by omega]
      exact chars_get N L d (by omega)
    have e : ((10 * ((N / 10 ^ (d + 1) : Nat) : Int) + (((48 + N / 10 ^ d % 10 : Nat) : Int) - 48)) : Int) = ((N / 10 ^ d : Nat) : Int) := by
      rw [← div_pow_succ]
      generalize N / 10 ^ d = M
      omega
    have bd : 48 ≤ ((48 + N / 10 ^ d % 10 : Nat) : Int) ∧ ((48 + N / 10 ^ d % 10 : Nat) : Int) ≤ 57 := by generalize N / 10 ^ d = M; omega
    rw [hn, b, if_pos bd, e, show pre.length + (L - (d + 1)) + 1 = pre.length + (L - d) by omega]
    exact ih (by omega)
theorem nines {n : Int} (h : -170141183460469231731687303715884105728 ≤ n ∧ n < 170141183460469231731687303715884105728) : dlen n.natAbs ≤ 39 :=
  dlen_le (by have e : (10 : Nat) ^ 39 = 1000000000000000000000000000000000000000 := rfl; omega)
theorem txt_size {n : Int} (h : -170141183460469231731687303715884105728 ≤ n ∧ n < 170141183460469231731687303715884105728) : (txt n).size ≤ 40 ∧ (¬ n < 0 → (txt n).size ≤ 39) ∧ (n < 0 → ng (txt n) = true) := by
  have d := nines h
  unfold txt
  rw [strOfNums_size]
  by_cases c : n < 0
  · rw [if_pos c, List.length_cons, chars_len]
    refine ⟨by omega, fun h => absurd c h, fun _ => ?_⟩
    unfold ng
    refine decide_eq_true ⟨by rw [strOfNums_size, List.length_cons]; omega, ?_⟩
    exact bt_nums _ 0 (fun x hx => (List.mem_cons.1 hx).elim (fun e => by omega) (chars_bd _ _ x)) (by rw [List.length_cons]; omega)
  · rw [if_neg c, chars_len]
    exact ⟨by omega, fun _ => by omega, fun h => absurd h c⟩
theorem txt_back {n : Int} (h : -170141183460469231731687303715884105728 ≤ n ∧ n < 170141183460469231731687303715884105728) (k : Nat) (hk : 100 ≤ k) : wide_Parse.f k (txt n) = some (whi n, wlo n, 0) := by
  have sz := txt_size h
  have d := nines h
  obtain ⟨d1, d2, d3⟩ := dlen_ok n.natAbs
  have hw : wt n = txt n := by unfold wt; rw [wv_small h]
  rw [parse_f (txt n) (by omega) k _ rfl hk]
  by_cases c : n < 0
  · have g := sz.2.2 c
    rw [if_pos g]
    have es : (txt n).size = 1 + dlen n.natAbs := by unfold txt; rw [if_pos c, strOfNums_size, List.length_cons, chars_len]; omega
    have ez : ((txt n).extract 1 (txt n).size).size = dlen n.natAbs := by rw [ByteArray.size_extract]; omega
    rw [ez, if_neg (by omega), hn_ext]
    have H := hn_chars n.natAbs (dlen n.natAbs) [45] (fun x hx => by rw [List.mem_singleton] at hx; omega) (dlen n.natAbs) (Nat.le_refl _)
    rw [d2, Nat.sub_self] at H
    have e : txt n = strOfNums ([45] ++ chars n.natAbs (dlen n.natAbs)) := by unfold txt; rw [if_pos c]; rfl
    rw [← e] at H
    rw [show hn (txt n) (dlen n.natAbs) (0 + 1) 0 = some (n.natAbs : Int) from H]
    have e2 : sg (txt n) (n.natAbs : Int) = n := by unfold sg; rw [if_pos g]; omega
    show some (if (wt (sg (txt n) (n.natAbs : Int))).toList = (txt n).toList then _ else _) = _
    rw [e2, hw, if_pos rfl]
  · have e : txt n = strOfNums ([] ++ chars n.natAbs (dlen n.natAbs)) := by unfold txt; rw [if_neg c]; rfl
    have es : (txt n).size = dlen n.natAbs := by unfold txt; rw [if_neg c, strOfNums_size, chars_len]
    have g : ¬ ng (txt n) = true := by
      unfold ng
      rw [decide_eq_true_iff, e, List.nil_append]
      rintro ⟨_, h2⟩
      have h3 : bt (strOfNums (chars n.natAbs (dlen n.natAbs))) ((0 : Nat) : Int) = (chars n.natAbs (dlen n.natAbs)).getD 0 0 := bt_nums _ 0 (fun x hx => chars_bd _ _ x hx) (by rw [chars_len]; omega)
      have h4 := chars_get n.natAbs (dlen n.natAbs) (dlen n.natAbs - 1) (by omega)
      rw [show dlen n.natAbs - 1 - (dlen n.natAbs - 1) = 0 by omega] at h4
      rw [h4] at h3
      rw [show ((0 : Nat) : Int) = 0 from rfl, h2] at h3
      omega
    rw [if_neg g, es, if_neg (by omega)]
    have H := hn_chars n.natAbs (dlen n.natAbs) [] (fun x hx => by cases hx) (dlen n.natAbs) (Nat.le_refl _)
    rw [d2, Nat.sub_self, ← e] at H
    rw [show hn (txt n) (dlen n.natAbs) 0 0 = some (n.natAbs : Int) from H]
    have e2 : sg (txt n) (n.natAbs : Int) = n := by unfold sg; rw [if_neg g]; omega
    show some (if (wt (sg (txt n) (n.natAbs : Int))).toList = (txt n).toList then _ else _) = _
    rw [e2, hw, if_pos rfl]
end Go.Proofs.Ytbccokfdkieakaa.Wd
end

section
namespace Go.Proofs.Ytbccokfdkieakaa.F
open Go.RowKit Go.Proofs.YtbccokfdkieakaaW.PrintWords Go.Proofs.YtbccokfdkieakaaW.PrintLast Go.Proofs.YtbccokfdkieakaaW.PrintMore
attribute [local go_sem] max2_int min2_int max_two min_two max_three min_three max_four min_four   -- for this text's walks alone
set_option linter.unusedVariables false
set_option linter.unusedSimpArgs false

/-! ### zelligeref01_Parse: function 30 -/
mutual
def zelligeref01_Parse.j0 : Nat → ByteArray → Int → List Int → List Int → Int → Bool → Option (List Int × Bool)
  | 0, _, _, _, _, _, _ => none
  | k + 1, x0, x1, x6, x7, x8, x24 => if x24 = true then (zelligeref01_Parse.j1 k x0 x1 x6 x7 1) else (zelligeref01_Parse.j1 k x0 x1 x6 x7 x8)
def zelligeref01_Parse.j1 : Nat → ByteArray → Int → List Int → List Int → Int → Option (List Int × Bool)
  | 0, _, _, _, _, _ => none
  | k + 1, x0, x1, x6, x7, x8 => if (x0.size : Int) > (wrap64 (3 * x1)) then (some (x6, false)) else (zelligeref01_Parse.l0 k x0 x1 x6 x7 x8 x8)
def zelligeref01_Parse.l0 : Nat → ByteArray → Int → List Int → List Int → Int → Int → Option (List Int × Bool)
  | 0, _, _, _, _, _, _ => none
  | k + 1, x0, x1, x6, x7, x8, x9 => if x9 < (x0.size : Int) then (if 0 ≤ x9 then (if (bt x0 x9) < 48 then (zelligeref01_Parse.j3 k x0 x1 x6 x7 x8 x9 true) else (zelligeref01_Parse.j3 k x0 x1 x6 x7 x8 x9 (decide ((bt x0 x9) > 57)))) else (none)) else (if x8 = 1 then ((zelligeref01_Neg.f k x6).bind fun t397 => ((zelligeref01_Show.f k t397).bind fun t400 => (some (t397, (t400.toList == x0.toList))))) else ((zelligeref01_Show.f k x6).bind fun t401 => (some (x6, (t401.toList == x0.toList)))))
def zelligeref01_Parse.j3 : Nat → ByteArray → Int → List Int → List Int → Int → Int → Bool → Option (List Int × Bool)
  | 0, _, _, _, _, _, _, _ => none
  | k + 1, x0, x1, x6, x7, x8, x9, x47 => if x47 = true then (some (x6, false)) else (if 0 ≤ x1 then (if (x1 : Int).toNat ≤ 35184372088832 then ((some (List.replicate (x1 : Int).toNat 0 : List Int)).bind fun y387 => (if 0 ≤ x9 then (if x9 < (x0.size : Int) then (if 0 < (y387.length : Int) then ((zelligeref01_Mul.f k x6 x7).bind fun t391 => ((zelligeref01_Add.f k t391 (y387.set (0 : Int).toNat (((bt x0 x9) - 48) % 256))).bind fun t394 => (zelligeref01_Parse.l0 k x0 x1 t394 x7 x8 (wrap64 (x9 + 1))))) else (none)) else (none)) else (none))) else (none)) else (none))
end
def zelligeref01_Parse.f (k : Nat) (a0 : ByteArray) (a1 : Int) : Option (List Int × Bool) := if 0 ≤ a1 then (if (a1 : Int).toNat ≤ 35184372088832 then ((some (List.replicate (a1 : Int).toNat 0 : List Int)).bind fun y380 => ((some (List.replicate (a1 : Int).toNat 0 : List Int)).bind fun y383 => (if 0 < (y383.length : Int) then ((some (y383.set (0 : Int).toNat 10 : List Int)).bind fun y386 => (if (a0.size : Int) > 0 then (if 0 < (a0.size : Int) then (zelligeref01_Parse.j0 k a0 a1 y380 y386 0 ((bt a0 0) == 45)) else (none)) else (zelligeref01_Parse.j0 k a0 a1 y380 y386 0 false))) else (none)))) else (none)) else (none)
theorem zelligeref01_Parse.mono_l : ∀ k, (∀ y0 y1 y2 y3 y4 y5, LeO (zelligeref01_Parse.j0 k y0 y1 y2 y3 y4 y5) (zelligeref01_Parse.j0 (k + 1) y0 y1 y2 y3 y4 y5)) ∧ (∀ y0 y1 y2 y3 y4, LeO (zelligeref01_Parse.j1 k y0 y1 y2 y3 y4) (zelligeref01_Parse.j1 (k + 1) y0 y1 y2 y3 y4)) ∧ (∀ y0 y1 y2 y3 y4 y5, LeO (zelligeref01_Parse.l0 k y0 y1 y2 y3 y4 y5) (zelligeref01_Parse.l0 (k + 1) y0 y1 y2 y3 y4 y5)) ∧ (∀ y0 y1 y2 y3 y4 y5 y6, LeO (zelligeref01_Parse.j3 k y0 y1 y2 y3 y4 y5 y6) (zelligeref01_Parse.j3 (k + 1) y0 y1 y2 y3 y4 y5 y6))
  | 0 => ⟨fun _ _ _ _ _ _ r h => by simp [zelligeref01_Parse.j0] at h, fun _ _ _ _ _ r h => by simp [zelligeref01_Parse.j1] at h, fun _ _ _ _ _ _ r h => by simp [zelligeref01_Parse.l0] at h, fun _ _ _ _ _ _ _ r h => by simp [zelligeref01_Parse.j3] at h⟩
  | k + 1 => by
    obtain ⟨ih0, ih1, ih2, ih3⟩ := zelligeref01_Parse.mono_l k
    refine ⟨?_, ?_, ?_, ?_⟩
    · intro y0 y1 y2 y3 y4 y5
      unfold zelligeref01_Parse.j0
      repeat' first
      | (with_reducible exact ih0 _ _ _ _ _ _)
      | (with_reducible exact ih1 _ _ _ _ _)
      | (with_reducible exact ih2 _ _ _ _ _ _)
      | (with_reducible exact ih3 _ _ _ _ _ _ _)
      | (with_reducible exact zelligeref01_Add.mono _ _ _)
      | (with_reducible exact zelligeref01_Mul.mono _ _ _)
      | (with_reducible exact zelligeref01_Neg.mono _ _)
      | (with_reducible exact zelligeref01_Show.mono _ _)
      | (with_reducible exact LeO.refl _)
      | (with_reducible exact LeO.none _)
      | (with_reducible refine LeO.ite ?_ ?_)
      | (with_reducible refine LeO.bind ?_ (fun _ => ?_))
      | exact ih0 _ _ _ _ _ _
      | exact ih1 _ _ _ _ _
      | exact ih2 _ _ _ _ _ _
      | exact ih3 _ _ _ _ _ _ _
      | exact zelligeref01_Add.mono _ _ _
      | exact zelligeref01_Mul.mono _ _ _
      | exact zelligeref01_Neg.mono _ _
      | exact zelligeref01_Show.mono _ _
      | exact LeO.none _
      | refine LeO.ite ?_ ?_
      | refine LeO.bind ?_ (fun _ => ?_)
    · intro y0 y1 y2 y3 y4
      unfold zelligeref01_Parse.j1
      repeat' first
      | (with_reducible exact ih0 _ _ _ _ _ _)
      | (with_reducible exact ih1 _ _ _ _ _)
      | (with_reducible exact ih2 _ _ _ _ _ _)
      | (with_reducible exact ih3 _ _ _ _ _ _ _)
      | (with_reducible exact zelligeref01_Add.mono _ _ _)
      | (with_reducible exact zelligeref01_Mul.mono _ _ _)
      | (with_reducible exact zelligeref01_Neg.mono _ _)
      | (with_reducible exact zelligeref01_Show.mono _ _)
      | (with_reducible exact LeO.refl _)
      | (with_reducible exact LeO.none _)
      | (with_reducible refine LeO.ite ?_ ?_)
      | (with_reducible refine LeO.bind ?_ (fun _ => ?_))
      | exact ih0 _ _ _ _ _ _
      | exact ih1 _ _ _ _ _
      | exact ih2 _ _ _ _ _ _
      | exact ih3 _ _ _ _ _ _ _
      | exact zelligeref01_Add.mono _ _ _
      | exact zelligeref01_Mul.mono _ _ _
      | exact zelligeref01_Neg.mono _ _
      | exact zelligeref01_Show.mono _ _
      | exact LeO.none _
      | refine LeO.ite ?_ ?_
      | refine LeO.bind ?_ (fun _ => ?_)
    · intro y0 y1 y2 y3 y4 y5
      unfold zelligeref01_Parse.l0
      repeat' first
      | (with_reducible exact ih0 _ _ _ _ _ _)
      | (with_reducible exact ih1 _ _ _ _ _)
      | (with_reducible exact ih2 _ _ _ _ _ _)
      | (with_reducible exact ih3 _ _ _ _ _ _ _)
      | (with_reducible exact zelligeref01_Add.mono _ _ _)
      | (with_reducible exact zelligeref01_Mul.mono _ _ _)
      | (with_reducible exact zelligeref01_Neg.mono _ _)
      | (with_reducible exact zelligeref01_Show.mono _ _)
      | (with_reducible exact LeO.refl _)
      | (with_reducible exact LeO.none _)
      | (with_reducible refine LeO.ite ?_ ?_)
      | (with_reducible refine LeO.bind ?_ (fun _ => ?_))
      | exact ih0 _ _ _ _ _ _
      | exact ih1 _ _ _ _ _
      | exact ih2 _ _ _ _ _ _
      | exact ih3 _ _ _ _ _ _ _
      | exact zelligeref01_Add.mono _ _ _
      | exact zelligeref01_Mul.mono _ _ _
      | exact zelligeref01_Neg.mono _ _
      | exact zelligeref01_Show.mono _ _
      | exact LeO.none _
      | refine LeO.ite ?_ ?_
      | refine LeO.bind ?_ (fun _ => ?_)
    · intro y0 y1 y2 y3 y4 y5 y6
      unfold zelligeref01_Parse.j3
      repeat' first
      | (with_reducible exact ih0 _ _ _ _ _ _)
      | (with_reducible exact ih1 _ _ _ _ _)
      | (with_reducible exact ih2 _ _ _ _ _ _)
      | (with_reducible exact ih3 _ _ _ _ _ _ _)
      | (with_reducible exact zelligeref01_Add.mono _ _ _)
      | (with_reducible exact zelligeref01_Mul.mono _ _ _)
      | (with_reducible exact zelligeref01_Neg.mono _ _)
      | (with_reducible exact zelligeref01_Show.mono _ _)
      | (with_reducible exact LeO.refl _)
      | (with_reducible exact LeO.none _)
      | (with_reducible refine LeO.ite ?_ ?_)
      | (with_reducible refine LeO.bind ?_ (fun _ => ?_))
      | exact ih0 _ _ _ _ _ _
      | exact ih1 _ _ _ _ _
      | exact ih2 _ _ _ _ _ _
      | exact ih3 _ _ _ _ _ _ _
      | exact zelligeref01_Add.mono _ _ _
      | exact zelligeref01_Mul.mono _ _ _
      | exact zelligeref01_Neg.mono _ _
      | exact zelligeref01_Show.mono _ _
      | exact LeO.none _
      | refine LeO.ite ?_ ?_
      | refine LeO.bind ?_ (fun _ => ?_)
theorem zelligeref01_Parse.mono : ∀ a0 a1 k, LeO (zelligeref01_Parse.f k a0 a1) (zelligeref01_Parse.f (k + 1) a0 a1) := by
  intro a0 a1 k
  obtain ⟨ih0, ih1, ih2, ih3⟩ := zelligeref01_Parse.mono_l k
  unfold zelligeref01_Parse.f
  repeat' first
      | (with_reducible exact ih0 _ _ _ _ _ _)
      | (with_reducible exact ih1 _ _ _ _ _)
      | (with_reducible exact ih2 _ _ _ _ _ _)
      | (with_reducible exact ih3 _ _ _ _ _ _ _)
      | (with_reducible exact zelligeref01_Add.mono _ _ _)
      | (with_reducible exact zelligeref01_Mul.mono _ _ _)
      | (with_reducible exact zelligeref01_Neg.mono _ _)
      | (with_reducible exact zelligeref01_Show.mono _ _)
      | (with_reducible exact LeO.refl _)
      | (with_reducible exact LeO.none _)
      | (with_reducible refine LeO.ite ?_ ?_)
      | (with_reducible refine LeO.bind ?_ (fun _ => ?_))
      | exact ih0 _ _ _ _ _ _
      | exact ih1 _ _ _ _ _
      | exact ih2 _ _ _ _ _ _
      | exact ih3 _ _ _ _ _ _ _
      | exact zelligeref01_Add.mono _ _ _
      | exact zelligeref01_Mul.mono _ _ _
      | exact zelligeref01_Neg.mono _ _
      | exact zelligeref01_Show.mono _ _
      | exact LeO.none _
      | refine LeO.ite ?_ ?_
      | refine LeO.bind ?_ (fun _ => ?_)
set_option maxHeartbeats 8000000 in
set_option maxRecDepth 100000 in
theorem zelligeref01_Parse.calls (k : Nat) (a0 : ByteArray) (a1 : Int) (r1 : List Int) (r2 : Bool) (w : World) (h : zelligeref01_Parse.f k a0 a1 = some (r1, r2)) :
    Calls Try.prog 30 #[.string a0, .int .i64 a1] w fun e w' => ∃ v0_ : Value, e = .returned (.tuple #[v0_, .bool r2]) ∧ Kd.R (Kd.int .i64) 3 w' w.heap.size (fun _ => True) v0_ r1 ∧ Below w.heap.size w w' := by
  have HB := Aside0.mk (Below.refl w.heap.size w)
  have H : (if 0 ≤ a1 then (if (a1 : Int).toNat ≤ 35184372088832 then ((some (List.replicate (a1 : Int).toNat 0 : List Int)).bind fun y380 => ((some (List.replicate (a1 : Int).toNat 0 : List Int)).bind fun y383 => (if 0 < (y383.length : Int) then ((some (y383.set (0 : Int).toNat 10 : List Int)).bind fun y386 => (if (a0.size : Int) > 0 then (if 0 < (a0.size : Int) then (zelligeref01_Parse.j0 k a0 a1 y380 y386 0 ((bt a0 0) == 45)) else (none)) else (zelligeref01_Parse.j0 k a0 a1 y380 y386 0 false))) else (none)))) else (none)) else (none)) = some (r1, r2) := h
  clear h
  by_cases c3 : 0 ≤ a1
  · rw [if_pos c3] at H
    have c3b0 := eq_true c3
    have c3b1 : decide (0 ≤ a1) = true := decide_eq_true c3
    clear c3
    by_cases c4 : (a1 : Int).toNat ≤ 35184372088832
    · rw [if_pos c4] at H
      have c4b0 := eq_true c4
      have c4b1 : decide ((a1 : Int).toNat ≤ 35184372088832) = true := decide_eq_true c4
      clear c4
      obtain ⟨y380, hy380⟩ : ∃ y_ : List Int, y_ = (List.replicate (a1 : Int).toNat 0) := ⟨_, rfl⟩
      replace H : ((some (List.replicate (a1 : Int).toNat 0 : List Int)).bind fun y383 => (if 0 < (y383.length : Int) then ((some (y383.set (0 : Int).toNat 10 : List Int)).bind fun y386 => (if (a0.size : Int) > 0 then (if 0 < (a0.size : Int) then (zelligeref01_Parse.j0 k a0 a1 y380 y386 0 ((bt a0 0) == 45)) else (none)) else (zelligeref01_Parse.j0 k a0 a1 y380 y386 0 false))) else (none))) = some (r1, r2) := by first | (rw [hy380]; with_reducible exact H) | (have H2_ := (Option.bind_some _ _).symm.trans H; rw [hy380]; with_reducible exact H2_) | (have H2_ := (Option.bind_some _ _).symm.trans H; with_reducible exact H2_) | with_reducible exact H | (rw [hy380]; exact H) | exact H
      have Ny380 := Aside0.mk hy380
      clear hy380
      obtain ⟨y383, hy383⟩ : ∃ y_ : List Int, y_ = (List.replicate (a1 : Int).toNat 0) := ⟨_, rfl⟩
      replace H : (if 0 < (y383.length : Int) then ((some (y383.set (0 : Int).toNat 10 : List Int)).bind fun y386 => (if (a0.size : Int) > 0 then (if 0 < (a0.size : Int) then (zelligeref01_Parse.j0 k a0 a1 y380 y386 0 ((bt a0 0) == 45)) else (none)) else (zelligeref01_Parse.j0 k a0 a1 y380 y386 0 false))) else (none)) = some (r1, r2) := by first | (rw [hy383]; with_reducible exact H) | (have H2_ := (Option.bind_some _ _).symm.trans H; rw [hy383]; with_reducible exact H2_) | (have H2_ := (Option.bind_some _ _).symm.trans H; with_reducible exact H2_) | with_reducible exact H | (rw [hy383]; exact H) | exact H
      have Ny383 := Aside0.mk hy383
      clear hy383
      by_cases c5 : 0 < (y383.length : Int)
      · rw [if_pos c5] at H
        have c5b0 : decide (0 < (y383.length : Int)) = true := decide_eq_true c5
        have c5b1 : decide (0 < y383.length) = true := decide_eq_true (by omega)
        clear c5
        obtain ⟨y386, hy386⟩ : ∃ y_ : List Int, y_ = (y383.set (0 : Int).toNat 10) := ⟨_, rfl⟩
        replace H : (if (a0.size : Int) > 0 then (if 0 < (a0.size : Int) then (zelligeref01_Parse.j0 k a0 a1 y380 y386 0 ((bt a0 0) == 45)) else (none)) else (zelligeref01_Parse.j0 k a0 a1 y380 y386 0 false)) = some (r1, r2) := by first | (rw [hy386]; with_reducible exact H) | (have H2_ := (Option.bind_some _ _).symm.trans H; rw [hy386]; with_reducible exact H2_) | (have H2_ := (Option.bind_some _ _).symm.trans H; with_reducible exact H2_) | with_reducible exact H | (rw [hy386]; exact H) | exact H
        have Ny386 := Aside0.mk hy386
        clear hy386
        have HC7 := Aside0.mk H
        clear H
        go_enter Try.func30, Try.ntmps30
        try go_wp2
        have n0_ := Aside0.mk (below_drew1 HB.out)
        clear HB
        have HB := n0_
        clear n0_
        refine start_ (n := 7) (S := fun w' => True) (ds := []) #[false, false, false, false, false, false, false] (by kernel_rfl) rfl rfl trivial (fun hHeld => ?_)
        generalize w.drew = w8 at HB hHeld ⊢
        refine pure_ (i := 0) (N := some 11) (v := ?_) (a' := ?_) #[true, false, false, false, false, false, false] rfl rfl (by kernel_rfl) (fun _ _ _ h => h) (Or.inl ⟨by rfl, ?_⟩) ?_ ?_
        rotate_left
        · intro w'
          go_simp
          with_reducible rfl
        rotate_left
        · simp only [Act.put, List.setIfInBounds_toArray, List.set_cons_zero, List.set_cons_succ, i64_w, i32_w]
          rfl
        refine pure_ (i := 2) (N := some 13) (v := ?_) (a' := ?_) #[true, false, true, false, false, false, false] rfl rfl (by kernel_rfl) (fun _ _ _ h => h) (Or.inl ⟨by rfl, ?_⟩) ?_ ?_
        rotate_left
        · intro w'
          go_simp
          with_reducible rfl
        rotate_left
        · simp only [Act.put, List.setIfInBounds_toArray, List.set_cons_zero, List.set_cons_succ, i64_w, i32_w]
          rfl
        refine join_ (σ := Value × Value) 2 #[true, true, true, true, true, false, false] (fun s_ => [(12, s_.1), (14, s_.2), (6, s_.1)]) (fun s_ w' => (Kd.R (Kd.int .i64) 3 w' w.heap.size (fun k_ => some k_ ≠ (s_.2 : Value).ownBlock) s_.1 y380) ∧ (Kd.R (Kd.int .i64) 3 w' w.heap.size (fun k_ => some k_ ≠ (s_.1 : Value).ownBlock) s_.2 y383) ∧ (Below w.heap.size w w')) ?_ ?_
        rotate_left
        · intro hCont
          refine two_ (i := 1) (j := 3) (Ni := some 12) (Nj := some 14) #[true, true, true, false, false, false, false] #[true, false, true, true, false, false, false] rfl rfl rfl rfl (by kernel_rfl) (by decide) (by decide) (fun K hK => ?_) (fun K hK => ?_)
          · skip
            refine Kd.R_make_step (Kd.int .i64) _ 3 (by rfl) (N := 12) rfl 28 _ _ rfl a1 rfl rfl Try.underlying28 (.int .i64 0) 8 info3 rfl (by decide) (by omega) 0 (ok := fun _ => True) (okp := fun _ => True) rfl (fun _ hk => hk) trivial (of_decide_eq_true (by first | (with_reducible assumption) | assumption)) (Nat.le_trans (Nat.mul_le_mul_right _ (of_decide_eq_true (by first | (with_reducible assumption) | assumption) : a1.toNat ≤ 35184372088832)) (by omega)) (Below.refl _ _) (Nat.le_refl _) ?_
            intro v381 w9 ho10 hb hg_ hnew_
            clear hg_ hnew_
            (first | rw [← Ny380.out] at ho10 | (simp only [Int.reduceToNat] at ho10; rw [← Ny380.out] at ho10))
            have n0_ := Aside0.mk (Kd.R_lower ho10 (below_size (by repeat (first | (with_reducible first | exact HB.out | apply below_alloc | apply pw_below_drewN | apply below_drew1) | exact HB.out))))
            have n1_ := Aside0.mk (below_step (by repeat (first | (with_reducible first | exact HB.out | apply below_alloc | apply pw_below_drewN | apply below_drew1) | exact HB.out)) hb)
            clear HB
            have HO382 := n0_
            have HB := n1_
            clear n0_ n1_
            clear hb ho10
            refine hK.out _ _ trivial (fun hHeld => ?_)
            clear hK K
            refine norm_ (a' := ?_) ?_ ?_
            rotate_left
            · show Act.put _ (some 12) _ = _
              simp only [Act.put, List.setIfInBounds_toArray, List.set_cons_zero, List.set_cons_succ, i64_w, i32_w]
              rfl
            refine pure_ (i := 4) (N := some 6) (v := ?_) (a' := ?_) #[true, true, true, false, true, false, false] rfl rfl (by kernel_rfl) (fun _ _ _ h => h) (Or.inl ⟨by rfl, ?_⟩) ?_ ?_
            rotate_left
            · intro w'
              go_simp
              with_reducible rfl
            rotate_left
            · simp only [Act.put, List.setIfInBounds_toArray, List.set_cons_zero, List.set_cons_succ, i64_w, i32_w]
              rfl
            refine one_ (i := 3) (N := some 14) #[true, true, true, true, true, false, false] rfl rfl (by kernel_rfl) (by decide) (fun K hK => ?_)
            refine Kd.R_make_step (Kd.int .i64) _ 3 (by rfl) (N := 14) rfl 28 _ _ rfl a1 rfl rfl Try.underlying28 (.int .i64 0) 8 info3 rfl (by decide) (by omega) 0 (ok := fun _ => True) (okp := fun _ => True) rfl (fun _ hk => hk) trivial (of_decide_eq_true (by first | (with_reducible assumption) | assumption)) (Nat.le_trans (Nat.mul_le_mul_right _ (of_decide_eq_true (by first | (with_reducible assumption) | assumption) : a1.toNat ≤ 35184372088832)) (by omega)) (Below.refl _ _) (Nat.le_refl _) ?_
            intro v384 w11 ho12 hb hg_ hnew_
            clear hg_ hnew_
            (first | rw [← Ny383.out] at ho12 | (simp only [Int.reduceToNat] at ho12; rw [← Ny383.out] at ho12))
            have n0_ := Aside0.mk (Kd.R_elder' (by (with_reducible repeat (first | apply Kd.R_alloc | apply Kd.R_drewN | apply Kd.R_drew)); exact HO382.out) (Kd.R_base ho12) hb)
            have n1_ := Aside0.mk (Kd.R_lower (Kd.R_new' ho12 (Kd.R_lt (by (with_reducible repeat (first | apply Kd.R_alloc | apply Kd.R_drewN | apply Kd.R_drew)); exact HO382.out))) (below_size (by repeat (first | (with_reducible first | exact HB.out | apply below_alloc | apply pw_below_drewN | apply below_drew1) | exact HB.out))))
            have n2_ := Aside0.mk (below_step (by repeat (first | (with_reducible first | exact HB.out | apply below_alloc | apply pw_below_drewN | apply below_drew1) | exact HB.out)) hb)
            clear HO382
            clear HB
            have HO382 := n0_
            have HO385 := n1_
            have HB := n2_
            clear n0_ n1_ n2_
            clear hb ho12
            refine hK.out _ _ trivial (fun hHeld => ?_)
            clear hK K
            refine norm_ (a' := ?_) ?_ ?_
            rotate_left
            · show Act.put _ (some 14) _ = _
              simp only [Act.put, List.setIfInBounds_toArray, List.set_cons_zero, List.set_cons_succ, i64_w, i32_w]
              rfl
            exact norm_ (by simp only [putAll, Act.put, List.setIfInBounds_toArray, List.set_cons_zero, List.set_cons_succ]) (hCont (v381, v384) _ ⟨(by (with_reducible repeat (first | apply Kd.R_alloc | apply Kd.R_drewN | apply Kd.R_drew)); exact Kd.R_mono HO382.out (fun _ hk => hk.2)), (by (with_reducible repeat (first | apply Kd.R_alloc | apply Kd.R_drewN | apply Kd.R_drew)); exact Kd.R_mono HO385.out (fun _ hk => hk.2)), (by repeat (first | (with_reducible first | exact HB.out | apply below_alloc | apply pw_below_drewN | apply below_drew1) | exact HB.out))⟩)
          · skip
            refine Kd.R_make_step (Kd.int .i64) _ 3 (by rfl) (N := 14) rfl 28 _ _ rfl a1 rfl rfl Try.underlying28 (.int .i64 0) 8 info3 rfl (by decide) (by omega) 0 (ok := fun _ => True) (okp := fun _ => True) rfl (fun _ hk => hk) trivial (of_decide_eq_true (by first | (with_reducible assumption) | assumption)) (Nat.le_trans (Nat.mul_le_mul_right _ (of_decide_eq_true (by first | (with_reducible assumption) | assumption) : a1.toNat ≤ 35184372088832)) (by omega)) (Below.refl _ _) (Nat.le_refl _) ?_
            intro v384 w9 ho10 hb hg_ hnew_
            clear hg_ hnew_
            (first | rw [← Ny383.out] at ho10 | (simp only [Int.reduceToNat] at ho10; rw [← Ny383.out] at ho10))
            have n0_ := Aside0.mk (Kd.R_lower ho10 (below_size (by repeat (first | (with_reducible first | exact HB.out | apply below_alloc | apply pw_below_drewN | apply below_drew1) | exact HB.out))))
            have n1_ := Aside0.mk (below_step (by repeat (first | (with_reducible first | exact HB.out | apply below_alloc | apply pw_below_drewN | apply below_drew1) | exact HB.out)) hb)
            clear HB
            have HO385 := n0_
            have HB := n1_
            clear n0_ n1_
            clear hb ho10
            refine hK.out _ _ trivial (fun hHeld => ?_)
            clear hK K
            refine norm_ (a' := ?_) ?_ ?_
            rotate_left
            · show Act.put _ (some 14) _ = _
              simp only [Act.put, List.setIfInBounds_toArray, List.set_cons_zero, List.set_cons_succ, i64_w, i32_w]
              rfl
            refine one_ (i := 1) (N := some 12) #[true, true, true, true, false, false, false] rfl rfl (by kernel_rfl) (by decide) (fun K hK => ?_)
            refine Kd.R_make_step (Kd.int .i64) _ 3 (by rfl) (N := 12) rfl 28 _ _ rfl a1 rfl rfl Try.underlying28 (.int .i64 0) 8 info3 rfl (by decide) (by omega) 0 (ok := fun _ => True) (okp := fun _ => True) rfl (fun _ hk => hk) trivial (of_decide_eq_true (by first | (with_reducible assumption) | assumption)) (Nat.le_trans (Nat.mul_le_mul_right _ (of_decide_eq_true (by first | (with_reducible assumption) | assumption) : a1.toNat ≤ 35184372088832)) (by omega)) (Below.refl _ _) (Nat.le_refl _) ?_
            intro v381 w11 ho12 hb hg_ hnew_
            clear hg_ hnew_
            (first | rw [← Ny380.out] at ho12 | (simp only [Int.reduceToNat] at ho12; rw [← Ny380.out] at ho12))
            have n0_ := Aside0.mk (Kd.R_elder' (by (with_reducible repeat (first | apply Kd.R_alloc | apply Kd.R_drewN | apply Kd.R_drew)); exact HO385.out) (Kd.R_base ho12) hb)
            have n1_ := Aside0.mk (Kd.R_lower (Kd.R_new' ho12 (Kd.R_lt (by (with_reducible repeat (first | apply Kd.R_alloc | apply Kd.R_drewN | apply Kd.R_drew)); exact HO385.out))) (below_size (by repeat (first | (with_reducible first | exact HB.out | apply below_alloc | apply pw_below_drewN | apply below_drew1) | exact HB.out))))
            have n2_ := Aside0.mk (below_step (by repeat (first | (with_reducible first | exact HB.out | apply below_alloc | apply pw_below_drewN | apply below_drew1) | exact HB.out)) hb)
            clear HO385
            clear HB
            have HO385 := n0_
            have HO382 := n1_
            have HB := n2_
            clear n0_ n1_ n2_
            clear hb ho12
            refine hK.out _ _ trivial (fun hHeld => ?_)
            clear hK K
            refine norm_ (a' := ?_) ?_ ?_
            rotate_left
            · show Act.put _ (some 12) _ = _
              simp only [Act.put, List.setIfInBounds_toArray, List.set_cons_zero, List.set_cons_succ, i64_w, i32_w]
              rfl
            refine pure_ (i := 4) (N := some 6) (v := ?_) (a' := ?_) #[true, true, true, true, true, false, false] rfl rfl (by kernel_rfl) (fun _ _ _ h => h) (Or.inl ⟨by rfl, ?_⟩) ?_ ?_
            rotate_left
            · intro w'
              go_simp
              with_reducible rfl
            rotate_left
            · simp only [Act.put, List.setIfInBounds_toArray, List.set_cons_zero, List.set_cons_succ, i64_w, i32_w]
              rfl
            exact norm_ (by simp only [putAll, Act.put, List.setIfInBounds_toArray, List.set_cons_zero, List.set_cons_succ]) (hCont (v381, v384) _ ⟨(by (with_reducible repeat (first | apply Kd.R_alloc | apply Kd.R_drewN | apply Kd.R_drew)); exact Kd.R_mono HO382.out (fun _ hk => hk.2)), (by (with_reducible repeat (first | apply Kd.R_alloc | apply Kd.R_drewN | apply Kd.R_drew)); exact Kd.R_mono HO385.out (fun _ hk => hk.2)), (by repeat (first | (with_reducible first | exact HB.out | apply below_alloc | apply pw_below_drewN | apply below_drew1) | exact HB.out))⟩)
        rintro ⟨v381, v384⟩ w13 ⟨h0_, h1_, h2_⟩
        have n0_ : Aside0 (Kd.R (Kd.int .i64) 3 w13 w.heap.size (fun k_ => some k_ ≠ (v384 : Value).ownBlock) v381 y380) := ⟨h0_⟩
        have n1_ : Aside0 (Kd.R (Kd.int .i64) 3 w13 w.heap.size (fun k_ => some k_ ≠ (v381 : Value).ownBlock) v384 y383) := ⟨h1_⟩
        have n2_ : Aside0 (Below w.heap.size w w13) := ⟨h2_⟩
        clear HB
        clear h0_ h1_ h2_
        have HO382 := n0_
        have HO385 := n1_
        have HB := n2_
        clear n0_ n1_ n2_
        have hHeld := trivial
        refine norm_ (a' := ?_) ?_ ?_
        rotate_left
        · simp only [putAll, Act.put, List.setIfInBounds_toArray, List.set_cons_zero, List.set_cons_succ]
          rfl
        refine pure_ (i := 5) (N := some 7) (v := ?_) (a' := ?_) #[true, true, true, true, true, true, false] rfl rfl (by kernel_rfl) (fun _ _ _ h => h) (Or.inl ⟨by rfl, ?_⟩) ?_ ?_
        rotate_left
        · intro w'
          go_simp
          with_reducible rfl
        rotate_left
        · simp only [Act.put, List.setIfInBounds_toArray, List.set_cons_zero, List.set_cons_succ, i64_w, i32_w]
          rfl
        refine pure_ (i := 6) (N := some 8) (v := ?_) (a' := ?_) #[true, true, true, true, true, true, true] rfl rfl (by kernel_rfl) (fun _ _ _ h => h) (Or.inl ⟨by rfl, ?_⟩) ?_ ?_
        rotate_left
        · intro w'
          go_simp
          with_reducible rfl
        rotate_left
        · simp only [Act.put, List.setIfInBounds_toArray, List.set_cons_zero, List.set_cons_succ, i64_w, i32_w]
          rfl
        refine done_ (by kernel_rfl) ?_
        have p6 : 0 ≤ (0 : Int) := (by omega)
        have q6 : (0 : Int) < ((y383.length : Int) : Int) := of_decide_eq_true (by first | (with_reducible assumption) | assumption)
        have qi6 : (0 < y383.length) = True := eq_true (by omega)
        obtain ⟨go6, co6, eo6, gb6, gl6, cl6, HG6⟩ := Kd.R_form HO385.out (by omega)
        (first | cases eo6 | (injection eo6 with ea_ en_ ec_; (first | subst ea_ | (injection ea_ with ea_; subst ea_)); subst ec_; clear en_))
        have GB6 := Aside0.mk gb6
        have GG6 := Aside0.mk HG6
        clear gb6 gl6 HG6
        obtain ⟨hx6_0, hf6_0⟩ := Kd.R_celln 0 HO385.out (0 : Int) p6 q6
        (try rw [show ((0 : Int)).toNat = 0 from rfl] at hx6_0)
        (try simp only [Nat.reduceMul, Nat.zero_mul, Nat.zero_add, Nat.reduceAdd] at hx6_0)
        (try rw [show ((0 : Int)).toNat = 0 from rfl] at hf6_0)
        (try simp only [Nat.reduceMul, Nat.zero_mul, Nat.zero_add, Nat.reduceAdd] at hf6_0)
        replace p6 := eq_true p6
        replace q6 := eq_true q6
        obtain ⟨hy14_, hz14_⟩ := Kd.R_celln 0 HO385.out (0 : Int) (by omega) (of_decide_eq_true (by first | (with_reducible assumption) | assumption))
        (try simp only [Int.reduceToNat, Int.toNat_zero, Int.toNat_ofNat, Nat.reduceMul, Nat.zero_mul, Nat.zero_add] at hy14_ hz14_)
        (try rw [show ((0 : Int)).toNat = 0 from rfl] at hy14_)
        (try rw [show ((0 : Int)).toNat = 0 from rfl] at hz14_)
        have HP14 := Kd.R_putg HO385.out (0 : Int) 10
        go_upto_region 3 with (first | ((with_reducible refine gate_store (t := 3) (p := 16) rfl ?_); refine store_event (t := 3) (p := 16) (v := ?vo_w15) (w1 := (w13.setCell ⟨go6, (0 : Int).toNat, none⟩ (.int .i64 10))) ?hg ?ho ?hn ?hr ?_; (case ho => rfl); (case hg => rfl); (case hn => rfl); (case hr => first | (go_simp; done) | (go_simp; rfl)); intro w15 hw; have hg : w13.grownBy w15 (some go6) := (by rw [hw]; exact HP14.2); have hp_ : Kd.R (Kd.int .i64) 3 w15 w.heap.size (fun k_ => some k_ ≠ (v381 : Value).ownBlock) (.slice (some ⟨go6, 0, none⟩) y383.length co6) y386 := (by rw [hw, Ny386.out]; exact HP14.1); clear HP14; have n0_ := Aside0.mk (Kd.R_after (v := (.slice (some ⟨go6, 0, none⟩) y383.length co6)) (v1 := (.slice (some ⟨go6, 0, none⟩) y383.length co6)) (ok := (fun _ => True)) (by (with_reducible repeat (first | apply Kd.R_alloc | apply Kd.R_drewN | apply Kd.R_drew)); exact Kd.R_mono HO382.out (fun _ hk => ⟨trivial, hk⟩)) hg (.inl rfl)); have n1_ := Aside0.mk (hp_); have n2_ := Aside0.mk ((by rw [hw]; exact below_set (HB.out) GB6.out : Below w.heap.size w w15)); clear HO382; clear HO385; clear HB; have HO382 := n0_; have HO385 := n1_; have HB := n2_; clear n0_ n1_ n2_; clear hg hw hp_))
        (try simp only [Act.put, List.setIfInBounds_toArray, List.set_cons_zero, List.set_cons_succ])
        go_cut [24] (fun v24 wc => ∃ (kq : Nat) (x24_6 : Bool), v24 = .bool x24_6 ∧ Aside0 (zelligeref01_Parse.j0 kq a0 a1 y380 y386 0 x24_6 = some (r1, r2)) ∧ Aside0 (kq ≤ k) ∧ Aside0 (Kd.R (Kd.int .i64) 3 wc w.heap.size (fun k_ => some k_ ≠ ((.slice (some ⟨go6, 0, none⟩) y383.length co6) : Value).ownBlock) v381 y380) ∧ Aside0 (Kd.R (Kd.int .i64) 3 wc w.heap.size (fun k_ => some k_ ≠ (v381 : Value).ownBlock) (.slice (some ⟨go6, 0, none⟩) y383.length co6) y386) ∧ Aside0 (Below w.heap.size w wc))
        case first =>
          have H := HC7.out
          clear HC7
          by_cases c16 : (a0.size : Int) > 0
          · rw [if_pos c16] at H
            have c16b0 : decide (0 < (a0.size : Int)) = true := decide_eq_true c16
            have c16b1 : decide (0 < a0.size) = true := decide_eq_true (by omega)
            clear c16
            (first | rw [c16b0] | (simp only [i64_w, i32_w]; rw [c16b0]) | skip)
            by_cases c17 : 0 < (a0.size : Int)
            · rw [if_pos c17] at H
              have c17b0 : decide (0 < (a0.size : Int)) = true := decide_eq_true c17
              have c17b1 : decide (0 < a0.size) = true := decide_eq_true (by omega)
              clear c17
              have H' := Aside0.mk H
              clear H
              have p18 : 0 ≤ (0 : Int) := (by omega)
              have q18 : 0 < a0.size := (by have : (0 : Int) < (a0.size : Int) := of_decide_eq_true (by first | (with_reducible assumption) | assumption); omega)
              have hx18 : ∀ h : 0 < a0.size, ((a0[0]'h).toNat : Int) = bt a0 0 := bt_at a0 0
              clear p18
              have qi18 : (0 < (a0.size : Int)) = True := eq_true (of_decide_eq_true (by first | (with_reducible assumption) | assumption))
              replace q18 := eq_true q18
              go_wp2
              go_meet
              case rel => exact ⟨_, (((bt a0 0) == 45)), (by first | rfl | (simp; done) | (simp [*]; done)), H', ⟨by first | omega | exact Nat.le_refl _⟩, ⟨by (with_reducible repeat (first | apply Kd.R_alloc | apply Kd.R_drewN | apply Kd.R_drew)); exact Kd.R_mono HO382.out (fun _ hk => hk.2)⟩, ⟨by (with_reducible repeat (first | apply Kd.R_alloc | apply Kd.R_drewN | apply Kd.R_drew)); exact HO385.out⟩, ⟨by repeat (first | (with_reducible first | exact HB.out | apply below_alloc | apply pw_below_drewN | apply below_drew1) | exact HB.out)⟩⟩
            · rw [if_neg c17] at H
              exact absurd H (by simp)
          · rw [if_neg c16] at H
            have c16b0 : decide (0 < (a0.size : Int)) = false := decide_eq_false c16
            have c16b1 : decide (0 < a0.size) = false := decide_eq_false (by omega)
            clear c16
            (first | rw [c16b0] | (simp only [i64_w, i32_w]; rw [c16b0]) | skip)
            have H' := Aside0.mk H
            clear H
            go_wp2
            go_meet
            case rel => exact ⟨_, (false), (by first | rfl | (simp; done) | (simp [*]; done)), H', ⟨by first | omega | exact Nat.le_refl _⟩, ⟨by (with_reducible repeat (first | apply Kd.R_alloc | apply Kd.R_drewN | apply Kd.R_drew)); exact Kd.R_mono HO382.out (fun _ hk => hk.2)⟩, ⟨by (with_reducible repeat (first | apply Kd.R_alloc | apply Kd.R_drewN | apply Kd.R_drew)); exact HO385.out⟩, ⟨by repeat (first | (with_reducible first | exact HB.out | apply below_alloc | apply pw_below_drewN | apply below_drew1) | exact HB.out)⟩⟩
        case rest =>
          clear HC7
          try clear c1
          try clear p1
          try clear q1
          try clear hx1
          try clear qi1
          try clear p2
          try clear c3
          try clear c3b0
          try clear c3b1
          try clear c4
          try clear c4b0
          try clear c4b1
          try clear c5
          try clear c5b0
          try clear c5b1
          try clear p6
          try clear q6
          try clear hx6
          try clear qi6
          try clear hf6
          try clear c16
          try clear c16b0
          try clear c16b1
          try clear c17
          try clear c17b0
          try clear c17b1
          try clear p18
          try clear q18
          try clear hx18
          try clear qi18
          try clear hx6_0
          try clear p18
          try clear p6
          try clear q18
          try clear q6
          obtain ⟨kq, x24_6, rfl, HA, HJ6, HO_6, HO_7, HB⟩ := hcut
          have hl7_6 := (Kd.R_reads' HO_7.out).1
          rw [hl7_6] at HO_7
          (try simp only [hl7_6])
          (try simp only [hl7_6] at HO_6)
          cases kq with
          | zero => exact absurd HA.out (by simp [zelligeref01_Parse.j0])
          | succ kj6 =>
            have H := HA.out
            clear HA
            simp only [zelligeref01_Parse.j0] at H
            have HC19 := Aside0.mk H
            clear H
            go_upto_if 24 with (fail)
            go_cut [8] (fun v8 wc => ∃ (kq : Nat) (x8_18 : Int), v8 = .int .i64 x8_18 ∧ Aside0 (zelligeref01_Parse.j1 kq a0 a1 y380 y386 x8_18 = some (r1, r2)) ∧ Aside0 (kq ≤ kj6) ∧ Aside0 (Kd.R (Kd.int .i64) 3 wc w.heap.size (fun k_ => some k_ ≠ ((.slice (some ⟨go6, 0, none⟩) y386.length co6) : Value).ownBlock) v381 y380) ∧ Aside0 (Kd.R (Kd.int .i64) 3 wc w.heap.size (fun k_ => some k_ ≠ (v381 : Value).ownBlock) (.slice (some ⟨go6, 0, none⟩) y386.length co6) y386) ∧ Aside0 (Below w.heap.size w wc))
            case first =>
              have H := HC19.out
              clear HC19
              by_cases c20 : x24_6 = true
              · subst c20
                have H1 : (zelligeref01_Parse.j1 kj6 a0 a1 y380 y386 1) = some (r1, r2) := by rw [if_pos rfl] at H; exact H
                clear H
                have H := H1
                clear H1
                have H' := Aside0.mk H
                clear H
                go_wp2
                go_meet
                case rel => exact ⟨_, (1), (by first | rfl | (simp; done) | (simp [*]; done)), H', ⟨by have := HJ6.out; first | omega | exact Nat.le_refl _⟩, ⟨by (try simp only [hl7_6]); (with_reducible repeat (first | apply Kd.R_alloc | apply Kd.R_drewN | apply Kd.R_drew)); exact HO_6.out⟩, ⟨by (try simp only [hl7_6]); (with_reducible repeat (first | apply Kd.R_alloc | apply Kd.R_drewN | apply Kd.R_drew)); exact HO_7.out⟩, ⟨by repeat (first | (with_reducible first | exact HB.out | apply below_alloc | apply pw_below_drewN | apply below_drew1) | exact HB.out)⟩⟩
              · replace c20 := Bool.eq_false_iff.mpr c20
                subst c20
                have H1 : (zelligeref01_Parse.j1 kj6 a0 a1 y380 y386 0) = some (r1, r2) := by rw [if_neg (show ¬ (false = true) by decide)] at H; exact H
                clear H
                have H := H1
                clear H1
                have H' := Aside0.mk H
                clear H
                go_wp2
                go_meet
                case rel => exact ⟨_, (0), (by first | rfl | (simp; done) | (simp [*]; done)), H', ⟨by have := HJ6.out; first | omega | exact Nat.le_refl _⟩, ⟨by (try simp only [hl7_6]); (with_reducible repeat (first | apply Kd.R_alloc | apply Kd.R_drewN | apply Kd.R_drew)); exact HO_6.out⟩, ⟨by (try simp only [hl7_6]); (with_reducible repeat (first | apply Kd.R_alloc | apply Kd.R_drewN | apply Kd.R_drew)); exact HO_7.out⟩, ⟨by repeat (first | (with_reducible first | exact HB.out | apply below_alloc | apply pw_below_drewN | apply below_drew1) | exact HB.out)⟩⟩
            case rest =>
              clear HC19
              try clear c1
              try clear p1
              try clear q1
              try clear hx1
              try clear qi1
              try clear c2
              try clear p2
              try clear c3
              try clear c3b0
              try clear c3b1
              try clear c4
              try clear c4b0
              try clear c4b1
              try clear c5
              try clear c5b0
              try clear c5b1
              try clear p6
              try clear q6
              try clear hx6
              try clear qi6
              try clear hf6
              try clear c16
              try clear c16b0
              try clear c16b1
              try clear c17
              try clear c17b0
              try clear c17b1
              try clear p18
              try clear q18
              try clear hx18
              try clear qi18
              try clear c20
              try clear hx6_0
              try clear p1
              try clear p18
              try clear p2
              try clear p6
              try clear q1
              try clear q18
              try clear q6
              obtain ⟨kq, x8_18, rfl, HA, HJ18, HO_6, HO_7, HB⟩ := hcut
              cases kq with
              | zero => exact absurd HA.out (by simp [zelligeref01_Parse.j1])
              | succ kj18 =>
                have H := HA.out
                clear HA
                simp only [zelligeref01_Parse.j1] at H
                by_cases c21 : (a0.size : Int) > (wrap64 (3 * a1))
                · rw [if_pos c21] at H
                  have c21b0 : decide ((wrap64 (3 * a1)) < (a0.size : Int)) = true := decide_eq_true c21
                  clear c21
                  simp only [Option.some.injEq, Prod.mk.injEq] at H
                  obtain ⟨rfl, rfl⟩ := H
                  go_wp2
                  go_ret2
                  exact ⟨_, by first | rfl | (simp [errW_none, errW_some] <;> rfl) | (simp [*, errW_none, errW_some] <;> rfl), by (with_reducible repeat (first | apply Kd.R_alloc | apply Kd.R_drewN | apply Kd.R_drew)); exact Kd.R_mono HO_6.out (fun _ hk => trivial), by repeat (first | (with_reducible first | exact HB.out | apply below_alloc | apply pw_below_drewN | apply below_drew1) | exact HB.out)⟩
                · rw [if_neg c21] at H
                  have c21b0 : decide ((wrap64 (3 * a1)) < (a0.size : Int)) = false := decide_eq_false c21
                  clear c21
                  have H' := Aside0.mk H
                  clear H
                  go_wp2
                  go_loopg [6, 9] kj18 (fun kq v6 v9 w' => ∃ (x6_3 : List Int) (x7_3 : List Int) (x9_3 : Int), v9 = .int .i64 x9_3 ∧ Aside0 (zelligeref01_Parse.l0 kq a0 a1 x6_3 x7_3 x8_18 x9_3 = some (r1, r2)) ∧ Aside0 (kq ≤ kj18) ∧ Aside0 (Kd.R (Kd.int .i64) 3 w' w.heap.size (fun k_ => some k_ ≠ ((.slice (some ⟨go6, 0, none⟩) y386.length co6) : Value).ownBlock) v6 x6_3) ∧ Aside0 (Kd.R (Kd.int .i64) 3 w' w.heap.size (fun k_ => some k_ ≠ (v6 : Value).ownBlock) (.slice (some ⟨go6, 0, none⟩) y386.length co6) x7_3) ∧ Aside0 (Below w.heap.size w w'))
                  case atStart => exact ⟨(y380), (y386), (x8_18), (by first | rfl | (simp; done) | (simp [*]; done)), H', ⟨Nat.le_refl _⟩, ⟨by (try simp only [hl7_6]); (with_reducible repeat (first | apply Kd.R_alloc | apply Kd.R_drewN | apply Kd.R_drew)); exact HO_6.out⟩, ⟨by (try simp only [hl7_6]); (with_reducible repeat (first | apply Kd.R_alloc | apply Kd.R_drewN | apply Kd.R_drew)); exact HO_7.out⟩, ⟨by repeat (first | (with_reducible first | exact HB.out | apply below_alloc | apply pw_below_drewN | apply below_drew1) | exact HB.out)⟩⟩
                  case round =>
                    clear H'
                    try clear c1
                    try clear p1
                    try clear q1
                    try clear hx1
                    try clear qi1
                    try clear c2
                    try clear p2
                    try clear c3
                    try clear c3b0
                    try clear c3b1
                    try clear c4
                    try clear c4b0
                    try clear c4b1
                    try clear c5
                    try clear c5b0
                    try clear c5b1
                    try clear p6
                    try clear q6
                    try clear hx6
                    try clear qi6
                    try clear hf6
                    try clear c16
                    try clear c16b0
                    try clear c16b1
                    try clear c17
                    try clear c17b0
                    try clear c17b1
                    try clear p18
                    try clear q18
                    try clear hx18
                    try clear qi18
                    try clear c20
                    try clear c21
                    try clear c21b0
                    try clear hx6_0
                    try clear p1
                    try clear p18
                    try clear p2
                    try clear p6
                    try clear q1
                    try clear q18
                    try clear q6
                    obtain ⟨x6_3, x7_3, x9_3, rfl, HA, HK3, HO_6, HO_7, HB⟩ := hrel
                    have hl7_3 := (Kd.R_reads' HO_7.out).1
                    rw [hl7_3] at HO_7
                    (try simp only [hl7_3])
                    (try simp only [hl7_3] at HO_6)
                    cases gk with
                    | zero => exact absurd HA.out (by simp [zelligeref01_Parse.l0])
                    | succ k3 =>
                      have H := HA.out
                      clear HA
                      simp only [zelligeref01_Parse.l0] at H
                      by_cases c22 : x9_3 < (a0.size : Int)
                      · rw [if_pos c22] at H
                        have c22b0 : decide (x9_3 < (a0.size : Int)) = true := decide_eq_true c22
                        clear c22
                        have HC23 := Aside0.mk H
                        clear H
                        go_upto_region 10 with (fail)
                        go_cut [47] (fun v47 wc => ∃ (kq : Nat) (x47_22 : Bool), v47 = .bool x47_22 ∧ Aside0 (zelligeref01_Parse.j3 kq a0 a1 x6_3 x7_3 x8_18 x9_3 x47_22 = some (r1, r2)) ∧ Aside0 (kq ≤ k3) ∧ Aside0 (Kd.R (Kd.int .i64) 3 wc w.heap.size (fun k_ => some k_ ≠ ((.slice (some ⟨go6, 0, none⟩) x7_3.length co6) : Value).ownBlock) u6 x6_3) ∧ Aside0 (Kd.R (Kd.int .i64) 3 wc w.heap.size (fun k_ => some k_ ≠ (u6 : Value).ownBlock) (.slice (some ⟨go6, 0, none⟩) x7_3.length co6) x7_3) ∧ Aside0 (Below w.heap.size w wc))
                        case first =>
                          have H := HC23.out
                          clear HC23
                          by_cases c24 : 0 ≤ x9_3
                          · rw [if_pos c24] at H
                            have c24b0 : decide (0 ≤ x9_3) = true := decide_eq_true c24
                            clear c24
                            (first | rw [c24b0] | (simp only [i64_w, i32_w]; rw [c24b0]) | skip)
                            by_cases c26 : (bt a0 x9_3) < 48
                            · rw [if_pos c26] at H
                              have c26b0 : decide ((bt a0 x9_3) < 48) = true := decide_eq_true c26
                              clear c26
                              have H' := Aside0.mk H
                              clear H
                              have p25 : 0 ≤ (x9_3 : Int) := of_decide_eq_true (by first | (with_reducible assumption) | assumption)
                              have q25 : x9_3 < (a0.size : Int) := of_decide_eq_true (by first | (with_reducible assumption) | assumption)
                              have hx25 := bt_at a0 x9_3
                              replace p25 := eq_true p25
                              replace q25 := eq_true q25
                              go_wp2
                              go_meet
                              case rel => exact ⟨_, (true), (by first | rfl | (simp; done) | (simp [*]; done)), H', ⟨by have := HJ6.out; have := HJ18.out; have := HK3.out; first | omega | exact Nat.le_refl _⟩, ⟨by (try simp only [hl7_6]); (try simp only [hl7_3]); (with_reducible repeat (first | apply Kd.R_alloc | apply Kd.R_drewN | apply Kd.R_drew)); exact HO_6.out⟩, ⟨by (try simp only [hl7_6]); (try simp only [hl7_3]); (with_reducible repeat (first | apply Kd.R_alloc | apply Kd.R_drewN | apply Kd.R_drew)); exact HO_7.out⟩, ⟨by repeat (first | (with_reducible first | exact HB.out | apply below_alloc | apply pw_below_drewN | apply below_drew1) | exact HB.out)⟩⟩
                            · rw [if_neg c26] at H
                              have c26b0 : decide ((bt a0 x9_3) < 48) = false := decide_eq_false c26
                              clear c26
                              have H' := Aside0.mk H
                              clear H
                              have p25 : 0 ≤ (x9_3 : Int) := of_decide_eq_true (by first | (with_reducible assumption) | assumption)
                              have q25 : x9_3 < (a0.size : Int) := of_decide_eq_true (by first | (with_reducible assumption) | assumption)
                              have hx25 := bt_at a0 x9_3
                              replace p25 := eq_true p25
                              replace q25 := eq_true q25
                              have p27 : 0 ≤ (x9_3 : Int) := of_decide_eq_true (by first | (with_reducible assumption) | assumption)
                              have q27 : x9_3 < (a0.size : Int) := of_decide_eq_true (by first | (with_reducible assumption) | assumption)
                              have hx27 := bt_at a0 x9_3
                              replace p27 := eq_true p27
                              replace q27 := eq_true q27
                              go_wp2
                              go_meet
                              case rel => exact ⟨_, (decide ((bt a0 x9_3) > 57)), (by first | rfl | (simp; done) | (simp [*]; done)), H', ⟨by have := HJ6.out; have := HJ18.out; have := HK3.out; first | omega | exact Nat.le_refl _⟩, ⟨by (try simp only [hl7_6]); (try simp only [hl7_3]); (with_reducible repeat (first | apply Kd.R_alloc | apply Kd.R_drewN | apply Kd.R_drew)); exact HO_6.out⟩, ⟨by (try simp only [hl7_6]); (try simp only [hl7_3]); (with_reducible repeat (first | apply Kd.R_alloc | apply Kd.R_drewN | apply Kd.R_drew)); exact HO_7.out⟩, ⟨by repeat (first | (with_reducible first | exact HB.out | apply below_alloc | apply pw_below_drewN | apply below_drew1) | exact HB.out)⟩⟩
                          · rw [if_neg c24] at H
                            exact absurd H (by simp)
                        case rest =>
                          clear HC23
                          try clear c1
                          try clear p1
                          try clear q1
                          try clear hx1
                          try clear qi1
                          try clear c2
                          try clear p2
                          try clear q2
                          try clear hx2
                          try clear c3
                          try clear c3b0
                          try clear c3b1
                          try clear c4
                          try clear c4b0
                          try clear c4b1
                          try clear c5
                          try clear c5b0
                          try clear c5b1
                          try clear p6
                          try clear q6
                          try clear hx6
                          try clear qi6
                          try clear hf6
                          try clear c16
                          try clear c16b0
                          try clear c16b1
                          try clear c17
                          try clear c17b0
                          try clear c17b1
                          try clear p18
                          try clear q18
                          try clear hx18
                          try clear qi18
                          try clear c20
                          try clear c21
                          try clear c21b0
                          try clear c22
                          try clear c22b0
                          try clear c24
                          try clear c24b0
                          try clear p25
                          try clear q25
                          try clear hx25
                          try clear c26
                          try clear c26b0
                          try clear p27
                          try clear q27
                          try clear hx27
                          try clear hx6_0
                          try clear p1
                          try clear p18
                          try clear p2
                          try clear p25
                          try clear p27
                          try clear p6
                          try clear q1
                          try clear q18
                          try clear q25
                          try clear q27
                          try clear q6
                          obtain ⟨kq, x47_22, rfl, HA, HJ22, HO_6, HO_7, HB⟩ := hcut
                          cases kq with
                          | zero => exact absurd HA.out (by simp [zelligeref01_Parse.j3])
                          | succ kj22 =>
                            have H := HA.out
                            clear HA
                            simp only [zelligeref01_Parse.j3] at H
                            by_cases c28 : x47_22 = true
                            · subst c28
                              have H1 : (some (x6_3, false)) = some (r1, r2) := by rw [if_pos rfl] at H; exact H
                              clear H
                              have H := H1
                              clear H1
                              simp only [Option.some.injEq, Prod.mk.injEq] at H
                              obtain ⟨rfl, rfl⟩ := H
                              go_wp2
                              go_ret2
                              exact ⟨_, by first | rfl | (simp [errW_none, errW_some] <;> rfl) | (simp [*, errW_none, errW_some] <;> rfl), by (with_reducible repeat (first | apply Kd.R_alloc | apply Kd.R_drewN | apply Kd.R_drew)); exact Kd.R_mono HO_6.out (fun _ hk => trivial), by repeat (first | (with_reducible first | exact HB.out | apply below_alloc | apply pw_below_drewN | apply below_drew1) | exact HB.out)⟩
                            · replace c28 := Bool.eq_false_iff.mpr c28
                              subst c28
                              have H1 : (if 0 ≤ a1 then (if (a1 : Int).toNat ≤ 35184372088832 then ((some (List.replicate (a1 : Int).toNat 0 : List Int)).bind fun y387 => (if 0 ≤ x9_3 then (if x9_3 < (a0.size : Int) then (if 0 < (y387.length : Int) then ((zelligeref01_Mul.f kj22 x6_3 x7_3).bind fun t391 => ((zelligeref01_Add.f kj22 t391 (y387.set (0 : Int).toNat (((bt a0 x9_3) - 48) % 256))).bind fun t394 => (zelligeref01_Parse.l0 kj22 a0 a1 t394 x7_3 x8_18 (wrap64 (x9_3 + 1))))) else (none)) else (none)) else (none))) else (none)) else (none)) = some (r1, r2) := by rw [if_neg (show ¬ (false = true) by decide)] at H; exact H
                              clear H
                              have H := H1
                              clear H1
                              by_cases c29 : 0 ≤ a1
                              · rw [if_pos c29] at H
                                have c29b0 := eq_true c29
                                have c29b1 : decide (0 ≤ a1) = true := decide_eq_true c29
                                clear c29
                                by_cases c30 : (a1 : Int).toNat ≤ 35184372088832
                                · rw [if_pos c30] at H
                                  have c30b0 := eq_true c30
                                  have c30b1 : decide ((a1 : Int).toNat ≤ 35184372088832) = true := decide_eq_true c30
                                  clear c30
                                  obtain ⟨y387, hy387⟩ : ∃ y_ : List Int, y_ = (List.replicate (a1 : Int).toNat 0) := ⟨_, rfl⟩
                                  replace H : (if 0 ≤ x9_3 then (if x9_3 < (a0.size : Int) then (if 0 < (y387.length : Int) then ((zelligeref01_Mul.f kj22 x6_3 x7_3).bind fun t391 => ((zelligeref01_Add.f kj22 t391 (y387.set (0 : Int).toNat (((bt a0 x9_3) - 48) % 256))).bind fun t394 => (zelligeref01_Parse.l0 kj22 a0 a1 t394 x7_3 x8_18 (wrap64 (x9_3 + 1))))) else (none)) else (none)) else (none)) = some (r1, r2) := by first | (rw [hy387]; with_reducible exact H) | (have H2_ := (Option.bind_some _ _).symm.trans H; rw [hy387]; with_reducible exact H2_) | (have H2_ := (Option.bind_some _ _).symm.trans H; with_reducible exact H2_) | with_reducible exact H | (rw [hy387]; exact H) | exact H
                                  have Ny387 := Aside0.mk hy387
                                  clear hy387
                                  by_cases c31 : 0 ≤ x9_3
                                  · rw [if_pos c31] at H
                                    have c31b0 : decide (0 ≤ x9_3) = true := decide_eq_true c31
                                    clear c31
                                    by_cases c32 : x9_3 < (a0.size : Int)
                                    · rw [if_pos c32] at H
                                      have c32b0 : decide (x9_3 < (a0.size : Int)) = true := decide_eq_true c32
                                      clear c32
                                      by_cases c34 : 0 < (y387.length : Int)
                                      · rw [if_pos c34] at H
                                        have c34b0 : decide (0 < (y387.length : Int)) = true := decide_eq_true c34
                                        have c34b1 : decide (0 < y387.length) = true := decide_eq_true (by omega)
                                        clear c34
                                        obtain ⟨y390, hy390⟩ : ∃ y_ : List Int, y_ = (y387.set (0 : Int).toNat (((bt a0 x9_3) - 48) % 256)) := ⟨_, rfl⟩
                                        replace H : ((zelligeref01_Mul.f kj22 x6_3 x7_3).bind fun t391 => ((zelligeref01_Add.f kj22 t391 y390).bind fun t394 => (zelligeref01_Parse.l0 kj22 a0 a1 t394 x7_3 x8_18 (wrap64 (x9_3 + 1))))) = some (r1, r2) := by first | (rw [hy390]; with_reducible exact H) | (have H2_ := (Option.bind_some _ _).symm.trans H; rw [hy390]; with_reducible exact H2_) | (have H2_ := (Option.bind_some _ _).symm.trans H; with_reducible exact H2_) | with_reducible exact H | (rw [hy390]; exact H) | exact H
                                        have Ny390 := Aside0.mk hy390
                                        clear hy390
                                        replace H := Option.bind_eq_some_iff.mp H
                                        obtain ⟨t391, A360, H⟩ := H
                                        replace H : ((zelligeref01_Add.f kj22 t391 y390).bind fun t394 => (zelligeref01_Parse.l0 kj22 a0 a1 t394 x7_3 x8_18 (wrap64 (x9_3 + 1)))) = some (r1, r2) := H
                                        have A36 := Aside0.mk A360
                                        clear A360
                                        replace H := Option.bind_eq_some_iff.mp H
                                        obtain ⟨t394, A370, H⟩ := H
                                        replace H : (zelligeref01_Parse.l0 kj22 a0 a1 t394 x7_3 x8_18 (wrap64 (x9_3 + 1))) = some (r1, r2) := H
                                        have A37 := Aside0.mk A370
                                        clear A370
                                        have H' := Aside0.mk H
                                        clear H
                                        go_wp2_with (first | ((with_reducible refine gate_dst (N := 50) rfl ?_); refine Kd.R_make (Kd.int .i64) _ 3 rfl (N := 50) rfl 28 _ _ rfl a1 rfl rfl Try.underlying28 (.int .i64 0) 8 info3 rfl (by decide) (by omega) 0 (ok := fun _ => True) (okp := fun _ => True) rfl (fun _ hk => hk) trivial (of_decide_eq_true (by first | (with_reducible assumption) | assumption)) (Nat.le_trans (Nat.mul_le_mul_right _ (of_decide_eq_true (by first | (with_reducible assumption) | assumption) : a1.toNat ≤ 35184372088832)) (by omega)) (Below.refl _ _) (Nat.le_refl _) ?_; intro v388 w38 ho39 hb hg_ hnew_; clear hg_ hnew_; (first | rw [← Ny387.out] at ho39 | (simp only [Int.reduceToNat] at ho39; rw [← Ny387.out] at ho39)); have n0_ := Aside0.mk (Kd.R_elder' (by (with_reducible repeat (first | apply Kd.R_alloc | apply Kd.R_drewN | apply Kd.R_drew)); exact HO_6.out) (Kd.R_base ho39) hb); have n1_ := Aside0.mk (Kd.R_elder' (by (with_reducible repeat (first | apply Kd.R_alloc | apply Kd.R_drewN | apply Kd.R_drew)); exact HO_7.out) (Kd.R_base ho39) hb); have n2_ := Aside0.mk (Kd.R_lower (Kd.R_new' (Kd.R_new' ho39 (Kd.R_lt (by (with_reducible repeat (first | apply Kd.R_alloc | apply Kd.R_drewN | apply Kd.R_drew)); exact HO_6.out))) (Kd.R_lt (by (with_reducible repeat (first | apply Kd.R_alloc | apply Kd.R_drewN | apply Kd.R_drew)); exact HO_7.out))) (below_size (by repeat (first | (with_reducible first | exact HB.out | apply below_alloc | apply pw_below_drewN | apply below_drew1) | exact HB.out)))); have n3_ := Aside0.mk (below_step (by repeat (first | (with_reducible first | exact HB.out | apply below_alloc | apply pw_below_drewN | apply below_drew1) | exact HB.out)) hb); clear HO_6; clear HO_7; clear HB; have HO_6 := n0_; have HO_7 := n1_; have HO389 := n2_; have HB := n3_; clear n0_ n1_ n2_ n3_; clear hb ho39; have p33 : 0 ≤ (x9_3 : Int) := of_decide_eq_true (by first | (with_reducible assumption) | assumption); have q33 : x9_3 < (a0.size : Int) := of_decide_eq_true (by first | (with_reducible assumption) | assumption); have hx33 := bt_at a0 x9_3; replace p33 := eq_true p33; replace q33 := eq_true q33; have p35 : 0 ≤ (0 : Int) := (by omega); have q35 : (0 : Int) < ((y387.length : Int) : Int) := of_decide_eq_true (by first | (with_reducible assumption) | assumption); have qi35 : (0 < y387.length) = True := eq_true (by omega); obtain ⟨go35, co35, eo35, gb35, gl35, cl35, HG35⟩ := Kd.R_form HO389.out (by omega); (first | cases eo35 | (injection eo35 with ea_ en_ ec_; (first | subst ea_ | (injection ea_ with ea_; subst ea_)); subst ec_; clear en_)); have GB35 := Aside0.mk gb35; have GG35 := Aside0.mk HG35; clear gb35 gl35 HG35; obtain ⟨hx35_0, hf35_0⟩ := Kd.R_celln 0 HO389.out (0 : Int) p35 q35; (try rw [show ((0 : Int)).toNat = 0 from rfl] at hx35_0); (try simp only [Nat.reduceMul, Nat.zero_mul, Nat.zero_add, Nat.reduceAdd] at hx35_0); (try rw [show ((0 : Int)).toNat = 0 from rfl] at hf35_0); (try simp only [Nat.reduceMul, Nat.zero_mul, Nat.zero_add, Nat.reduceAdd] at hf35_0); replace p35 := eq_true p35; replace q35 := eq_true q35; have n_ := Aside0.mk (Kd.R_mono (ok' := (fun k_ => some k_ ≠ (u6 : Value).ownBlock ∧ some k_ ≠ (.slice (some ⟨go6, 0, none⟩) x7_3.length co6 : Value).ownBlock)) HO389.out (fun k_ hk => ⟨hk.1.2, hk.2⟩)); clear HO389; have HO389 := n_; clear n_; obtain ⟨hy40_, hz40_⟩ := Kd.R_celln 0 HO389.out (0 : Int) (by omega) (of_decide_eq_true (by first | (with_reducible assumption) | assumption)); (try simp only [Int.reduceToNat, Int.toNat_zero, Int.toNat_ofNat, Nat.reduceMul, Nat.zero_mul, Nat.zero_add] at hy40_ hz40_); (try rw [show ((0 : Int)).toNat = 0 from rfl] at hy40_); (try rw [show ((0 : Int)).toNat = 0 from rfl] at hz40_); have HP40 := Kd.R_putg HO389.out (0 : Int) (((bt a0 x9_3) - 48) % 256)) | ((with_reducible refine gate_store (t := 3) (p := 57) rfl ?_); refine store_event (t := 3) (p := 57) (v := ?vo_w41) (w1 := (w38.setCell ⟨go35, (0 : Int).toNat, none⟩ (.int .i64 (((bt a0 x9_3) - 48) % 256)))) ?hg ?ho ?hn ?hr ?_; (case ho => rfl); (case hg => rfl); (case hn => rfl); (case hr => first | (go_simp; done) | (go_simp; rfl)); intro w41 hw; have hg : w38.grownBy w41 (some go35) := (by rw [hw]; exact HP40.2); have hp_ : Kd.R (Kd.int .i64) 3 w41 w.heap.size (fun k_ => some k_ ≠ (u6 : Value).ownBlock ∧ some k_ ≠ (.slice (some ⟨go6, 0, none⟩) x7_3.length co6 : Value).ownBlock) (.slice (some ⟨go35, 0, none⟩) y387.length co35) y390 := (by rw [hw, Ny390.out]; exact HP40.1); clear HP40; have n0_ := Aside0.mk (Kd.R_after (v := (.slice (some ⟨go35, 0, none⟩) y387.length co35)) (v1 := (.slice (some ⟨go35, 0, none⟩) y387.length co35)) (ok := (fun k_ => some k_ ≠ (.slice (some ⟨go6, 0, none⟩) x7_3.length co6 : Value).ownBlock)) (by (with_reducible repeat (first | apply Kd.R_alloc | apply Kd.R_drewN | apply Kd.R_drew)); exact HO_6.out) hg (.inl rfl)); have n1_ := Aside0.mk (Kd.R_after (v := (.slice (some ⟨go35, 0, none⟩) y387.length co35)) (v1 := (.slice (some ⟨go35, 0, none⟩) y387.length co35)) (ok := (fun k_ => some k_ ≠ (u6 : Value).ownBlock)) (by (with_reducible repeat (first | apply Kd.R_alloc | apply Kd.R_drewN | apply Kd.R_drew)); exact HO_7.out) hg (.inl rfl)); have n2_ := Aside0.mk (hp_); have n3_ := Aside0.mk ((by rw [hw]; exact below_set (HB.out) GB35.out : Below w.heap.size w w41)); clear HO_6; clear HO_7; clear HO389; clear HB; have HO_6 := n0_; have HO_7 := n1_; have HO389 := n2_; have HB := n3_; clear n0_ n1_ n2_ n3_; clear hg hw hp_; obtain ⟨Ao42, co42, eo42⟩ := Kd.R_slice HO_6.out; subst eo42) | ((with_reducible refine gate_callee (f := 14) rfl ?_); refine goesL_ (some 60) rfl rfl Try.func14 (by kernel_rfl) rfl #[.slice Ao42 x6_3.length co42, .slice (some ⟨go6, 0, none⟩) x7_3.length co6] rfl (by (try simp only [List.map_toArray, List.map_cons, List.map_nil]); first | done | rfl | (simp only [List.length_drop, List.length_take]; rfl)) ?_; (with_reducible refine (zelligeref01_Mul.calls kj22 _ _ x6_3 _ _ x7_3 t391 _ ?side1 ?side2 ?side3 ?side4 A36.out).mono ?_); (case side1 => repeat (first | exact (Kd.R_reads' HO_6.out).2.2 | (with_reducible refine Kd.C_alloc ?_ _) | (with_reducible refine Kd.C_drewN ?_ _) | (with_reducible refine Kd.C_drew ?_))); (case side2 => exact (Kd.R_reads' HO_6.out).2.1); (case side3 => repeat (first | exact (Kd.R_reads' HO_7.out).2.2 | (with_reducible refine Kd.C_alloc ?_ _) | (with_reducible refine Kd.C_drewN ?_ _) | (with_reducible refine Kd.C_drew ?_))); (case side4 => exact (Kd.R_reads' HO_7.out).2.1); rintro e w43 ⟨v392, rfl, ho0, hb⟩; refine ⟨_, rfl, ?_⟩; have n0_ := Aside0.mk (Kd.R_elder' (by (with_reducible repeat (first | apply Kd.R_alloc | apply Kd.R_drewN | apply Kd.R_drew)); exact HO_6.out) (Kd.R_base ho0) hb); have n1_ := Aside0.mk (Kd.R_elder' (by (with_reducible repeat (first | apply Kd.R_alloc | apply Kd.R_drewN | apply Kd.R_drew)); exact HO_7.out) (Kd.R_base ho0) hb); have n2_ := Aside0.mk (Kd.R_elder' (by (with_reducible repeat (first | apply Kd.R_alloc | apply Kd.R_drewN | apply Kd.R_drew)); exact HO389.out) (Kd.R_base ho0) hb); have n3_ := Aside0.mk (Kd.R_lower (Kd.R_new' (Kd.R_new' (Kd.R_new' ho0 (Kd.R_lt (by (with_reducible repeat (first | apply Kd.R_alloc | apply Kd.R_drewN | apply Kd.R_drew)); exact HO_6.out))) (Kd.R_lt (by (with_reducible repeat (first | apply Kd.R_alloc | apply Kd.R_drewN | apply Kd.R_drew)); exact HO_7.out))) (Kd.R_lt (by (with_reducible repeat (first | apply Kd.R_alloc | apply Kd.R_drewN | apply Kd.R_drew)); exact HO389.out))) (below_size (by repeat (first | (with_reducible first | exact HB.out | apply below_alloc | apply pw_below_drewN | apply below_drew1) | exact HB.out)))); have n4_ := Aside0.mk (below_step (by repeat (first | (with_reducible first | exact HB.out | apply below_alloc | apply pw_below_drewN | apply below_drew1) | exact HB.out)) hb); clear HO_6; clear HO_7; clear HO389; clear HB; have HO_6 := n0_; have HO_7 := n1_; have HO389 := n2_; have HO393 := n3_; have HB := n4_; clear n0_ n1_ n2_ n3_ n4_; (try clear hb); (try clear hb2); (try clear hk); (try clear hi); (try clear ho0); obtain ⟨Ao44, co44, eo44⟩ := Kd.R_slice HO393.out; subst eo44) | ((with_reducible refine gate_callee (f := 18) rfl ?_); refine goesL_ (some 62) rfl rfl Try.func18 (by kernel_rfl) rfl #[.slice Ao44 t391.length co44, .slice (some ⟨go35, 0, none⟩) y390.length co35] rfl (by (try simp only [List.map_toArray, List.map_cons, List.map_nil]); first | done | (rw [show y390.length = y387.length from (Kd.R_reads' HO389.out).1.symm] <;> rfl) | rfl | (simp only [List.length_drop, List.length_take]; rfl)) ?_; (with_reducible refine (zelligeref01_Add.calls kj22 _ _ t391 _ _ y390 t394 _ ?side1 ?side2 ?side3 ?side4 A37.out).mono ?_); (case side1 => repeat (first | exact (Kd.R_reads' HO393.out).2.2 | (with_reducible refine Kd.C_alloc ?_ _) | (with_reducible refine Kd.C_drewN ?_ _) | (with_reducible refine Kd.C_drew ?_))); (case side2 => exact (Kd.R_reads' HO393.out).2.1); (case side3 => repeat (first | exact (Kd.R_reads' HO389.out).2.2 | (with_reducible refine Kd.C_alloc ?_ _) | (with_reducible refine Kd.C_drewN ?_ _) | (with_reducible refine Kd.C_drew ?_))); (case side4 => rw [show y390.length = y387.length from (Kd.R_reads' HO389.out).1.symm]; exact (Kd.R_reads' HO389.out).2.1); rintro e w45 ⟨v395, rfl, ho0, hb⟩; refine ⟨_, rfl, ?_⟩; have n0_ := Aside0.mk (Kd.R_elder' (by (with_reducible repeat (first | apply Kd.R_alloc | apply Kd.R_drewN | apply Kd.R_drew)); exact HO_6.out) (Kd.R_base ho0) hb); have n1_ := Aside0.mk (Kd.R_elder' (by (with_reducible repeat (first | apply Kd.R_alloc | apply Kd.R_drewN | apply Kd.R_drew)); exact HO_7.out) (Kd.R_base ho0) hb); have n2_ := Aside0.mk (Kd.R_elder' (by (with_reducible repeat (first | apply Kd.R_alloc | apply Kd.R_drewN | apply Kd.R_drew)); exact HO389.out) (Kd.R_base ho0) hb); have n3_ := Aside0.mk (Kd.R_elder' (by (with_reducible repeat (first | apply Kd.R_alloc | apply Kd.R_drewN | apply Kd.R_drew)); exact HO393.out) (Kd.R_base ho0) hb); have n4_ := Aside0.mk (Kd.R_lower (Kd.R_new' (Kd.R_new' (Kd.R_new' (Kd.R_new' ho0 (Kd.R_lt (by (with_reducible repeat (first | apply Kd.R_alloc | apply Kd.R_drewN | apply Kd.R_drew)); exact HO_6.out))) (Kd.R_lt (by (with_reducible repeat (first | apply Kd.R_alloc | apply Kd.R_drewN | apply Kd.R_drew)); exact HO_7.out))) (Kd.R_lt (by (with_reducible repeat (first | apply Kd.R_alloc | apply Kd.R_drewN | apply Kd.R_drew)); exact HO389.out))) (Kd.R_lt (by (with_reducible repeat (first | apply Kd.R_alloc | apply Kd.R_drewN | apply Kd.R_drew)); exact HO393.out))) (below_size (by repeat (first | (with_reducible first | exact HB.out | apply below_alloc | apply pw_below_drewN | apply below_drew1) | exact HB.out)))); have n5_ := Aside0.mk (below_step (by repeat (first | (with_reducible first | exact HB.out | apply below_alloc | apply pw_below_drewN | apply below_drew1) | exact HB.out)) hb); clear HO_6; clear HO_7; clear HO389; clear HO393; clear HB; have HO_6 := n0_; have HO_7 := n1_; have HO389 := n2_; have HO393 := n3_; have HO396 := n4_; have HB := n5_; clear n0_ n1_ n2_ n3_ n4_ n5_; (try clear hb); (try clear hb2); (try clear hk); (try clear hi); (try clear ho0)))
                                        (try simp only [← hl7_3])
                                        go_roundg kj22
                                        case measure => have := HJ6.out; have := HJ18.out; have := HK3.out; have := HJ22.out; omega
                                        case rel => exact ⟨(t394), (x7_3), (wrap64 (x9_3 + 1)), (by first | rfl | (simp; done) | (simp [*]; done)), H', ⟨by have := HJ6.out; have := HJ18.out; have := HK3.out; have := HJ22.out; omega⟩, ⟨by (try simp only [hl7_6]); (try simp only [hl7_3]); (with_reducible repeat (first | apply Kd.R_alloc | apply Kd.R_drewN | apply Kd.R_drew)); exact Kd.R_mono HO396.out (fun _ hk => hk.1.1.2)⟩, ⟨by (try simp only [hl7_6]); (try simp only [hl7_3]); (with_reducible repeat (first | apply Kd.R_alloc | apply Kd.R_drewN | apply Kd.R_drew)); exact Kd.R_mono HO_7.out (fun _ hk => hk.2)⟩, ⟨by repeat (first | (with_reducible first | exact HB.out | apply below_alloc | apply pw_below_drewN | apply below_drew1) | exact HB.out)⟩⟩
                                      · rw [if_neg c34] at H
                                        exact absurd H (by simp)
                                    · rw [if_neg c32] at H
                                      exact absurd H (by simp)
                                  · rw [if_neg c31] at H
                                    exact absurd H (by simp)
                                · rw [if_neg c30] at H
                                  exact absurd H (by simp)
                              · rw [if_neg c29] at H
                                exact absurd H (by simp)
                      · rw [if_neg c22] at H
                        have c22b0 : decide (x9_3 < (a0.size : Int)) = false := decide_eq_false c22
                        clear c22
                        by_cases c46 : x8_18 = 1
                        · rw [if_pos c46] at H
                          have c46b0 : (x8_18 == 1) = true := beq_iff_eq.mpr c46
                          have c46b1 : (x8_18 != 1) = false := bne_eq_false_iff_eq.mpr c46
                          clear c46
                          replace H := Option.bind_eq_some_iff.mp H
                          obtain ⟨t397, A470, H⟩ := H
                          replace H : ((zelligeref01_Show.f k3 t397).bind fun t400 => (some (t397, (t400.toList == a0.toList)))) = some (r1, r2) := H
                          have A47 := Aside0.mk A470
                          clear A470
                          replace H := Option.bind_eq_some_iff.mp H
                          obtain ⟨t400, A480, H⟩ := H
                          replace H : (some (t397, (t400.toList == a0.toList))) = some (r1, r2) := H
                          have A48 := Aside0.mk A480
                          clear A480
                          simp only [Option.some.injEq, Prod.mk.injEq] at H
                          obtain ⟨rfl, rfl⟩ := H
                          obtain ⟨Ao49, co49, eo49⟩ := Kd.R_slice HO_6.out
                          subst eo49
                          go_wp2_with (first | ((with_reducible refine gate_callee (f := 20) rfl ?_); refine goesL_ (some 66) rfl rfl Try.func20 (by kernel_rfl) rfl #[.slice Ao49 x6_3.length co49] rfl (by (try simp only [List.map_toArray, List.map_cons, List.map_nil]); first | done | rfl | (simp only [List.length_drop, List.length_take]; rfl)) ?_; (with_reducible refine (zelligeref01_Neg.calls k3 _ _ x6_3 t397 _ ?side1 ?side2 A47.out).mono ?_); (case side1 => repeat (first | exact (Kd.R_reads' HO_6.out).2.2 | (with_reducible refine Kd.C_alloc ?_ _) | (with_reducible refine Kd.C_drewN ?_ _) | (with_reducible refine Kd.C_drew ?_))); (case side2 => exact (Kd.R_reads' HO_6.out).2.1); rintro e w50 ⟨v398, rfl, ho0, hb⟩; refine ⟨_, rfl, ?_⟩; have n0_ := Aside0.mk (Kd.R_elder' (by (with_reducible repeat (first | apply Kd.R_alloc | apply Kd.R_drewN | apply Kd.R_drew)); exact HO_6.out) (Kd.R_base ho0) hb); have n1_ := Aside0.mk (Kd.R_elder' (by (with_reducible repeat (first | apply Kd.R_alloc | apply Kd.R_drewN | apply Kd.R_drew)); exact HO_7.out) (Kd.R_base ho0) hb); have n2_ := Aside0.mk (Kd.R_lower (Kd.R_new' (Kd.R_new' ho0 (Kd.R_lt (by (with_reducible repeat (first | apply Kd.R_alloc | apply Kd.R_drewN | apply Kd.R_drew)); exact HO_6.out))) (Kd.R_lt (by (with_reducible repeat (first | apply Kd.R_alloc | apply Kd.R_drewN | apply Kd.R_drew)); exact HO_7.out))) (below_size (by repeat (first | (with_reducible first | exact HB.out | apply below_alloc | apply pw_below_drewN | apply below_drew1) | exact HB.out)))); have n3_ := Aside0.mk (below_step (by repeat (first | (with_reducible first | exact HB.out | apply below_alloc | apply pw_below_drewN | apply below_drew1) | exact HB.out)) hb); clear HO_6; clear HO_7; clear HB; have HO_6 := n0_; have HO_7 := n1_; have HO399 := n2_; have HB := n3_; clear n0_ n1_ n2_ n3_; (try clear hb); (try clear hb2); (try clear hk); (try clear hi); (try clear ho0); obtain ⟨Ao51, co51, eo51⟩ := Kd.R_slice HO399.out; subst eo51) | ((with_reducible refine gate_callee (f := 29) rfl ?_); refine goesL_ (some 69) rfl rfl Try.func29 (by kernel_rfl) rfl #[.slice Ao51 t397.length co51] rfl (by (try simp only [List.map_toArray, List.map_cons, List.map_nil]); first | done | rfl | (simp only [List.length_drop, List.length_take]; rfl)) ?_; (with_reducible refine (zelligeref01_Show.calls k3 _ _ t397 t400 _ ?side1 ?side2 A48.out).mono ?_); (case side1 => repeat (first | exact (Kd.R_reads' HO399.out).2.2 | (with_reducible refine Kd.C_alloc ?_ _) | (with_reducible refine Kd.C_drewN ?_ _) | (with_reducible refine Kd.C_drew ?_))); (case side2 => exact (Kd.R_reads' HO399.out).2.1); rintro e w52 ⟨rfl, hb⟩; refine ⟨_, rfl, ?_⟩; have n0_ := Aside0.mk (Kd.R_below (by (with_reducible repeat (first | apply Kd.R_alloc | apply Kd.R_drewN | apply Kd.R_drew)); exact HO_6.out) hb); have n1_ := Aside0.mk (Kd.R_below (by (with_reducible repeat (first | apply Kd.R_alloc | apply Kd.R_drewN | apply Kd.R_drew)); exact HO_7.out) hb); have n2_ := Aside0.mk (Kd.R_below (by (with_reducible repeat (first | apply Kd.R_alloc | apply Kd.R_drewN | apply Kd.R_drew)); exact HO399.out) hb); have n3_ := Aside0.mk (below_step (by repeat (first | (with_reducible first | exact HB.out | apply below_alloc | apply pw_below_drewN | apply below_drew1) | exact HB.out)) hb); clear HO_6; clear HO_7; clear HO399; clear HB; have HO_6 := n0_; have HO_7 := n1_; have HO399 := n2_; have HB := n3_; clear n0_ n1_ n2_ n3_; (try clear hb); (try clear hb2); (try clear hk); (try clear hi)))
                          go_ret2
                          exact ⟨_, by first | rfl | (simp [errW_none, errW_some] <;> rfl) | (simp [*, errW_none, errW_some] <;> rfl), by (with_reducible repeat (first | apply Kd.R_alloc | apply Kd.R_drewN | apply Kd.R_drew)); exact Kd.R_mono HO399.out (fun _ hk => trivial), by repeat (first | (with_reducible first | exact HB.out | apply below_alloc | apply pw_below_drewN | apply below_drew1) | exact HB.out)⟩
                        · rw [if_neg c46] at H
                          have c46b0 : (x8_18 == 1) = false := beq_eq_false_iff_ne.mpr c46
                          have c46b1 : (x8_18 != 1) = true := bne_iff_ne.mpr c46
                          replace H := Option.bind_eq_some_iff.mp H
                          obtain ⟨t401, A530, H⟩ := H
                          replace H : (some (x6_3, (t401.toList == a0.toList))) = some (r1, r2) := H
                          have A53 := Aside0.mk A530
                          clear A530
                          simp only [Option.some.injEq, Prod.mk.injEq] at H
                          obtain ⟨rfl, rfl⟩ := H
                          obtain ⟨Ao54, co54, eo54⟩ := Kd.R_slice HO_6.out
                          subst eo54
                          go_wp2_with (first | ((with_reducible refine gate_callee (f := 29) rfl ?_); refine goesL_ (some 69) rfl rfl Try.func29 (by kernel_rfl) rfl #[.slice Ao54 x6_3.length co54] rfl (by (try simp only [List.map_toArray, List.map_cons, List.map_nil]); first | done | rfl | (simp only [List.length_drop, List.length_take]; rfl)) ?_; (with_reducible refine (zelligeref01_Show.calls k3 _ _ x6_3 t401 _ ?side1 ?side2 A53.out).mono ?_); (case side1 => repeat (first | exact (Kd.R_reads' HO_6.out).2.2 | (with_reducible refine Kd.C_alloc ?_ _) | (with_reducible refine Kd.C_drewN ?_ _) | (with_reducible refine Kd.C_drew ?_))); (case side2 => exact (Kd.R_reads' HO_6.out).2.1); rintro e w55 ⟨rfl, hb⟩; refine ⟨_, rfl, ?_⟩; have n0_ := Aside0.mk (Kd.R_below (by (with_reducible repeat (first | apply Kd.R_alloc | apply Kd.R_drewN | apply Kd.R_drew)); exact HO_6.out) hb); have n1_ := Aside0.mk (Kd.R_below (by (with_reducible repeat (first | apply Kd.R_alloc | apply Kd.R_drewN | apply Kd.R_drew)); exact HO_7.out) hb); have n2_ := Aside0.mk (below_step (by repeat (first | (with_reducible first | exact HB.out | apply below_alloc | apply pw_below_drewN | apply below_drew1) | exact HB.out)) hb); clear HO_6; clear HO_7; clear HB; have HO_6 := n0_; have HO_7 := n1_; have HB := n2_; clear n0_ n1_ n2_; (try clear hb); (try clear hb2); (try clear hk); (try clear hi)))
                          go_ret2
                          exact ⟨_, by first | rfl | (simp [errW_none, errW_some] <;> rfl) | (simp [*, errW_none, errW_some] <;> rfl), by (with_reducible repeat (first | apply Kd.R_alloc | apply Kd.R_drewN | apply Kd.R_drew)); exact Kd.R_mono HO_6.out (fun _ hk => trivial), by repeat (first | (with_reducible first | exact HB.out | apply below_alloc | apply pw_below_drewN | apply below_drew1) | exact HB.out)⟩
      · rw [if_neg c5] at H
        exact absurd H (by simp)
    · rw [if_neg c4] at H
      exact absurd H (by simp)
  · rw [if_neg c3] at H
    exact absurd H (by simp)

end Go.Proofs.Ytbccokfdkieakaa.F
end

section
/- The reference's reading of a text (Parse): what it answers next to wide's. -/
namespace Go.Proofs.Ytbccokfdkieakaa.Wd
open Go Go.RowKit Go.Proofs.YtbccokfdkieakaaW.PrintWords Go.Proofs.Ytbccokfdkieakaa.F Go.Proofs.Ytbccokfdkieakaa.D8
set_option linter.unusedVariables false
attribute [local irreducible] val P
theorem svw {m : Int} {l : List Int} (hl : l.length = 16) (hD : Dg l) (hv : val l % P 16 = m % P 16) : sv l = wv (whi m) (wlo m) ∧ whi (val l) = whi m ∧ wlo (val l) = wlo m := by
  have ok := wok_of m
  have b := wv_le ok
  have z := val_nonneg hD
  have z2 := val_lt hD
  obtain ⟨t2, e2⟩ := wv_of m
  refine ⟨?_, modc hv⟩
  rw [hl, P16] at z2
  rw [P16] at hv
  unfold sv
  rw [hl, P16]
  generalize wv (whi m) (wlo m) = W at *
  generalize val l = V at *
  by_cases k : 2 * V < 340282366920938463463374607431768211456
  · rw [if_pos k]; omega
  · rw [if_neg k]; omega
def zr : List Int := List.replicate 16 0
def tn : List Int := zr.set 0 10
theorem zr_ok : zr.length = 16 ∧ Dg zr ∧ val zr = 0 := ⟨List.length_replicate, Dg_rep 16, val_rep 16⟩
theorem one_ok (x : Int) (h : 0 ≤ x) (h' : x < 256) : (zr.set 0 x).length = 16 ∧ Dg (zr.set 0 x) ∧ val (zr.set 0 x) = x := by
  obtain ⟨z1, z2, z3⟩ := zr_ok
  refine ⟨by rw [List.length_set, z1], Dg_set z2 h h', ?_⟩
  rw [val_set (by omega), z3, show P 0 = 1 by rw [P], show zr.getD 0 0 = 0 from rfl]
  omega
def fr (s : ByteArray) : Int := if ng s = true then 1 else 0
theorem rp (s : ByteArray) (hs : s.size ≤ 48) : ∀ (d k i : Nat) (n : Int) (l : List Int), s.size - i = d → i ≤ s.size → 2000100 + 2 * d ≤ k → l.length = 16 → Dg l → val l % P 16 = n % P 16 →
    ∃ l', l'.length = 16 ∧ Dg l' ∧ (hn s d i n = none → zelligeref01_Parse.l0 k s 16 l tn (fr s) (i : Int) = some (l', false)) ∧
      ∀ m, hn s d i n = some m → (whi (val l') = whi (sg s m) ∧ wlo (val l') = wlo (sg s m)) ∧ zelligeref01_Parse.l0 k s 16 l tn (fr s) (i : Int) = some (l', (wt (sg s m)).toList == s.toList) := by
  intro d
  induction d with
  | zero =>
    intro k i n l hd hi hk hl hD hv
    obtain ⟨k, rfl⟩ : ∃ m, k = m + 1 := ⟨k - 1, by omega⟩
    rw [zelligeref01_Parse.l0, if_neg (by omega), hn]
    by_cases c : ng s = true
    · obtain ⟨r, r1, r2, r3, r4⟩ := neg_f hD (by omega) (by omega) (k := k) (by omega)
      rw [hl] at r2 r4
      have e : sg s n = -n := if_pos c
      have hv2 : val r % P 16 = (-n) % P 16 := by
        rw [r4, P16]
        rw [P16] at hv
        generalize val l = V at hv ⊢
        omega
      obtain ⟨v1, v2⟩ := svw r2 r3 hv2
      refine ⟨r, r2, r3, fun h => (by cases h), fun m hm => ?_⟩
      obtain rfl := Option.some.inj hm
      rw [e]
      refine ⟨v2, ?_⟩
      rw [if_pos (show fr s = 1 from if_pos c), r1, Option.bind_some, rshow_f r2 r3 (by omega), Option.bind_some, v1]
      rfl
    · have e : sg s n = n := if_neg c
      obtain ⟨v1, v2⟩ := svw hl hD hv
      refine ⟨l, hl, hD, fun h => (by cases h), fun m hm => ?_⟩
      obtain rfl := Option.some.inj hm
      rw [e]
      refine ⟨v2, ?_⟩
      rw [if_neg (show ¬ fr s = 1 by unfold fr; rw [if_neg c]; omega), rshow_f hl hD (by omega), Option.bind_some, v1]
      rfl
  | succ d ih =>
    intro k i n l hd hi hk hl hD hv
    obtain ⟨k, rfl⟩ : ∃ m, k = m + 1 + 1 := ⟨k - 2, by omega⟩
    obtain ⟨b0, b1⟩ := bt_range s (i : Int)
    rw [zelligeref01_Parse.l0, if_pos (by omega), if_pos (by omega), hn]
    have no : ¬ (48 ≤ bt s (i : Int) ∧ bt s (i : Int) ≤ 57) → ∀ b : Bool, b = true → (if 48 ≤ bt s (i : Int) ∧ bt s (i : Int) ≤ 57 then hn s d (i + 1) (10 * n + (bt s (i : Int) - 48)) else none) = none ∧ zelligeref01_Parse.j3 (k + 1) s 16 l tn (fr s) (i : Int) b = some (l, false) := by
      intro c b hb
      rw [zelligeref01_Parse.j3, if_pos hb, if_neg c]
      exact ⟨rfl, rfl⟩
    by_cases c : bt s (i : Int) < 48
    · rw [if_pos c]
      obtain ⟨n1, n2⟩ := no (by omega) true rfl
      rw [n1, n2]
      exact ⟨l, hl, hD, fun _ => rfl, fun m hm => by cases hm⟩
    · rw [if_neg c]
      by_cases c2 : bt s (i : Int) > 57
      · obtain ⟨n1, n2⟩ := no (by omega) _ (decide_eq_true c2)
        rw [n1, n2]
        exact ⟨l, hl, hD, fun _ => rfl, fun m hm => by cases hm⟩
      · have e3 := Aside0.mk (show wrap64 ((i : Int) + 1) = ((i + 1 : Nat) : Int) by rw [D8.w64 (by omega) (by omega)]; omega)
        have e4 : (bt s (i : Int) - 48) % 256 = bt s (i : Int) - 48 := by omega
        obtain ⟨z1, z2, z3⟩ := zr_ok
        obtain ⟨t1, t2, t3⟩ := one_ok 10 (by omega) (by omega)
        obtain ⟨o1, o2, o3⟩ := one_ok (bt s (i : Int) - 48) (by omega) (by omega)
        obtain ⟨p, p1, p2, p3, p4⟩ := mul_f (b := tn) hD t2 (by rw [hl]; exact t1.symm) (by omega) (k := k) (by omega)
        rw [hl] at p2 p4
        obtain ⟨q, q1, q2, q3, q4⟩ := add_f (b := zr.set 0 (bt s (i : Int) - 48)) p3 o2 (by omega) (by omega) (k := k) (by omega)
        rw [p2] at q2 q4
        rw [o3] at q4
        rw [show val tn = 10 from t3] at p4
        have hq : val q % P 16 = (10 * n + (bt s (i : Int) - 48)) % P 16 := by
          rw [q4, p4]
          rw [P16] at hv ⊢
          generalize val l = V at hv ⊢
          generalize bt s (i : Int) = B
          omega
        rw [if_pos (show 48 ≤ bt s (i : Int) ∧ bt s (i : Int) ≤ 57 by omega), decide_eq_false c2, zelligeref01_Parse.j3, if_neg (by decide), if_pos (by omega), if_pos (by decide), Option.bind_some, if_pos (by omega), if_pos (by omega),
          if_pos (by rw [List.length_replicate]; decide), p1, Option.bind_some, e4]
        rw [show (List.replicate (Int.toNat 16) (0 : Int)).set (Int.toNat 0) (bt s (i : Int) - 48) = zr.set 0 (bt s (i : Int) - 48) from rfl, q1, Option.bind_some, e3.out]
        exact ih k (i + 1) _ q (by omega) (by omega) (by omega) q2 q3 hq
theorem ng_if (s : ByteArray) : (if ng s = true then (1 : Nat) else 0) = off s := rfl
theorem rparse_f (s : ByteArray) (hs : s.size ≤ 200) (k : Nat) (hk : 2000300 ≤ k) : (48 < s.size → zelligeref01_Parse.f k s 16 = some (zr, false)) ∧ (s.size ≤ 48 →
    ∃ l', l'.length = 16 ∧ Dg l' ∧ (hn s (s.size - off s) (off s) 0 = none → zelligeref01_Parse.f k s 16 = some (l', false)) ∧
      ∀ m, hn s (s.size - off s) (off s) 0 = some m → (whi (val l') = whi (sg s m) ∧ wlo (val l') = wlo (sg s m)) ∧ zelligeref01_Parse.f k s 16 = some (l', (wt (sg s m)).toList == s.toList)) := by
  obtain ⟨k, rfl⟩ : ∃ m, k = m + 1 + 1 := ⟨k - 2, by omega⟩
  have w48 := Aside0.mk (show wrap64 (3 * 16) = 48 by rw [D8.w64 (by omega) (by omega)]; omega)
  have key : zelligeref01_Parse.f (k + 1 + 1) s 16 = if (s.size : Int) > 48 then some (zr, false) else zelligeref01_Parse.l0 k s 16 zr tn (fr s) (fr s) := by
    have j0 : ∀ b : Bool, b = ng s → zelligeref01_Parse.j0 (k + 1 + 1) s 16 zr tn 0 b = if (s.size : Int) > 48 then some (zr, false) else zelligeref01_Parse.l0 k s 16 zr tn (fr s) (fr s) := by
      intro b hb
      rw [zelligeref01_Parse.j0, zelligeref01_Parse.j1, zelligeref01_Parse.j1, w48.out, hb]
      unfold fr
      by_cases c : ng s = true
      · rw [if_pos c, if_pos c]
      · rw [if_neg c, if_neg c]
    unfold zelligeref01_Parse.f
    rw [if_pos (by omega), if_pos (by decide), Option.bind_some, Option.bind_some, if_pos (by rw [List.length_replicate]; decide), Option.bind_some]
    by_cases c : (s.size : Int) > 0
    · rw [if_pos c, if_pos c]
      refine j0 _ ?_
      unfold ng
      rw [Bool.eq_iff_iff, beq_iff_eq, decide_eq_true_iff]
      exact ⟨fun h => ⟨by omega, h⟩, fun h => h.2⟩
    · rw [if_neg c]
      refine j0 _ ?_
      unfold ng
      rw [decide_eq_false (fun h => c (by omega))]
  rw [key]
  refine ⟨fun h => if_pos (by omega), fun h => ?_⟩
  rw [if_neg (by omega)]
  have ho : off s ≤ s.size ∧ fr s = (off s : Int) := by
    unfold off fr
    by_cases c : ng s = true
    · have : 0 < s.size := by unfold ng at c; exact (of_decide_eq_true c).1
      rw [if_pos c, if_pos c]; omega
    · rw [if_neg c, if_neg c]; omega
  obtain ⟨z1, z2, z3⟩ := zr_ok
  have := rp s h (s.size - off s) k (off s) 0 zr rfl ho.1 (by omega) z1 z2 (by rw [z3])
  rw [← ho.2] at this
  exact this
end Go.Proofs.Ytbccokfdkieakaa.Wd
end

section
namespace Go.Proofs.Ytbccokfdkieakaa.F
open Go.RowKit Go.Proofs.YtbccokfdkieakaaW.PrintWords Go.Proofs.YtbccokfdkieakaaW.PrintLast Go.Proofs.YtbccokfdkieakaaW.PrintMore
attribute [local go_sem] max2_int min2_int max_two min_two max_three min_three max_four min_four   -- for this text's walks alone
set_option linter.unusedVariables false
set_option linter.unusedSimpArgs false

theorem eqA24 (d : Nat) (w : World) (x0 y0 : Int) (x1 y1 : Int) :
    (Op.equalIn (d + 2) 24 (.agg #[.int .i64 x0, .int .u64 x1]) (.agg #[.int .i64 y0, .int .u64 y1])).run Try.prog w = .ok (x0 == y0 && (x1 == y1)) w := by
  refine eqA_of Try.underlying24 (by kernel_rfl) ?_
  refine eqf_cons (by rfl) (by go_simp; rfl) (by go_simp; rfl) (by go_simp) ?_
  exact eqf_last (by rfl) (by go_simp; rfl) (by go_simp; rfl) (by go_simp)
end Go.Proofs.Ytbccokfdkieakaa.F
end

section
namespace Go.Proofs.Ytbccokfdkieakaa.F
open Go.RowKit Go.Proofs.YtbccokfdkieakaaW.PrintWords Go.Proofs.YtbccokfdkieakaaW.PrintLast Go.Proofs.YtbccokfdkieakaaW.PrintMore
attribute [local go_sem] max2_int min2_int max_two min_two max_three min_three max_four min_four   -- for this text's walks alone
set_option linter.unusedVariables false
set_option linter.unusedSimpArgs false

attribute [local go_sem high] eqA24
/-! OnlyTrue ### zelligelaw01_WideParses: function 10 -/
def zelligelaw01_WideParses.j0 : Nat → ByteArray → Option (Bool)
  | 0, _ => none
  | k + 1, x0 => (wide_Parse.f k x0).bind fun bt402 => ((zelligeref01_Parse.f k x0 16).bind fun bt406 => (if bt406.2 = true then ((zelligeref01_Wide.f k bt406.1).bind fun bt410 => (if (bt402.1 == bt410.1 && (bt402.2.1 == bt410.2)) = true then (if bt402.2.2 = 0 then ((zelligelaw01_lives.f).bind fun t412 => (some t412)) else (some false)) else (some false))) else (if (bt402.1 == 0 && (bt402.2.1 == 0)) = true then (if bt402.2.2 = 4 then ((zelligelaw01_lives.f).bind fun t413 => (some t413)) else (some false)) else (some false))))
def zelligelaw01_WideParses.f (k : Nat) (a0 : ByteArray) : Option (Bool) := if (a0.size : Int) > 200 then (if 0 ≤ 200 then (if 200 ≤ (a0.size : Int) then (zelligelaw01_WideParses.j0 k (a0.extract 0 200)) else (none)) else (none)) else (zelligelaw01_WideParses.j0 k a0)
theorem zelligelaw01_WideParses.mono_l : ∀ k, (∀ y0, LeO (zelligelaw01_WideParses.j0 k y0) (zelligelaw01_WideParses.j0 (k + 1) y0))
  | 0 => fun _ r h => by simp [zelligelaw01_WideParses.j0] at h
  | k + 1 => by
    have ih0 := zelligelaw01_WideParses.mono_l k
    · intro y0
      unfold zelligelaw01_WideParses.j0
      repeat' first
      | (with_reducible exact ih0 _)
      | (with_reducible exact wide_Parse.mono _ _)
      | (with_reducible exact zelligeref01_Parse.mono _ _ _)
      | (with_reducible exact zelligeref01_Wide.mono _ _)
      | (with_reducible exact LeO.refl _)
      | (with_reducible exact LeO.none _)
      | (with_reducible refine LeO.ite ?_ ?_)
      | (with_reducible refine LeO.bind ?_ (fun _ => ?_))
      | exact ih0 _
      | exact wide_Parse.mono _ _
      | exact zelligeref01_Parse.mono _ _ _
      | exact zelligeref01_Wide.mono _ _
      | exact LeO.none _
      | refine LeO.ite ?_ ?_
      | refine LeO.bind ?_ (fun _ => ?_)
theorem zelligelaw01_WideParses.mono : ∀ a0 k, LeO (zelligelaw01_WideParses.f k a0) (zelligelaw01_WideParses.f (k + 1) a0) := by
  intro a0 k
  have ih0 := zelligelaw01_WideParses.mono_l k
  unfold zelligelaw01_WideParses.f
  repeat' first
      | (with_reducible exact ih0 _)
      | (with_reducible exact wide_Parse.mono _ _)
      | (with_reducible exact zelligeref01_Parse.mono _ _ _)
      | (with_reducible exact zelligeref01_Wide.mono _ _)
      | (with_reducible exact LeO.refl _)
      | (with_reducible exact LeO.none _)
      | (with_reducible refine LeO.ite ?_ ?_)
      | (with_reducible refine LeO.bind ?_ (fun _ => ?_))
      | exact ih0 _
      | exact wide_Parse.mono _ _
      | exact zelligeref01_Parse.mono _ _ _
      | exact zelligeref01_Wide.mono _ _
      | exact LeO.none _
      | refine LeO.ite ?_ ?_
      | refine LeO.bind ?_ (fun _ => ?_)
def zelligelaw01_WideParses.T5 : Bool × List (List Nat × List Nat) := (true, [([], []), ([0], [0]), ([1], [1]), ([1], [1]), ([3, 1, 1], [1, 3]), ([2, 4, 1], [1, 2, 4]), ([1, 5], [1, 5]), ([6, 4], [6]), ([7], [7]), ([8, 7], [7, 8]), ([7, 9], [7, 9]), ([10, 7], [10]), ([11], [11]), ([12, 11], [11, 12]), ([13, 11, 11], [11, 13]), ([14], [14]), ([14], [14]), ([15, 16, 14], [14, 15, 16]), ([14, 17, 11], [11, 14, 17]), ([18, 14, 11], [11, 18]), ([19], [19]), ([20, 19], [19, 20]), ([19, 21, 11], [11, 19, 21]), ([11, 22], [11, 22]), ([23, 19], [23]), ([24, 24], [24]), ([24, 25], [24, 25]), ([26, 25, 0, 1, 2, 3, 4, 5, 6, 7, 8, 9, 10, 11, 12, 13, 14, 15, 16, 17, 18, 19, 20, 21, 22, 23, 24, 25, 26], [26])])
def zelligelaw01_WideParses.B5 : List Nat := [0, 1, 3, 3, 11, 31, 63, 127, 255, 511, 1023, 2047, 4095, 8191, 16383, 32767, 32767, 131071, 262143, 524287, 1048575, 2097151, 4194303, 8388607, 16777215, 33554431, 67108863, 134217727]
theorem zelligelaw01_WideParses.tab5 : rtab .any (opsOf Try.f10 5) = zelligelaw01_WideParses.T5 := by kernel_rfl
theorem zelligelaw01_WideParses.bits5 : waitsOk zelligelaw01_WideParses.T5.2 zelligelaw01_WideParses.B5 = true := by kernel_rfl
set_option maxHeartbeats 8000000 in
set_option maxRecDepth 100000 in
theorem zelligelaw01_WideParses.calls (k : Nat) (a0 : ByteArray) (w : World) (h : zelligelaw01_WideParses.f k a0 = some true) :
    Calls Try.prog 10 #[.string a0] w fun e w' => e = .returned (.bool true) ∧ Below w.heap.size w w' := by
  have hu24 := Try.underlying24
  have HB := Aside0.mk (Below.refl w.heap.size w)
  have H : (if (a0.size : Int) > 200 then (if 0 ≤ 200 then (if 200 ≤ (a0.size : Int) then (zelligelaw01_WideParses.j0 k (a0.extract 0 200)) else (none)) else (none)) else (zelligelaw01_WideParses.j0 k a0)) = some true := h
  clear h
  have HC2 := Aside0.mk H
  clear H
  go_enter Try.func10, Try.ntmps10
  go_upto_if 9 with (fail)
  go_cut [0] (fun v0 wc => ∃ (kq : Nat) (x0_1 : ByteArray), v0 = .string x0_1 ∧ Aside0 (zelligelaw01_WideParses.j0 kq x0_1 = some true) ∧ Aside0 (kq ≤ k) ∧ Aside0 (Below w.heap.size w wc))
  case first =>
    have H := HC2.out
    clear HC2
    by_cases c3 : (a0.size : Int) > 200
    · rw [if_pos c3] at H
      have c3b0 : decide (200 < (a0.size : Int)) = true := decide_eq_true c3
      have c3b1 : decide (200 < a0.size) = true := decide_eq_true (by omega)
      clear c3
      (first | rw [c3b0] | (simp only [i64_w, i32_w]; rw [c3b0]) | skip)
      by_cases c4 : 0 ≤ 200
      · rw [if_pos c4] at H
        have c4b0 := eq_true c4
        have c4b1 : decide (0 ≤ 200) = true := decide_eq_true c4
        clear c4
        by_cases c5 : 200 ≤ (a0.size : Int)
        · rw [if_pos c5] at H
          have c5b0 := eq_true c5
          have c5b1 : decide (200 ≤ (a0.size : Int)) = true := decide_eq_true c5
          clear c5
          have H' := Aside0.mk H
          clear H
          go_wp2
          go_meet
          case rel => exact ⟨_, (a0.extract 0 200), (by first | rfl | (simp; done) | (simp [*]; done)), H', ⟨by first | omega | exact Nat.le_refl _⟩, ⟨by repeat (first | (with_reducible first | exact HB.out | apply below_alloc | apply pw_below_drewN | apply below_drew1) | exact HB.out)⟩⟩
        · rw [if_neg c5] at H
          exact absurd H (by simp)
      · rw [if_neg c4] at H
        exact absurd H (by simp)
    · rw [if_neg c3] at H
      have c3b0 : decide (200 < (a0.size : Int)) = false := decide_eq_false c3
      have c3b1 : decide (200 < a0.size) = false := decide_eq_false (by omega)
      clear c3
      (first | rw [c3b0] | (simp only [i64_w, i32_w]; rw [c3b0]) | skip)
      have H' := Aside0.mk H
      clear H
      go_wp2
      go_meet
      case rel => exact ⟨_, (a0), (by first | rfl | (simp; done) | (simp [*]; done)), H', ⟨by first | omega | exact Nat.le_refl _⟩, ⟨by repeat (first | (with_reducible first | exact HB.out | apply below_alloc | apply pw_below_drewN | apply below_drew1) | exact HB.out)⟩⟩
  case rest =>
    clear HC2
    try clear c1
    try clear p2
    try clear c3
    try clear c3b0
    try clear c3b1
    try clear c4
    try clear c4b0
    try clear c4b1
    try clear c5
    try clear c5b0
    try clear c5b1
    obtain ⟨kq, x0_1, rfl, HA, HJ1, HB⟩ := hcut
    cases kq with
    | zero => exact absurd HA.out (by simp [zelligelaw01_WideParses.j0])
    | succ kj1 =>
      have H := HA.out
      clear HA
      simp only [zelligelaw01_WideParses.j0] at H
      replace H := Option.bind_eq_some_iff.mp H
      obtain ⟨⟨t402, t403, t404⟩, A60, H⟩ := H
      replace H : ((zelligeref01_Parse.f kj1 x0_1 16).bind fun bt406 => (if bt406.2 = true then ((zelligeref01_Wide.f kj1 bt406.1).bind fun bt410 => (if (t402 == bt410.1 && (t403 == bt410.2)) = true then (if t404 = 0 then ((zelligelaw01_lives.f).bind fun t412 => (some t412)) else (some false)) else (some false))) else (if (t402 == 0 && (t403 == 0)) = true then (if t404 = 4 then ((zelligelaw01_lives.f).bind fun t413 => (some t413)) else (some false)) else (some false)))) = some true := H
      have A6 := Aside0.mk A60
      clear A60
      replace H := Option.bind_eq_some_iff.mp H
      obtain ⟨⟨t406, t407⟩, A70, H⟩ := H
      replace H : (if t407 = true then ((zelligeref01_Wide.f kj1 t406).bind fun bt410 => (if (t402 == bt410.1 && (t403 == bt410.2)) = true then (if t404 = 0 then ((zelligelaw01_lives.f).bind fun t412 => (some t412)) else (some false)) else (some false))) else (if (t402 == 0 && (t403 == 0)) = true then (if t404 = 4 then ((zelligelaw01_lives.f).bind fun t413 => (some t413)) else (some false)) else (some false))) = some true := H
      have A7 := Aside0.mk A70
      clear A70
      by_cases c8 : t407 = true
      · subst c8
        have H1 : ((zelligeref01_Wide.f kj1 t406).bind fun bt410 => (if (t402 == bt410.1 && (t403 == bt410.2)) = true then (if t404 = 0 then ((zelligelaw01_lives.f).bind fun t412 => (some t412)) else (some false)) else (some false))) = some true := by rw [if_pos rfl] at H; exact H
        clear H
        have H := H1
        clear H1
        replace H := Option.bind_eq_some_iff.mp H
        obtain ⟨⟨t410, t411⟩, A90, H⟩ := H
        replace H : (if (t402 == t410 && (t403 == t411)) = true then (if t404 = 0 then ((zelligelaw01_lives.f).bind fun t412 => (some t412)) else (some false)) else (some false)) = some true := H
        have A9 := Aside0.mk A90
        clear A90
        by_cases c10 : (t402 == t410 && (t403 == t411)) = true
        · rw [if_pos c10] at H
          have c10b0 : (t402 == t410 && (t403 == t411)) = true := c10
          (try (have c10b1 : decide (t402 = t410 && (t403 == t411)) = true := by simpa using c10))
          (try (have c10b2 : (t402 == t410 && (t403 == t411)) = true := by simpa using c10))
          clear c10
          by_cases c11 : t404 = 0
          · rw [if_pos c11] at H
            have c11b0 : (t404 == 0) = true := beq_iff_eq.mpr c11
            have c11b1 : (t404 != 0) = false := bne_eq_false_iff_eq.mpr c11
            clear c11
            replace H := Option.bind_eq_some_iff.mp H
            obtain ⟨t412, A120, H⟩ := H
            replace H : (some t412) = some true := H
            have A12 := Aside0.mk A120
            clear A120
            obtain rfl := Option.some.inj H
            try go_wp2_with (first | ((with_reducible refine gate_callee (f := 28) rfl ?_); refine goesL_ (some 14) rfl rfl Try.func28 (by kernel_rfl) rfl #[.string x0_1] rfl (by (try simp only [List.map_toArray, List.map_cons, List.map_nil]); first | done | rfl | (simp only [List.length_drop, List.length_take]; rfl)) ?_; (with_reducible refine (wide_Parse.calls kj1 x0_1 t402 t403 t404 _ A6.out).mono ?_); rintro e w13 ⟨rfl, hb⟩; refine ⟨_, rfl, ?_⟩; have n0_ := Aside0.mk (below_step (by repeat (first | (with_reducible first | exact HB.out | apply below_alloc | apply pw_below_drewN | apply below_drew1) | exact HB.out)) hb); clear HB; have HB := n0_; clear n0_; (try clear hb); (try clear hb2); (try clear hk); (try clear hi)) | ((with_reducible refine gate_dst (N := 3) rfl ?_); refine box_event ?hg (N := 3) ?hd (cs := #[.int .i64 0, .int .u64 0]) (t := 24) ?hr ?_; (case hd => rfl); (case hg => rfl); (case hr => first | (go_simp; done) | (go_simp; rfl)); intro gb405 hg w14 hbox hb; have n0_ := Aside0.mk (below_step (by repeat (first | (with_reducible first | exact HB.out | apply below_alloc | apply pw_below_drewN | apply below_drew1) | exact HB.out)) hb); have n1_ := Aside0.mk (hbox); have n2_ := Aside0.mk ((by rw [hg]; exact (below_size (by repeat (first | (with_reducible first | exact HB.out | apply below_alloc | apply pw_below_drewN | apply below_drew1) | exact HB.out))) : w.heap.size ≤ gb405)); have n3_ := Aside0.mk ((by rw [hg]; exact (below_size (by repeat (first | (with_reducible first | exact HB.out | apply below_alloc | apply pw_below_drewN | apply below_drew1) | exact HB.out))) : w.heap.size ≤ gb405)); clear HB; have HB := n0_; have BK405 := n1_; have GW405 := n2_; have GE405 := n3_; clear n0_ n1_ n2_ n3_; clear hb hbox hg; have hcz15_0 : w14.cell? ⟨gb405, 0, none⟩ = some (.int .i64 0) := (blk_cell BK405.out 0).trans rfl; have hcz15_1 : w14.cell? ⟨gb405, 1, none⟩ = some (.int .u64 0) := (blk_cell BK405.out 1).trans rfl; have hfz15_0 := blk_frozen BK405.out 0; have hfz15_1 := blk_frozen BK405.out 1) | ((with_reducible refine gate_callee (f := 30) rfl ?_); refine goesL_ (some 19) rfl rfl Try.func30 (by kernel_rfl) rfl #[.string x0_1, .int .i64 16] rfl (by (try simp only [List.map_toArray, List.map_cons, List.map_nil]); first | done | rfl | (simp only [List.length_drop, List.length_take]; rfl)) ?_; (with_reducible refine (zelligeref01_Parse.calls kj1 x0_1 16 t406 true _ A7.out).mono ?_); rintro e w16 ⟨v408, rfl, ho0, hb⟩; refine ⟨_, rfl, ?_⟩; have n0_ := Aside0.mk (Kd.R_lower ho0 (below_size (by repeat (first | (with_reducible first | exact HB.out | apply below_alloc | apply pw_below_drewN | apply below_drew1 | refine below_set ?_ GE405.out) | exact HB.out)))); have n1_ := Aside0.mk (blk_below (g := gb405) (o := .cells #[.int .i64 t402, .int .u64 t403] 24 (0, 0)) (by (with_reducible repeat (first | refine blk_drewN ?_ _ | refine blk_drew ?_ | refine blk_alloc ?_ _)); refine blk_put (cs := #[.int .i64 t402, .int .u64 0]) ?_ 1 _ rfl; (with_reducible repeat (first | refine blk_drewN ?_ _ | refine blk_drew ?_ | refine blk_alloc ?_ _)); refine blk_put (cs := #[.int .i64 0, .int .u64 0]) ?_ 0 _ rfl; (with_reducible repeat (first | refine blk_drewN ?_ _ | refine blk_drew ?_ | refine blk_alloc ?_ _)); exact BK405.out) hb); have n2_ := Aside0.mk (below_step (by repeat (first | (with_reducible first | exact HB.out | apply below_alloc | apply pw_below_drewN | apply below_drew1 | refine below_set ?_ GE405.out) | exact HB.out)) hb); clear BK405; clear HB; have HO409 := n0_; have BK405 := n1_; have HB := n2_; clear n0_ n1_ n2_; (try clear hb); (try clear hb2); (try clear hk); (try clear hi); (try clear ho0)))
            have n0_ := Aside0.mk (Kd.R_drew HO409.out)
            have n1_ := Aside0.mk (blk_drew BK405.out)
            have n2_ := Aside0.mk (below_drew1 HB.out)
            clear HO409
            clear BK405
            clear HB
            have HO409 := n0_
            have BK405 := n1_
            have HB := n2_
            clear n0_ n1_ n2_
            obtain ⟨Ao18, co18, eo18⟩ := Kd.R_slice HO409.out
            (first | subst eo18 | (injection eo18 with f1_ f2_ f3_; have f4_ := f1_.symm; have f5_ := f3_.symm; clear f1_ f2_ f3_; subst f4_; subst f5_))
            refine start_ (n := 28) (S := fun w' => w'.cell? ⟨gb405, 0, none⟩ = some (.int .i64 t402) ∧ w'.cell? ⟨gb405, 1, none⟩ = some (.int .u64 t403)) (ds := []) #[false, false, false, false, false, false, false, false, false, false, false, false, false, false, false, false, false, false, false, false, false, false, false, false, false, false, false, false] (by kernel_rfl) rfl rfl ⟨(blk_cell BK405.out 0).trans rfl, (blk_cell BK405.out 1).trans rfl⟩ (fun hHeld => ?_); refine with_tabW zelligelaw01_WideParses.tab5 zelligelaw01_WideParses.bits5 (fun HT_ HW_ => ?_)
            generalize w16.drew = w17 at HO409 BK405 HB hHeld ⊢
            refine pure_ (i := 0) (N := some 22) (v := ?_) (a' := ?_) #[true, false, false, false, false, false, false, false, false, false, false, false, false, false, false, false, false, false, false, false, false, false, false, false, false, false, false, false] rfl rfl (any_of HT_.out (by kernel_rfl)) (fun _ _ _ h => h) (Or.inl ⟨by rfl, ?_⟩) ?_ ?_
            rotate_left
            · intro w'
              go_simp
              with_reducible rfl
            rotate_left
            · simp only [Act.put, List.setIfInBounds_toArray, List.set_cons_zero, List.set_cons_succ, i64_w, i32_w]
              rfl
            refine pure_ (i := 1) (N := some 23) (v := ?_) (a' := ?_) #[true, true, false, false, false, false, false, false, false, false, false, false, false, false, false, false, false, false, false, false, false, false, false, false, false, false, false, false] rfl rfl (any_of HT_.out (by kernel_rfl)) (fun _ _ _ h => h) (Or.inl ⟨by rfl, ?_⟩) ?_ ?_
            rotate_left
            · intro w'
              go_simp
              with_reducible rfl
            rotate_left
            · simp only [Act.put, List.setIfInBounds_toArray, List.set_cons_zero, List.set_cons_succ, i64_w, i32_w]
              rfl
            refine pure_ (i := 3) (N := some 25) (v := ?_) (a' := ?_) #[true, true, false, true, false, false, false, false, false, false, false, false, false, false, false, false, false, false, false, false, false, false, false, false, false, false, false, false] rfl rfl (any_of HT_.out (by kernel_rfl)) (fun _ _ _ h => h) (Or.inl ⟨by rfl, ?_⟩) ?_ ?_
            rotate_left
            · intro w'
              go_simp
              with_reducible rfl
            rotate_left
            · simp only [Act.put, List.setIfInBounds_toArray, List.set_cons_zero, List.set_cons_succ, i64_w, i32_w]
              rfl
            refine take_ (i := 2) (N := some 24) (v := ?_) (a' := ?_) #[true, true, true, true, false, false, false, false, false, false, false, false, false, false, false, false, false, false, false, false, false, false, false, false, false, false, false, false] rfl rfl (take_ofW HT_.out HW_.out (by kernel_rfl)) (fun _ _ _ h => h) (Or.inl ⟨by rfl, ?_⟩) hHeld ?_ ?_
            rotate_left
            · rintro w' ⟨s0, s1⟩
              go_simp
              with_reducible rfl
            rotate_left
            · simp only [Act.put, List.setIfInBounds_toArray, List.set_cons_zero, List.set_cons_succ, i64_w, i32_w]
              rfl
            refine one_ (i := 4) (N := some 26) #[true, true, true, true, true, false, false, false, false, false, false, false, false, false, false, false, false, false, false, false, false, false, false, false, false, false, false, false] rfl rfl (one_of HT_.out (by kernel_rfl)) (by decide) (fun K hK => ?_)
            refine goes_ Try.func13 (by kernel_rfl) rfl #[.slice Ao18 t406.length co18] (by rfl) rfl rfl (by (try simp only [List.map_toArray, List.map_cons, List.map_nil]); first | done | rfl | (simp only [List.length_drop, List.length_take]; rfl)) ?_
            with_reducible refine (zelligeref01_Wide.calls kj1 _ _ t406 t410 t411 _ ?side1 ?side2 A9.out).mono ?_
            (case side1 => repeat (first | exact (Kd.R_reads' HO409.out).2.2 | (with_reducible refine Kd.C_alloc ?_ _) | (with_reducible refine Kd.C_drewN ?_ _) | (with_reducible refine Kd.C_drew ?_)))
            (case side2 => exact (Kd.R_reads' HO409.out).2.1)
            rintro e w19 ⟨rfl, hb⟩
            refine ⟨_, rfl, ?_⟩
            have n0_ := Aside0.mk (Kd.R_below (by (with_reducible repeat (first | apply Kd.R_alloc | apply Kd.R_drewN | apply Kd.R_drew)); exact HO409.out) hb)
            have n1_ := Aside0.mk (blk_below (g := gb405) (o := .cells #[.int .i64 t402, .int .u64 t403] 24 (0, 0)) (by (with_reducible repeat (first | refine blk_drewN ?_ _ | refine blk_drew ?_ | refine blk_alloc ?_ _)); exact BK405.out) hb)
            have n2_ := Aside0.mk (below_step (by repeat (first | (with_reducible first | exact HB.out | apply below_alloc | apply pw_below_drewN | apply below_drew1 | refine below_set ?_ GE405.out) | exact HB.out)) hb)
            clear HO409
            clear BK405
            clear HB
            have HO409 := n0_
            have BK405 := n1_
            have HB := n2_
            clear n0_ n1_ n2_
            (try clear hb)
            (try clear hb2)
            (try clear hk)
            (try clear hi)
            refine hK.out _ _ ⟨(blk_cell BK405.out 0).trans rfl, (blk_cell BK405.out 1).trans rfl⟩ (fun hHeld => ?_)
            clear hK K
            refine norm_ (a' := ?_) ?_ ?_
            rotate_left
            · show Act.put _ (some 26) _ = _
              simp only [Act.put, List.setIfInBounds_toArray, List.set_cons_zero, List.set_cons_succ, i64_w, i32_w]
              rfl
            refine pure_ (i := 5) (N := some 27) (v := ?_) (a' := ?_) #[true, true, true, true, true, true, false, false, false, false, false, false, false, false, false, false, false, false, false, false, false, false, false, false, false, false, false, false] rfl rfl (any_of HT_.out (by kernel_rfl)) (fun _ _ _ h => h) (Or.inl ⟨by rfl, ?_⟩) ?_ ?_
            rotate_left
            · intro w'
              go_simp
              with_reducible rfl
            rotate_left
            · simp only [Act.put, List.setIfInBounds_toArray, List.set_cons_zero, List.set_cons_succ, i64_w, i32_w]
              rfl
            refine pure_ (i := 6) (N := some 28) (v := ?_) (a' := ?_) #[true, true, true, true, true, true, true, false, false, false, false, false, false, false, false, false, false, false, false, false, false, false, false, false, false, false, false, false] rfl rfl (any_of HT_.out (by kernel_rfl)) (fun _ _ _ h => h) (Or.inl ⟨by rfl, ?_⟩) ?_ ?_
            rotate_left
            · intro w'
              go_simp
              with_reducible rfl
            rotate_left
            · simp only [Act.put, List.setIfInBounds_toArray, List.set_cons_zero, List.set_cons_succ, i64_w, i32_w]
              rfl
            refine pure_ (i := 7) (N := some 29) (v := ?_) (a' := ?_) #[true, true, true, true, true, true, true, true, false, false, false, false, false, false, false, false, false, false, false, false, false, false, false, false, false, false, false, false] rfl rfl (any_of HT_.out (by kernel_rfl)) (fun _ _ _ h => h) (Or.inl ⟨by rfl, ?_⟩) ?_ ?_
            rotate_left
            · intro w'
              go_simp
              with_reducible rfl
            rotate_left
            · simp only [Act.put, List.setIfInBounds_toArray, List.set_cons_zero, List.set_cons_succ, i64_w, i32_w]
              rfl
            refine pure_ (i := 8) (N := some 30) (v := ?_) (a' := ?_) #[true, true, true, true, true, true, true, true, true, false, false, false, false, false, false, false, false, false, false, false, false, false, false, false, false, false, false, false] rfl rfl (any_of HT_.out (by kernel_rfl)) (fun _ _ _ h => h) (Or.inl ⟨by rfl, ?_⟩) ?_ ?_
            rotate_left
            · intro w'
              go_simp
              with_reducible rfl
            rotate_left
            · simp only [Act.put, List.setIfInBounds_toArray, List.set_cons_zero, List.set_cons_succ, i64_w, i32_w]
              rfl
            refine pure_ (i := 9) (N := some 31) (v := ?_) (a' := ?_) #[true, true, true, true, true, true, true, true, true, true, false, false, false, false, false, false, false, false, false, false, false, false, false, false, false, false, false, false] rfl rfl (any_of HT_.out (by kernel_rfl)) (fun _ _ _ h => h) (Or.inl ⟨by rfl, ?_⟩) ?_ ?_
            rotate_left
            · intro w'
              go_simp
              with_reducible rfl
            rotate_left
            · simp only [Act.put, List.setIfInBounds_toArray, List.set_cons_zero, List.set_cons_succ, i64_w, i32_w]
              rfl
            refine pure_ (i := 10) (N := some 32) (v := ?_) (a' := ?_) #[true, true, true, true, true, true, true, true, true, true, true, false, false, false, false, false, false, false, false, false, false, false, false, false, false, false, false, false] rfl rfl (any_of HT_.out (by kernel_rfl)) (fun _ _ _ h => h) (Or.inl ⟨by rfl, ?_⟩) ?_ ?_
            rotate_left
            · intro w'
              go_simp
              with_reducible rfl
            rotate_left
            · simp only [Act.put, List.setIfInBounds_toArray, List.set_cons_zero, List.set_cons_succ, i64_w, i32_w]
              rfl
            refine pure_ (i := 11) (N := some 33) (v := ?_) (a' := ?_) #[true, true, true, true, true, true, true, true, true, true, true, true, false, false, false, false, false, false, false, false, false, false, false, false, false, false, false, false] rfl rfl (any_of HT_.out (by kernel_rfl)) (fun _ _ _ h => h) (Or.inl ⟨by rfl, ?_⟩) ?_ ?_
            rotate_left
            · intro w'
              go_simp
              with_reducible rfl
            rotate_left
            · simp only [Act.put, List.setIfInBounds_toArray, List.set_cons_zero, List.set_cons_succ, i64_w, i32_w]
              rfl
            refine pure_ (i := 12) (N := some 34) (v := undef) (a' := ?_) #[true, true, true, true, true, true, true, true, true, true, true, true, true, false, false, false, false, false, false, false, false, false, false, false, false, false, false, false] rfl rfl (any_of HT_.out (by kernel_rfl)) (fun _ _ _ h => h) (Or.inr ⟨by rfl, rfl⟩) ?_ ?_
            rotate_left
            · simp only [Act.put, List.setIfInBounds_toArray, List.set_cons_zero, List.set_cons_succ, i64_w, i32_w]
              rfl
            refine pure_ (i := 13) (N := some 35) (v := undef) (a' := ?_) #[true, true, true, true, true, true, true, true, true, true, true, true, true, true, false, false, false, false, false, false, false, false, false, false, false, false, false, false] rfl rfl (any_of HT_.out (by kernel_rfl)) (fun _ _ _ h => h) (Or.inr ⟨by rfl, rfl⟩) ?_ ?_
            rotate_left
            · simp only [Act.put, List.setIfInBounds_toArray, List.set_cons_zero, List.set_cons_succ, i64_w, i32_w]
              rfl
            refine pure_ (i := 14) (N := some 36) (v := undef) (a' := ?_) #[true, true, true, true, true, true, true, true, true, true, true, true, true, true, true, false, false, false, false, false, false, false, false, false, false, false, false, false] rfl rfl (any_of HT_.out (by kernel_rfl)) (fun _ _ _ h => h) (Or.inr ⟨by rfl, rfl⟩) ?_ ?_
            rotate_left
            · simp only [Act.put, List.setIfInBounds_toArray, List.set_cons_zero, List.set_cons_succ, i64_w, i32_w]
              rfl
            refine pure_ (i := 15) (N := some 37) (v := undef) (a' := ?_) #[true, true, true, true, true, true, true, true, true, true, true, true, true, true, true, true, false, false, false, false, false, false, false, false, false, false, false, false] rfl rfl (any_of HT_.out (by kernel_rfl)) (fun _ _ _ h => h) (Or.inr ⟨by rfl, rfl⟩) ?_ ?_
            rotate_left
            · simp only [Act.put, List.setIfInBounds_toArray, List.set_cons_zero, List.set_cons_succ, i64_w, i32_w]
              rfl
            refine pure_ (i := 16) (N := some 38) (v := undef) (a' := ?_) #[true, true, true, true, true, true, true, true, true, true, true, true, true, true, true, true, true, false, false, false, false, false, false, false, false, false, false, false] rfl rfl (any_of HT_.out (by kernel_rfl)) (fun _ _ _ h => h) (Or.inr ⟨by rfl, rfl⟩) ?_ ?_
            rotate_left
            · simp only [Act.put, List.setIfInBounds_toArray, List.set_cons_zero, List.set_cons_succ, i64_w, i32_w]
              rfl
            refine pure_ (i := 17) (N := some 39) (v := undef) (a' := ?_) #[true, true, true, true, true, true, true, true, true, true, true, true, true, true, true, true, true, true, false, false, false, false, false, false, false, false, false, false] rfl rfl (any_of HT_.out (by kernel_rfl)) (fun _ _ _ h => h) (Or.inr ⟨by rfl, rfl⟩) ?_ ?_
            rotate_left
            · simp only [Act.put, List.setIfInBounds_toArray, List.set_cons_zero, List.set_cons_succ, i64_w, i32_w]
              rfl
            refine pure_ (i := 18) (N := some 40) (v := undef) (a' := ?_) #[true, true, true, true, true, true, true, true, true, true, true, true, true, true, true, true, true, true, true, false, false, false, false, false, false, false, false, false] rfl rfl (any_of HT_.out (by kernel_rfl)) (fun _ _ _ h => h) (Or.inr ⟨by rfl, rfl⟩) ?_ ?_
            rotate_left
            · simp only [Act.put, List.setIfInBounds_toArray, List.set_cons_zero, List.set_cons_succ, i64_w, i32_w]
              rfl
            refine pure_ (i := 19) (N := some 41) (v := undef) (a' := ?_) #[true, true, true, true, true, true, true, true, true, true, true, true, true, true, true, true, true, true, true, true, false, false, false, false, false, false, false, false] rfl rfl (any_of HT_.out (by kernel_rfl)) (fun _ _ _ h => h) (Or.inr ⟨by rfl, rfl⟩) ?_ ?_
            rotate_left
            · simp only [Act.put, List.setIfInBounds_toArray, List.set_cons_zero, List.set_cons_succ, i64_w, i32_w]
              rfl
            refine pure_ (i := 20) (N := some 42) (v := undef) (a' := ?_) #[true, true, true, true, true, true, true, true, true, true, true, true, true, true, true, true, true, true, true, true, true, false, false, false, false, false, false, false] rfl rfl (any_of HT_.out (by kernel_rfl)) (fun _ _ _ h => h) (Or.inr ⟨by rfl, rfl⟩) ?_ ?_
            rotate_left
            · simp only [Act.put, List.setIfInBounds_toArray, List.set_cons_zero, List.set_cons_succ, i64_w, i32_w]
              rfl
            refine pure_ (i := 21) (N := some 43) (v := undef) (a' := ?_) #[true, true, true, true, true, true, true, true, true, true, true, true, true, true, true, true, true, true, true, true, true, true, false, false, false, false, false, false] rfl rfl (any_of HT_.out (by kernel_rfl)) (fun _ _ _ h => h) (Or.inr ⟨by rfl, rfl⟩) ?_ ?_
            rotate_left
            · simp only [Act.put, List.setIfInBounds_toArray, List.set_cons_zero, List.set_cons_succ, i64_w, i32_w]
              rfl
            refine pure_ (i := 22) (N := some 44) (v := undef) (a' := ?_) #[true, true, true, true, true, true, true, true, true, true, true, true, true, true, true, true, true, true, true, true, true, true, true, false, false, false, false, false] rfl rfl (any_of HT_.out (by kernel_rfl)) (fun _ _ _ h => h) (Or.inr ⟨by rfl, rfl⟩) ?_ ?_
            rotate_left
            · simp only [Act.put, List.setIfInBounds_toArray, List.set_cons_zero, List.set_cons_succ, i64_w, i32_w]
              rfl
            refine pure_ (i := 23) (N := some 45) (v := ?_) (a' := ?_) #[true, true, true, true, true, true, true, true, true, true, true, true, true, true, true, true, true, true, true, true, true, true, true, true, false, false, false, false] rfl rfl (any_of HT_.out (by kernel_rfl)) (fun _ _ _ h => h) (Or.inl ⟨by rfl, ?_⟩) ?_ ?_
            rotate_left
            · intro w'
              go_simp
              with_reducible rfl
            rotate_left
            · simp only [Act.put, List.setIfInBounds_toArray, List.set_cons_zero, List.set_cons_succ, i64_w, i32_w]
              rfl
            refine pure_ (i := 24) (N := some 46) (v := ?_) (a' := ?_) #[true, true, true, true, true, true, true, true, true, true, true, true, true, true, true, true, true, true, true, true, true, true, true, true, true, false, false, false] rfl rfl (any_of HT_.out (by kernel_rfl)) (fun _ _ _ h => h) (Or.inl ⟨by rfl, ?_⟩) ?_ ?_
            rotate_left
            · intro w'
              go_simp
              with_reducible rfl
            rotate_left
            · simp only [Act.put, List.setIfInBounds_toArray, List.set_cons_zero, List.set_cons_succ, i64_w, i32_w]
              rfl
            refine one_ (i := 25) (N := some 47) #[true, true, true, true, true, true, true, true, true, true, true, true, true, true, true, true, true, true, true, true, true, true, true, true, true, true, false, false] rfl rfl (one_of HT_.out (by kernel_rfl)) (by decide) (fun K hK => ?_)
            refine goes_ Try.func16 (by kernel_rfl) rfl #[] (by rfl) rfl rfl (by (try simp only [List.map_toArray, List.map_cons, List.map_nil]); first | done | rfl | (simp only [List.length_drop, List.length_take]; rfl)) ?_
            with_reducible refine (zelligelaw01_lives.calls  true _ A12.out).mono ?_
            rintro e w20 ⟨rfl, hb⟩
            refine ⟨_, rfl, ?_⟩
            have n0_ := Aside0.mk (Kd.R_below (by (with_reducible repeat (first | apply Kd.R_alloc | apply Kd.R_drewN | apply Kd.R_drew)); exact HO409.out) hb)
            have n1_ := Aside0.mk (blk_below (g := gb405) (o := .cells #[.int .i64 t402, .int .u64 t403] 24 (0, 0)) (by (with_reducible repeat (first | refine blk_drewN ?_ _ | refine blk_drew ?_ | refine blk_alloc ?_ _)); exact BK405.out) hb)
            have n2_ := Aside0.mk (below_step (by repeat (first | (with_reducible first | exact HB.out | apply below_alloc | apply pw_below_drewN | apply below_drew1 | refine below_set ?_ GE405.out) | exact HB.out)) hb)
            clear HO409
            clear BK405
            clear HB
            have HO409 := n0_
            have BK405 := n1_
            have HB := n2_
            clear n0_ n1_ n2_
            (try clear hb)
            (try clear hb2)
            (try clear hk)
            (try clear hi)
            refine hK.out _ _ ⟨(blk_cell BK405.out 0).trans rfl, (blk_cell BK405.out 1).trans rfl⟩ (fun hHeld => ?_)
            clear hK K
            refine norm_ (a' := ?_) ?_ ?_
            rotate_left
            · show Act.put _ (some 47) _ = _
              simp only [Act.put, List.setIfInBounds_toArray, List.set_cons_zero, List.set_cons_succ, i64_w, i32_w]
              rfl
            refine pure_ (i := 26) (N := some 48) (v := ?_) (a' := ?_) #[true, true, true, true, true, true, true, true, true, true, true, true, true, true, true, true, true, true, true, true, true, true, true, true, true, true, true, false] rfl rfl (any_of HT_.out (by kernel_rfl)) (fun _ _ _ h => h) (Or.inl ⟨by rfl, ?_⟩) ?_ ?_
            rotate_left
            · intro w'
              go_simp
              with_reducible rfl
            rotate_left
            · simp only [Act.put, List.setIfInBounds_toArray, List.set_cons_zero, List.set_cons_succ, i64_w, i32_w]
              rfl
            refine pure_ (i := 27) (N := some 2) (v := ?_) (a' := ?_) #[true, true, true, true, true, true, true, true, true, true, true, true, true, true, true, true, true, true, true, true, true, true, true, true, true, true, true, true] rfl rfl (any_of HT_.out (by kernel_rfl)) (fun _ _ _ h => h) (Or.inl ⟨by rfl, ?_⟩) ?_ ?_
            rotate_left
            · intro w'
              go_simp
              with_reducible rfl
            rotate_left
            · simp only [Act.put, List.setIfInBounds_toArray, List.set_cons_zero, List.set_cons_succ, i64_w, i32_w]
              rfl
            refine done_ (done_of HT_.out (by kernel_rfl)) ?_
            try go_wp2
            go_ret
            exact ⟨by first | rfl | (simp [errW_none, errW_some] <;> rfl) | (simp [*, errW_none, errW_some] <;> rfl), by repeat (first | (with_reducible first | exact HB.out | apply below_alloc | apply pw_below_drewN | apply below_drew1 | refine below_set ?_ GE405.out) | exact HB.out)⟩
          · rw [if_neg c11] at H
            have c11b0 : (t404 == 0) = false := beq_eq_false_iff_ne.mpr c11
            have c11b1 : (t404 != 0) = true := bne_iff_ne.mpr c11
            exact absurd (Option.some.inj H) (by decide)
        · rw [if_neg c10] at H
          have c10b0 : (t402 == t410 && (t403 == t411)) = false := by simpa using c10
          (try (have c10b1 : decide (t402 = t410 && (t403 == t411)) = false := by simpa using c10))
          (try (have c10b2 : (t402 == t410 && (t403 == t411)) = false := by simpa using c10))
          (try (have c10b3 : ¬ (t402 = t410 && (t403 == t411)) := by simpa using c10))
          clear c10
          exact absurd (Option.some.inj H) (by decide)
      · replace c8 := Bool.eq_false_iff.mpr c8
        subst c8
        have H1 : (if (t402 == 0 && (t403 == 0)) = true then (if t404 = 4 then ((zelligelaw01_lives.f).bind fun t413 => (some t413)) else (some false)) else (some false)) = some true := by rw [if_neg (show ¬ (false = true) by decide)] at H; exact H
        clear H
        have H := H1
        clear H1
        by_cases c35 : (t402 == 0 && (t403 == 0)) = true
        · rw [if_pos c35] at H
          have c35b0 : (t402 == 0 && (t403 == 0)) = true := c35
          (try (have c35b1 : decide (t402 = 0 && (t403 == 0)) = true := by simpa using c35))
          (try (have c35b2 : (t402 == 0 && (t403 == 0)) = true := by simpa using c35))
          clear c35
          by_cases c36 : t404 = 4
          · rw [if_pos c36] at H
            have c36b0 : (t404 == 4) = true := beq_iff_eq.mpr c36
            have c36b1 : (t404 != 4) = false := bne_eq_false_iff_eq.mpr c36
            clear c36
            replace H := Option.bind_eq_some_iff.mp H
            obtain ⟨t413, A370, H⟩ := H
            replace H : (some t413) = some true := H
            have A37 := Aside0.mk A370
            clear A370
            obtain rfl := Option.some.inj H
            try go_wp2_with (first | ((with_reducible refine gate_callee (f := 28) rfl ?_); refine goesL_ (some 14) rfl rfl Try.func28 (by kernel_rfl) rfl #[.string x0_1] rfl (by (try simp only [List.map_toArray, List.map_cons, List.map_nil]); first | done | rfl | (simp only [List.length_drop, List.length_take]; rfl)) ?_; (with_reducible refine (wide_Parse.calls kj1 x0_1 t402 t403 t404 _ A6.out).mono ?_); rintro e w38 ⟨rfl, hb⟩; refine ⟨_, rfl, ?_⟩; have n0_ := Aside0.mk (below_step (by repeat (first | (with_reducible first | exact HB.out | apply below_alloc | apply pw_below_drewN | apply below_drew1) | exact HB.out)) hb); clear HB; have HB := n0_; clear n0_; (try clear hb); (try clear hb2); (try clear hk); (try clear hi)) | ((with_reducible refine gate_dst (N := 3) rfl ?_); refine box_event ?hg (N := 3) ?hd (cs := #[.int .i64 0, .int .u64 0]) (t := 24) ?hr ?_; (case hd => rfl); (case hg => rfl); (case hr => first | (go_simp; done) | (go_simp; rfl)); intro gb405 hg w39 hbox hb; have n0_ := Aside0.mk (below_step (by repeat (first | (with_reducible first | exact HB.out | apply below_alloc | apply pw_below_drewN | apply below_drew1) | exact HB.out)) hb); have n1_ := Aside0.mk (hbox); have n2_ := Aside0.mk ((by rw [hg]; exact (below_size (by repeat (first | (with_reducible first | exact HB.out | apply below_alloc | apply pw_below_drewN | apply below_drew1) | exact HB.out))) : w.heap.size ≤ gb405)); have n3_ := Aside0.mk ((by rw [hg]; exact (below_size (by repeat (first | (with_reducible first | exact HB.out | apply below_alloc | apply pw_below_drewN | apply below_drew1) | exact HB.out))) : w.heap.size ≤ gb405)); clear HB; have HB := n0_; have BK405 := n1_; have GW405 := n2_; have GE405 := n3_; clear n0_ n1_ n2_ n3_; clear hb hbox hg; have hcz40_0 : w39.cell? ⟨gb405, 0, none⟩ = some (.int .i64 0) := (blk_cell BK405.out 0).trans rfl; have hcz40_1 : w39.cell? ⟨gb405, 1, none⟩ = some (.int .u64 0) := (blk_cell BK405.out 1).trans rfl; have hfz40_0 := blk_frozen BK405.out 0; have hfz40_1 := blk_frozen BK405.out 1) | ((with_reducible refine gate_callee (f := 30) rfl ?_); refine goesL_ (some 19) rfl rfl Try.func30 (by kernel_rfl) rfl #[.string x0_1, .int .i64 16] rfl (by (try simp only [List.map_toArray, List.map_cons, List.map_nil]); first | done | rfl | (simp only [List.length_drop, List.length_take]; rfl)) ?_; (with_reducible refine (zelligeref01_Parse.calls kj1 x0_1 16 t406 false _ A7.out).mono ?_); rintro e w41 ⟨v408, rfl, ho0, hb⟩; refine ⟨_, rfl, ?_⟩; have n0_ := Aside0.mk (Kd.R_lower ho0 (below_size (by repeat (first | (with_reducible first | exact HB.out | apply below_alloc | apply pw_below_drewN | apply below_drew1 | refine below_set ?_ GE405.out) | exact HB.out)))); have n1_ := Aside0.mk (blk_below (g := gb405) (o := .cells #[.int .i64 t402, .int .u64 t403] 24 (0, 0)) (by (with_reducible repeat (first | refine blk_drewN ?_ _ | refine blk_drew ?_ | refine blk_alloc ?_ _)); refine blk_put (cs := #[.int .i64 t402, .int .u64 0]) ?_ 1 _ rfl; (with_reducible repeat (first | refine blk_drewN ?_ _ | refine blk_drew ?_ | refine blk_alloc ?_ _)); refine blk_put (cs := #[.int .i64 0, .int .u64 0]) ?_ 0 _ rfl; (with_reducible repeat (first | refine blk_drewN ?_ _ | refine blk_drew ?_ | refine blk_alloc ?_ _)); exact BK405.out) hb); have n2_ := Aside0.mk (below_step (by repeat (first | (with_reducible first | exact HB.out | apply below_alloc | apply pw_below_drewN | apply below_drew1 | refine below_set ?_ GE405.out) | exact HB.out)) hb); clear BK405; clear HB; have HO409 := n0_; have BK405 := n1_; have HB := n2_; clear n0_ n1_ n2_; (try clear hb); (try clear hb2); (try clear hk); (try clear hi); (try clear ho0)))
            have n0_ := Aside0.mk (Kd.R_drew HO409.out)
            have n1_ := Aside0.mk (blk_drew BK405.out)
            have n2_ := Aside0.mk (below_drew1 HB.out)
            clear HO409
            clear BK405
            clear HB
            have HO409 := n0_
            have BK405 := n1_
            have HB := n2_
            clear n0_ n1_ n2_
            refine start_ (n := 28) (S := fun w' => w'.cell? ⟨gb405, 0, none⟩ = some (.int .i64 t402) ∧ w'.cell? ⟨gb405, 1, none⟩ = some (.int .u64 t403)) (ds := []) #[false, false, false, false, false, false, false, false, false, false, false, false, false, false, false, false, false, false, false, false, false, false, false, false, false, false, false, false] (by kernel_rfl) rfl rfl ⟨(blk_cell BK405.out 0).trans rfl, (blk_cell BK405.out 1).trans rfl⟩ (fun hHeld => ?_); refine with_tabW zelligelaw01_WideParses.tab5 zelligelaw01_WideParses.bits5 (fun HT_ HW_ => ?_)
            generalize w41.drew = w42 at HO409 BK405 HB hHeld ⊢
            refine pure_ (i := 0) (N := some 22) (v := ?_) (a' := ?_) #[true, false, false, false, false, false, false, false, false, false, false, false, false, false, false, false, false, false, false, false, false, false, false, false, false, false, false, false] rfl rfl (any_of HT_.out (by kernel_rfl)) (fun _ _ _ h => h) (Or.inl ⟨by rfl, ?_⟩) ?_ ?_
            rotate_left
            · intro w'
              go_simp
              with_reducible rfl
            rotate_left
            · simp only [Act.put, List.setIfInBounds_toArray, List.set_cons_zero, List.set_cons_succ, i64_w, i32_w]
              rfl
            refine pure_ (i := 1) (N := some 23) (v := ?_) (a' := ?_) #[true, true, false, false, false, false, false, false, false, false, false, false, false, false, false, false, false, false, false, false, false, false, false, false, false, false, false, false] rfl rfl (any_of HT_.out (by kernel_rfl)) (fun _ _ _ h => h) (Or.inl ⟨by rfl, ?_⟩) ?_ ?_
            rotate_left
            · intro w'
              go_simp
              with_reducible rfl
            rotate_left
            · simp only [Act.put, List.setIfInBounds_toArray, List.set_cons_zero, List.set_cons_succ, i64_w, i32_w]
              rfl
            refine pure_ (i := 2) (N := some 24) (v := undef) (a' := ?_) #[true, true, true, false, false, false, false, false, false, false, false, false, false, false, false, false, false, false, false, false, false, false, false, false, false, false, false, false] rfl rfl (any_of HT_.out (by kernel_rfl)) (fun _ _ _ h => h) (Or.inr ⟨by rfl, rfl⟩) ?_ ?_
            rotate_left
            · simp only [Act.put, List.setIfInBounds_toArray, List.set_cons_zero, List.set_cons_succ, i64_w, i32_w]
              rfl
            refine pure_ (i := 3) (N := some 25) (v := undef) (a' := ?_) #[true, true, true, true, false, false, false, false, false, false, false, false, false, false, false, false, false, false, false, false, false, false, false, false, false, false, false, false] rfl rfl (any_of HT_.out (by kernel_rfl)) (fun _ _ _ h => h) (Or.inr ⟨by rfl, rfl⟩) ?_ ?_
            rotate_left
            · simp only [Act.put, List.setIfInBounds_toArray, List.set_cons_zero, List.set_cons_succ, i64_w, i32_w]
              rfl
            refine pure_ (i := 4) (N := some 26) (v := undef) (a' := ?_) #[true, true, true, true, true, false, false, false, false, false, false, false, false, false, false, false, false, false, false, false, false, false, false, false, false, false, false, false] rfl rfl (any_of HT_.out (by kernel_rfl)) (fun _ _ _ h => h) (Or.inr ⟨by rfl, rfl⟩) ?_ ?_
            rotate_left
            · simp only [Act.put, List.setIfInBounds_toArray, List.set_cons_zero, List.set_cons_succ, i64_w, i32_w]
              rfl
            refine pure_ (i := 5) (N := some 27) (v := undef) (a' := ?_) #[true, true, true, true, true, true, false, false, false, false, false, false, false, false, false, false, false, false, false, false, false, false, false, false, false, false, false, false] rfl rfl (any_of HT_.out (by kernel_rfl)) (fun _ _ _ h => h) (Or.inr ⟨by rfl, rfl⟩) ?_ ?_
            rotate_left
            · simp only [Act.put, List.setIfInBounds_toArray, List.set_cons_zero, List.set_cons_succ, i64_w, i32_w]
              rfl
            refine pure_ (i := 6) (N := some 28) (v := ?_) (a' := ?_) #[true, true, true, true, true, true, true, false, false, false, false, false, false, false, false, false, false, false, false, false, false, false, false, false, false, false, false, false] rfl rfl (any_of HT_.out (by kernel_rfl)) (fun _ _ _ h => h) (Or.inl ⟨by rfl, ?_⟩) ?_ ?_
            rotate_left
            · intro w'
              go_simp
              with_reducible rfl
            rotate_left
            · simp only [Act.put, List.setIfInBounds_toArray, List.set_cons_zero, List.set_cons_succ, i64_w, i32_w]
              rfl
            refine pure_ (i := 7) (N := some 29) (v := ?_) (a' := ?_) #[true, true, true, true, true, true, true, true, false, false, false, false, false, false, false, false, false, false, false, false, false, false, false, false, false, false, false, false] rfl rfl (any_of HT_.out (by kernel_rfl)) (fun _ _ _ h => h) (Or.inl ⟨by rfl, ?_⟩) ?_ ?_
            rotate_left
            · intro w'
              go_simp
              with_reducible rfl
            rotate_left
            · simp only [Act.put, List.setIfInBounds_toArray, List.set_cons_zero, List.set_cons_succ, i64_w, i32_w]
              rfl
            refine pure_ (i := 8) (N := some 30) (v := undef) (a' := ?_) #[true, true, true, true, true, true, true, true, true, false, false, false, false, false, false, false, false, false, false, false, false, false, false, false, false, false, false, false] rfl rfl (any_of HT_.out (by kernel_rfl)) (fun _ _ _ h => h) (Or.inr ⟨by rfl, rfl⟩) ?_ ?_
            rotate_left
            · simp only [Act.put, List.setIfInBounds_toArray, List.set_cons_zero, List.set_cons_succ, i64_w, i32_w]
              rfl
            refine pure_ (i := 9) (N := some 31) (v := undef) (a' := ?_) #[true, true, true, true, true, true, true, true, true, true, false, false, false, false, false, false, false, false, false, false, false, false, false, false, false, false, false, false] rfl rfl (any_of HT_.out (by kernel_rfl)) (fun _ _ _ h => h) (Or.inr ⟨by rfl, rfl⟩) ?_ ?_
            rotate_left
            · simp only [Act.put, List.setIfInBounds_toArray, List.set_cons_zero, List.set_cons_succ, i64_w, i32_w]
              rfl
            refine pure_ (i := 10) (N := some 32) (v := ?_) (a' := ?_) #[true, true, true, true, true, true, true, true, true, true, true, false, false, false, false, false, false, false, false, false, false, false, false, false, false, false, false, false] rfl rfl (any_of HT_.out (by kernel_rfl)) (fun _ _ _ h => h) (Or.inl ⟨by rfl, ?_⟩) ?_ ?_
            rotate_left
            · intro w'
              go_simp
              with_reducible rfl
            rotate_left
            · simp only [Act.put, List.setIfInBounds_toArray, List.set_cons_zero, List.set_cons_succ, i64_w, i32_w]
              rfl
            refine pure_ (i := 11) (N := some 33) (v := ?_) (a' := ?_) #[true, true, true, true, true, true, true, true, true, true, true, true, false, false, false, false, false, false, false, false, false, false, false, false, false, false, false, false] rfl rfl (any_of HT_.out (by kernel_rfl)) (fun _ _ _ h => h) (Or.inl ⟨by rfl, ?_⟩) ?_ ?_
            rotate_left
            · intro w'
              go_simp
              with_reducible rfl
            rotate_left
            · simp only [Act.put, List.setIfInBounds_toArray, List.set_cons_zero, List.set_cons_succ, i64_w, i32_w]
              rfl
            refine pure_ (i := 12) (N := some 34) (v := ?_) (a' := ?_) #[true, true, true, true, true, true, true, true, true, true, true, true, true, false, false, false, false, false, false, false, false, false, false, false, false, false, false, false] rfl rfl (any_of HT_.out (by kernel_rfl)) (fun _ _ _ h => h) (Or.inl ⟨by rfl, ?_⟩) ?_ ?_
            rotate_left
            · intro w'
              go_simp
              with_reducible rfl
            rotate_left
            · simp only [Act.put, List.setIfInBounds_toArray, List.set_cons_zero, List.set_cons_succ, i64_w, i32_w]
              rfl
            refine pure_ (i := 13) (N := some 35) (v := ?_) (a' := ?_) #[true, true, true, true, true, true, true, true, true, true, true, true, true, true, false, false, false, false, false, false, false, false, false, false, false, false, false, false] rfl rfl (any_of HT_.out (by kernel_rfl)) (fun _ _ _ h => h) (Or.inl ⟨by rfl, ?_⟩) ?_ ?_
            rotate_left
            · intro w'
              go_simp
              with_reducible rfl
            rotate_left
            · simp only [Act.put, List.setIfInBounds_toArray, List.set_cons_zero, List.set_cons_succ, i64_w, i32_w]
              rfl
            refine pure_ (i := 14) (N := some 36) (v := ?_) (a' := ?_) #[true, true, true, true, true, true, true, true, true, true, true, true, true, true, true, false, false, false, false, false, false, false, false, false, false, false, false, false] rfl rfl (any_of HT_.out (by kernel_rfl)) (fun _ _ _ h => h) (Or.inl ⟨by rfl, ?_⟩) ?_ ?_
            rotate_left
            · intro w'
              go_simp
              with_reducible rfl
            rotate_left
            · simp only [Act.put, List.setIfInBounds_toArray, List.set_cons_zero, List.set_cons_succ, i64_w, i32_w]
              rfl
            refine pure_ (i := 16) (N := some 38) (v := ?_) (a' := ?_) #[true, true, true, true, true, true, true, true, true, true, true, true, true, true, true, false, true, false, false, false, false, false, false, false, false, false, false, false] rfl rfl (any_of HT_.out (by kernel_rfl)) (fun _ _ _ h => h) (Or.inl ⟨by rfl, ?_⟩) ?_ ?_
            rotate_left
            · intro w'
              go_simp
              with_reducible rfl
            rotate_left
            · simp only [Act.put, List.setIfInBounds_toArray, List.set_cons_zero, List.set_cons_succ, i64_w, i32_w]
              rfl
            refine take_ (i := 15) (N := some 37) (v := ?_) (a' := ?_) #[true, true, true, true, true, true, true, true, true, true, true, true, true, true, true, true, true, false, false, false, false, false, false, false, false, false, false, false] rfl rfl (take_ofW HT_.out HW_.out (by kernel_rfl)) (fun _ _ _ h => h) (Or.inl ⟨by rfl, ?_⟩) hHeld ?_ ?_
            rotate_left
            · rintro w' ⟨s0, s1⟩
              go_simp
              with_reducible rfl
            rotate_left
            · simp only [Act.put, List.setIfInBounds_toArray, List.set_cons_zero, List.set_cons_succ, i64_w, i32_w]
              rfl
            refine pure_ (i := 17) (N := some 39) (v := ?_) (a' := ?_) #[true, true, true, true, true, true, true, true, true, true, true, true, true, true, true, true, true, true, false, false, false, false, false, false, false, false, false, false] rfl rfl (any_of HT_.out (by kernel_rfl)) (fun _ _ _ h => h) (Or.inl ⟨by rfl, ?_⟩) ?_ ?_
            rotate_left
            · intro w'
              go_simp
              with_reducible rfl
            rotate_left
            · simp only [Act.put, List.setIfInBounds_toArray, List.set_cons_zero, List.set_cons_succ, i64_w, i32_w]
              rfl
            refine pure_ (i := 18) (N := some 40) (v := ?_) (a' := ?_) #[true, true, true, true, true, true, true, true, true, true, true, true, true, true, true, true, true, true, true, false, false, false, false, false, false, false, false, false] rfl rfl (any_of HT_.out (by kernel_rfl)) (fun _ _ _ h => h) (Or.inl ⟨by rfl, ?_⟩) ?_ ?_
            rotate_left
            · intro w'
              go_simp
              with_reducible rfl
            rotate_left
            · simp only [Act.put, List.setIfInBounds_toArray, List.set_cons_zero, List.set_cons_succ, i64_w, i32_w]
              rfl
            refine pure_ (i := 19) (N := some 41) (v := ?_) (a' := ?_) #[true, true, true, true, true, true, true, true, true, true, true, true, true, true, true, true, true, true, true, true, false, false, false, false, false, false, false, false] rfl rfl (any_of HT_.out (by kernel_rfl)) (fun _ _ _ h => h) (Or.inl ⟨by rfl, ?_⟩) ?_ ?_
            rotate_left
            · intro w'
              go_simp
              with_reducible rfl
            rotate_left
            · simp only [Act.put, List.setIfInBounds_toArray, List.set_cons_zero, List.set_cons_succ, i64_w, i32_w]
              rfl
            refine pure_ (i := 20) (N := some 42) (v := ?_) (a' := ?_) #[true, true, true, true, true, true, true, true, true, true, true, true, true, true, true, true, true, true, true, true, true, false, false, false, false, false, false, false] rfl rfl (any_of HT_.out (by kernel_rfl)) (fun _ _ _ h => h) (Or.inl ⟨by rfl, ?_⟩) ?_ ?_
            rotate_left
            · intro w'
              go_simp
              with_reducible rfl
            rotate_left
            · simp only [Act.put, List.setIfInBounds_toArray, List.set_cons_zero, List.set_cons_succ, i64_w, i32_w]
              rfl
            refine pure_ (i := 21) (N := some 43) (v := ?_) (a' := ?_) #[true, true, true, true, true, true, true, true, true, true, true, true, true, true, true, true, true, true, true, true, true, true, false, false, false, false, false, false] rfl rfl (any_of HT_.out (by kernel_rfl)) (fun _ _ _ h => h) (Or.inl ⟨by rfl, ?_⟩) ?_ ?_
            rotate_left
            · intro w'
              go_simp
              with_reducible rfl
            rotate_left
            · simp only [Act.put, List.setIfInBounds_toArray, List.set_cons_zero, List.set_cons_succ, i64_w, i32_w]
              rfl
            refine pure_ (i := 22) (N := some 44) (v := ?_) (a' := ?_) #[true, true, true, true, true, true, true, true, true, true, true, true, true, true, true, true, true, true, true, true, true, true, true, false, false, false, false, false] rfl rfl (any_of HT_.out (by kernel_rfl)) (fun _ _ _ h => h) (Or.inl ⟨by rfl, ?_⟩) ?_ ?_
            rotate_left
            · intro w'
              go_simp
              with_reducible rfl
            rotate_left
            · simp only [Act.put, List.setIfInBounds_toArray, List.set_cons_zero, List.set_cons_succ, i64_w, i32_w]
              rfl
            refine pure_ (i := 23) (N := some 45) (v := ?_) (a' := ?_) #[true, true, true, true, true, true, true, true, true, true, true, true, true, true, true, true, true, true, true, true, true, true, true, true, false, false, false, false] rfl rfl (any_of HT_.out (by kernel_rfl)) (fun _ _ _ h => h) (Or.inl ⟨by rfl, ?_⟩) ?_ ?_
            rotate_left
            · intro w'
              go_simp
              with_reducible rfl
            rotate_left
            · simp only [Act.put, List.setIfInBounds_toArray, List.set_cons_zero, List.set_cons_succ, i64_w, i32_w]
              rfl
            refine pure_ (i := 24) (N := some 46) (v := ?_) (a' := ?_) #[true, true, true, true, true, true, true, true, true, true, true, true, true, true, true, true, true, true, true, true, true, true, true, true, true, false, false, false] rfl rfl (any_of HT_.out (by kernel_rfl)) (fun _ _ _ h => h) (Or.inl ⟨by rfl, ?_⟩) ?_ ?_
            rotate_left
            · intro w'
              go_simp
              with_reducible rfl
            rotate_left
            · simp only [Act.put, List.setIfInBounds_toArray, List.set_cons_zero, List.set_cons_succ, i64_w, i32_w]
              rfl
            refine one_ (i := 25) (N := some 47) #[true, true, true, true, true, true, true, true, true, true, true, true, true, true, true, true, true, true, true, true, true, true, true, true, true, true, false, false] rfl rfl (one_of HT_.out (by kernel_rfl)) (by decide) (fun K hK => ?_)
            refine goes_ Try.func16 (by kernel_rfl) rfl #[] (by rfl) rfl rfl (by (try simp only [List.map_toArray, List.map_cons, List.map_nil]); first | done | rfl | (simp only [List.length_drop, List.length_take]; rfl)) ?_
            with_reducible refine (zelligelaw01_lives.calls  true _ A37.out).mono ?_
            rintro e w43 ⟨rfl, hb⟩
            refine ⟨_, rfl, ?_⟩
            have n0_ := Aside0.mk (Kd.R_below (by (with_reducible repeat (first | apply Kd.R_alloc | apply Kd.R_drewN | apply Kd.R_drew)); exact HO409.out) hb)
            have n1_ := Aside0.mk (blk_below (g := gb405) (o := .cells #[.int .i64 t402, .int .u64 t403] 24 (0, 0)) (by (with_reducible repeat (first | refine blk_drewN ?_ _ | refine blk_drew ?_ | refine blk_alloc ?_ _)); exact BK405.out) hb)
            have n2_ := Aside0.mk (below_step (by repeat (first | (with_reducible first | exact HB.out | apply below_alloc | apply pw_below_drewN | apply below_drew1 | refine below_set ?_ GE405.out) | exact HB.out)) hb)
            clear HO409
            clear BK405
            clear HB
            have HO409 := n0_
            have BK405 := n1_
            have HB := n2_
            clear n0_ n1_ n2_
            (try clear hb)
            (try clear hb2)
            (try clear hk)
            (try clear hi)
            refine hK.out _ _ ⟨(blk_cell BK405.out 0).trans rfl, (blk_cell BK405.out 1).trans rfl⟩ (fun hHeld => ?_)
            clear hK K
            refine norm_ (a' := ?_) ?_ ?_
            rotate_left
            · show Act.put _ (some 47) _ = _
              simp only [Act.put, List.setIfInBounds_toArray, List.set_cons_zero, List.set_cons_succ, i64_w, i32_w]
              rfl
            refine pure_ (i := 26) (N := some 48) (v := ?_) (a' := ?_) #[true, true, true, true, true, true, true, true, true, true, true, true, true, true, true, true, true, true, true, true, true, true, true, true, true, true, true, false] rfl rfl (any_of HT_.out (by kernel_rfl)) (fun _ _ _ h => h) (Or.inl ⟨by rfl, ?_⟩) ?_ ?_
            rotate_left
            · intro w'
              go_simp
              with_reducible rfl
            rotate_left
            · simp only [Act.put, List.setIfInBounds_toArray, List.set_cons_zero, List.set_cons_succ, i64_w, i32_w]
              rfl
            refine pure_ (i := 27) (N := some 2) (v := ?_) (a' := ?_) #[true, true, true, true, true, true, true, true, true, true, true, true, true, true, true, true, true, true, true, true, true, true, true, true, true, true, true, true] rfl rfl (any_of HT_.out (by kernel_rfl)) (fun _ _ _ h => h) (Or.inl ⟨by rfl, ?_⟩) ?_ ?_
            rotate_left
            · intro w'
              go_simp
              with_reducible rfl
            rotate_left
            · simp only [Act.put, List.setIfInBounds_toArray, List.set_cons_zero, List.set_cons_succ, i64_w, i32_w]
              rfl
            refine done_ (done_of HT_.out (by kernel_rfl)) ?_
            try go_wp2
            go_ret
            exact ⟨by first | rfl | (simp [errW_none, errW_some] <;> rfl) | (simp [*, errW_none, errW_some] <;> rfl), by repeat (first | (with_reducible first | exact HB.out | apply below_alloc | apply pw_below_drewN | apply below_drew1 | refine below_set ?_ GE405.out) | exact HB.out)⟩
          · rw [if_neg c36] at H
            have c36b0 : (t404 == 4) = false := beq_eq_false_iff_ne.mpr c36
            have c36b1 : (t404 != 4) = true := bne_iff_ne.mpr c36
            exact absurd (Option.some.inj H) (by decide)
        · rw [if_neg c35] at H
          have c35b0 : (t402 == 0 && (t403 == 0)) = false := by simpa using c35
          (try (have c35b1 : decide (t402 = 0 && (t403 == 0)) = false := by simpa using c35))
          (try (have c35b2 : (t402 == 0 && (t403 == 0)) = false := by simpa using c35))
          (try (have c35b3 : ¬ (t402 = 0 && (t403 == 0)) := by simpa using c35))
          clear c35
          exact absurd (Option.some.inj H) (by decide)
/-- THE ONE PURE STATEMENT of zelligelaw01_WideParses: yours. -/
def zelligelaw01_WideParses.Pure : Prop := ∀ (a0 : ByteArray), a0.size ≤ 140737488351232 → ∃ k, zelligelaw01_WideParses.f k a0 = some true

end Go.Proofs.Ytbccokfdkieakaa.F
end

section
/- WideParses: the law answers true for all texts. -/
namespace Go.Proofs.Ytbccokfdkieakaa.Wd
open Go Go.RowKit Go.Proofs.YtbccokfdkieakaaW.PrintWords Go.Proofs.Ytbccokfdkieakaa.F Go.Proofs.Ytbccokfdkieakaa.D8
set_option linter.unusedVariables false
theorem parses_j0 (s : ByteArray) (hs : s.size ≤ 200) (k : Nat) (hk : 2000300 ≤ k) : zelligelaw01_WideParses.j0 (k + 1) s = some true := by
  obtain ⟨r1, r2⟩ := rparse_f s hs k hk
  generalize ht : (if ng s = true then s.extract 1 s.size else s) = t
  have pw := parse_f s (by omega) k t ht.symm (by omega)
  have tz : t.size = s.size - off s ∧ ∀ d n, hn t d 0 n = hn s d (off s) n := by
    rw [← ht]
    unfold off
    by_cases c : ng s = true
    · rw [if_pos c, if_pos c, ByteArray.size_extract]
      exact ⟨by omega, fun d n => hn_ext s d 0 n⟩
    · rw [if_neg c, if_neg c]
      exact ⟨rfl, fun d n => rfl⟩
  rw [tz.1, tz.2] at pw
  have bad : ∀ l : List Int, wide_Parse.f k s = some (0, 0, 4) → zelligeref01_Parse.f k s 16 = some (l, false) → zelligelaw01_WideParses.j0 (k + 1) s = some true := by
    intro l h1 h2
    rw [zelligelaw01_WideParses.j0, h1, Option.bind_some, h2, Option.bind_some, if_neg (fun h => Bool.noConfusion h), if_pos (by decide), if_pos rfl, lives_true]
    rfl
  have good : ∀ (l : List Int) (m : Int), l.length = 16 → Dg l → whi (val l) = whi m ∧ wlo (val l) = wlo m → wide_Parse.f k s = some (whi m, wlo m, 0) → zelligeref01_Parse.f k s 16 = some (l, true) → zelligelaw01_WideParses.j0 (k + 1) s = some true := by
    intro l m l1 l2 l3 h1 h2
    rw [zelligelaw01_WideParses.j0, h1, Option.bind_some, h2, Option.bind_some, if_pos rfl, rwide_f l1 l2 (by omega), Option.bind_some, if_pos (both_ ⟨l3.1.symm, l3.2.symm⟩), if_pos rfl, lives_true]
    rfl
  have ho : off s ≤ 1 := by unfold off; split <;> omega
  by_cases c : 40 ≤ s.size - off s
  · rw [if_pos c] at pw
    by_cases c2 : 48 < s.size
    · exact bad _ pw (r1 c2)
    · obtain ⟨l, l1, l2, l3, l4⟩ := r2 (by omega)
      cases hm : hn s (s.size - off s) (off s) 0 with
      | none => exact bad _ pw (l3 hm)
      | some m =>
        refine bad l pw ?_
        rw [(l4 m hm).2]
        have : ((wt (sg s m)).toList == s.toList) = false := by
          rw [beq_eq_false_iff_ne]
          intro e
          have e2 := toList_eq e
          have z := txt_size (wv_le (wok_of (sg s m)))
          rw [show txt (wv (whi (sg s m)) (wlo (sg s m))) = s from e2] at z
          by_cases g : ng s = true
          · have : off s = 1 := if_pos g
            omega
          · have h0 : off s = 0 := if_neg g
            by_cases n0 : wv (whi (sg s m)) (wlo (sg s m)) < 0
            · exact g (z.2.2 n0)
            · have := z.2.1 n0
              omega
        rw [this]
  · rw [if_neg c] at pw
    obtain ⟨l, l1, l2, l3, l4⟩ := r2 (by omega)
    cases hm : hn s (s.size - off s) (off s) 0 with
    | none =>
      rw [hm] at pw
      exact bad _ pw (l3 hm)
    | some m =>
      rw [hm] at pw
      obtain ⟨v, q⟩ := l4 m hm
      by_cases e : (wt (sg s m)).toList = s.toList
      · rw [beq_iff_eq.2 e] at q
        refine good l (sg s m) l1 l2 v (pw.trans ?_) q
        show some (if _ then _ else _) = _
        rw [if_pos e]
      · rw [beq_eq_false_iff_ne.2 e] at q
        refine bad l (pw.trans ?_) q
        show some (if _ then _ else _) = _
        rw [if_neg e]
theorem parses_f (s : ByteArray) (hs : s.size ≤ 140737488351232) : zelligelaw01_WideParses.f 2000301 s = some true := by
  unfold zelligelaw01_WideParses.f
  by_cases h : (s.size : Int) > 200
  · rw [if_pos h, if_pos (by omega), if_pos (by omega)]
    exact parses_j0 _ (by rw [ByteArray.size_extract]; omega) 2000300 (by omega)
  · rw [if_neg h]
    exact parses_j0 _ (by omega) 2000300 (by omega)
theorem parses_calls (a0 : ByteArray) (w : World) (w0 : a0.size ≤ 140737488351232) :
    Calls Try.prog 10 #[.string a0] w fun e w' => e = .returned (.bool true) ∧ Below w.heap.size w w' :=
  zelligelaw01_WideParses.calls 2000301 a0 w (parses_f a0 w0)
end Go.Proofs.Ytbccokfdkieakaa.Wd
end
