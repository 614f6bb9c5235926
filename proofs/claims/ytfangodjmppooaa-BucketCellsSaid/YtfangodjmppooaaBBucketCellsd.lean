/- BucketCells: own texts in one (part 4 of 4): contracts of the functions that the law reaches. -/
import Derived.Test.YtfangodjmppooaaBBucketCellsc
import Derived.Deep.DeepCutAuto

section
namespace Go.Proofs.Ytfangodjmppooaa.F
open Go.RowKit Go.Proofs.YtfangodjmppooaaW.PrintWords Go.Proofs.YtfangodjmppooaaW.PrintLast Go.Proofs.YtfangodjmppooaaW.PrintMore
attribute [local go_sem] max2_int min2_int max_two min_two max_three min_three max_four min_four   -- for this text's walks alone
set_option linter.unusedVariables false
set_option linter.unusedSimpArgs false

/-! ### zelligeref04_Floor: function 31 -/
def zelligeref04_Floor.j0 : Nat → Bool → Int → List Int → Int → List Int → Int → List Int → Option (Int × List Int × Int × List Int)
  | 0, _, _, _, _, _, _, _ => none
  | k + 1, x34, x302000, x302001, x303000, x303001, x316000, x316001 => if x34 = true then ((zelligeref04_Long.f k 1).bind fun bt316 => ((zelligeref04_Sub.f k x316000 x316001 bt316.1 bt316.2).bind fun bt320 => ((zelligeref04_Mul.f k bt320.1 bt320.2 x303000 x303001).bind fun bt324 => ((zelligeref04_Sub.f k x302000 x302001 bt324.1 bt324.2).bind fun bt328 => (some (bt320.1, bt320.2, bt328.1, bt328.2)))))) else ((zelligeref04_Mul.f k x316000 x316001 x303000 x303001).bind fun bt332 => ((zelligeref04_Sub.f k x302000 x302001 bt332.1 bt332.2).bind fun bt336 => (some (x316000, x316001, bt336.1, bt336.2))))
def zelligeref04_Floor.f (k : Nat) (a0_0 : Int) (l0_1 : List Int) (a1_0 : Int) (l1_1 : List Int) : Option (Int × List Int × Int × List Int) := (zelligeref03_DivMod.f k l0_1 l1_1).bind fun bt305 => ((zelligeref04_make1.f (wrap64 (a0_0 * a1_0)) bt305.1).bind fun bt311 => (if (wrap64 (a0_0 * a1_0)) < 0 then (zelligeref04_Floor.j0 k (decide ((bt305.2.length : Int) > 0)) a0_0 l0_1 a1_0 l1_1 bt311.1 bt311.2) else (zelligeref04_Floor.j0 k false a0_0 l0_1 a1_0 l1_1 bt311.1 bt311.2)))
theorem zelligeref04_Floor.mono_l : ∀ k, (∀ y0 y1 y2 y3 y4 y5 y6, LeO (zelligeref04_Floor.j0 k y0 y1 y2 y3 y4 y5 y6) (zelligeref04_Floor.j0 (k + 1) y0 y1 y2 y3 y4 y5 y6))
  | 0 => fun _ _ _ _ _ _ _ r h => by simp [zelligeref04_Floor.j0] at h
  | k + 1 => by
    have ih0 := zelligeref04_Floor.mono_l k
    · intro y0 y1 y2 y3 y4 y5 y6
      unfold zelligeref04_Floor.j0
      repeat' first
      | (with_reducible exact ih0 _ _ _ _ _ _ _)
      | (with_reducible exact zelligeref03_DivMod.mono _ _ _)
      | (with_reducible exact zelligeref04_Long.mono _ _)
      | (with_reducible exact zelligeref04_Mul.mono _ _ _ _ _)
      | (with_reducible exact zelligeref04_Sub.mono _ _ _ _ _)
      | (with_reducible exact LeO.refl _)
      | (with_reducible exact LeO.none _)
      | (with_reducible refine LeO.ite ?_ ?_)
      | (with_reducible refine LeO.bind ?_ (fun _ => ?_))
      | exact ih0 _ _ _ _ _ _ _
      | exact zelligeref03_DivMod.mono _ _ _
      | exact zelligeref04_Long.mono _ _
      | exact zelligeref04_Mul.mono _ _ _ _ _
      | exact zelligeref04_Sub.mono _ _ _ _ _
      | exact LeO.none _
      | refine LeO.ite ?_ ?_
      | refine LeO.bind ?_ (fun _ => ?_)
theorem zelligeref04_Floor.mono : ∀ a0 a1 a2 a3 k, LeO (zelligeref04_Floor.f k a0 a1 a2 a3) (zelligeref04_Floor.f (k + 1) a0 a1 a2 a3) := by
  intro a0 a1 a2 a3 k
  have ih0 := zelligeref04_Floor.mono_l k
  unfold zelligeref04_Floor.f
  repeat' first
      | (with_reducible exact ih0 _ _ _ _ _ _ _)
      | (with_reducible exact zelligeref03_DivMod.mono _ _ _)
      | (with_reducible exact zelligeref04_Long.mono _ _)
      | (with_reducible exact zelligeref04_Mul.mono _ _ _ _ _)
      | (with_reducible exact zelligeref04_Sub.mono _ _ _ _ _)
      | (with_reducible exact LeO.refl _)
      | (with_reducible exact LeO.none _)
      | (with_reducible refine LeO.ite ?_ ?_)
      | (with_reducible refine LeO.bind ?_ (fun _ => ?_))
      | exact ih0 _ _ _ _ _ _ _
      | exact zelligeref03_DivMod.mono _ _ _
      | exact zelligeref04_Long.mono _ _
      | exact zelligeref04_Mul.mono _ _ _ _ _
      | exact zelligeref04_Sub.mono _ _ _ _ _
      | exact LeO.none _
      | refine LeO.ite ?_ ?_
      | refine LeO.bind ?_ (fun _ => ?_)
def zelligeref04_Floor.T5 : Bool × List (List Nat × List Nat) := (true, [([], []), ([], []), ([], []), ([], []), ([2, 3], [2, 3]), ([1, 4, 4], [1, 4]), ([0, 5, 0], [0]), ([5, 6, 0, 1, 2, 3, 4, 5, 6], [5])])
def zelligeref04_Floor.B5 : List Nat := [0, 0, 0, 0, 12, 30, 63, 127]
theorem zelligeref04_Floor.tab5 : rtab .any (opsOf Try.f31 5) = zelligeref04_Floor.T5 := by kernel_rfl
theorem zelligeref04_Floor.bits5 : waitsOk zelligeref04_Floor.T5.2 zelligeref04_Floor.B5 = true := by kernel_rfl
set_option maxHeartbeats 8000000 in
set_option maxRecDepth 100000 in
theorem zelligeref04_Floor.calls (k : Nat) (a0_0 : Int) (P0_1_ : Nat → Prop) (u9000_ : Value) (l0_1 : List Int) (a1_0 : Int) (A1_1 : Option Addr) (c1_1 : Nat) (l1_1 : List Int) (r1 : Int) (r2 : List Int) (r3 : Int) (r4 : List Int) (w0 w : World) (hB : Below w0.heap.size w0 w) (ho0_1 : Kd.R (Kd.int .i64) 3 w w0.heap.size P0_1_ u9000_ l0_1) (hr1_1 : ∀ W_, Kept w W_ (fun k_ => P0_1_ k_) → Kd.C (Kd.int .i64) W_ A1_1 l1_1.length l1_1) (hc1_1 : l1_1.length ≤ c1_1) (h : zelligeref04_Floor.f k a0_0 l0_1 a1_0 l1_1 = some (r1, r2, r3, r4)) :
    Calls Try.prog 31 #[.agg #[.int .i64 a0_0, u9000_], .agg #[.int .i64 a1_0, .slice A1_1 l1_1.length c1_1]] w fun e w' => ∃ v1_ v3_ : Value, e = .returned (.tuple #[.agg #[.int .i64 r1, v1_], .agg #[.int .i64 r3, v3_]]) ∧ Kd.R (Kd.int .i64) 3 w' w0.heap.size (fun k_ => (P0_1_ k_ ∨ w.heap.size ≤ k_) ∧ some k_ ≠ (v3_ : Value).ownBlock) v1_ r2 ∧ Kd.R (Kd.int .i64) 3 w' w0.heap.size (fun k_ => (P0_1_ k_ ∨ w.heap.size ≤ k_) ∧ some k_ ≠ (v1_ : Value).ownBlock) v3_ r4 ∧ Below w0.heap.size w0 w' ∧ Kept w w' (fun k_ => P0_1_ k_) := by
  have hu71 := Try.underlying71
  have HO0_1 := Aside0.mk (show Kd.R (Kd.int .i64) 3 w w0.heap.size (fun k_ => (P0_1_ k_ ∨ w.heap.size ≤ k_)) u9000_ l0_1 from Kd.R_mono ho0_1 (fun k_ hk => (.inl hk)))
  have HR1_1 := Aside0.mk hr1_1
  have HC1_1 := Aside0.mk hc1_1
  clear hr1_1 hc1_1
  have HK := Aside0.mk (Kept.refl w (fun k_ => P0_1_ k_))
  have HW0 := Aside0.mk hB.size
  have HB := Aside0.mk hB
  clear hB
  have H : ((zelligeref03_DivMod.f k l0_1 l1_1).bind fun bt305 => ((zelligeref04_make1.f (wrap64 (a0_0 * a1_0)) bt305.1).bind fun bt311 => (if (wrap64 (a0_0 * a1_0)) < 0 then (zelligeref04_Floor.j0 k (decide ((bt305.2.length : Int) > 0)) a0_0 l0_1 a1_0 l1_1 bt311.1 bt311.2) else (zelligeref04_Floor.j0 k false a0_0 l0_1 a1_0 l1_1 bt311.1 bt311.2)))) = some (r1, r2, r3, r4) := h
  clear h
  replace H := Option.bind_eq_some_iff.mp H
  obtain ⟨⟨t305, t306⟩, A30, H⟩ := H
  replace H : ((zelligeref04_make1.f (wrap64 (a0_0 * a1_0)) t305).bind fun bt311 => (if (wrap64 (a0_0 * a1_0)) < 0 then (zelligeref04_Floor.j0 k (decide ((t306.length : Int) > 0)) a0_0 l0_1 a1_0 l1_1 bt311.1 bt311.2) else (zelligeref04_Floor.j0 k false a0_0 l0_1 a1_0 l1_1 bt311.1 bt311.2))) = some (r1, r2, r3, r4) := H
  have A3 := Aside0.mk A30
  clear A30
  replace H := Option.bind_eq_some_iff.mp H
  obtain ⟨⟨t311, t312⟩, A40, H⟩ := H
  replace H : (if (wrap64 (a0_0 * a1_0)) < 0 then (zelligeref04_Floor.j0 k (decide ((t306.length : Int) > 0)) a0_0 l0_1 a1_0 l1_1 t311 t312) else (zelligeref04_Floor.j0 k false a0_0 l0_1 a1_0 l1_1 t311 t312)) = some (r1, r2, r3, r4) := H
  have A4 := Aside0.mk A40
  clear A40
  have HC5 := Aside0.mk H
  clear H
  obtain ⟨Ao6, co6, eo6⟩ := Kd.R_slice HO0_1.out
  subst eo6
  go_enter Try.func31, Try.ntmps31
  go_upto_region 3 with (first | ((with_reducible refine gate_dst (N := 2) rfl ?_); (try (refine gate_guard (by rfl) ?_; dsimp only)); refine box_event ?hg (N := 2) ?hd (cs := #[.int .i64 a0_0, .slice Ao6 l0_1.length co6]) (t := 71) ?hr ?_; (case hd => rfl); (case hg => rfl); (case hr => first | (go_simp; done) | (go_simp; rfl)); intro gb301 hg w7 hbox hb; have n0_ := Aside0.mk (Kd.R_below (by (with_reducible repeat (first | apply Kd.R_alloc | apply Kd.R_drewN | apply Kd.R_drew)); exact HO0_1.out) hb); have n1_ := Aside0.mk (Kept.below (S := (fun k_ => P0_1_ k_)) (by repeat (first | (with_reducible first | exact HK.out | apply Kept.alloc | apply Kept.drewN | apply Kept.drew) | exact HK.out)) hb); have n2_ := Aside0.mk (below_step (by repeat (first | (with_reducible first | exact HB.out | apply below_alloc | apply pw_below_drewN | apply below_drew1) | exact HB.out)) hb); have n3_ := Aside0.mk (hbox); have n4_ := Aside0.mk ((by rw [hg]; exact (by first | exact HK.out.1 | exact (show Kept w _ (fun k_ => P0_1_ k_) from by repeat (first | (with_reducible first | exact HK.out | apply Kept.alloc | apply Kept.drewN | apply Kept.drew) | exact HK.out)).1) : w.heap.size ≤ gb301)); have n5_ := Aside0.mk ((by rw [hg]; exact (below_size (by repeat (first | (with_reducible first | exact HB.out | apply below_alloc | apply pw_below_drewN | apply below_drew1) | exact HB.out))) : w0.heap.size ≤ gb301)); clear HO0_1; clear HK; clear HB; have HO0_1 := n0_; have HK := n1_; have HB := n2_; have BK301 := n3_; have GW301 := n4_; have GE301 := n5_; clear n0_ n1_ n2_ n3_ n4_ n5_; clear hb hbox hg) | ((with_reducible refine gate_dst (N := 3) rfl ?_); (try (refine gate_guard (by rfl) ?_; dsimp only)); refine box_event ?hg (N := 3) ?hd (cs := #[.int .i64 a1_0, .slice A1_1 l1_1.length c1_1]) (t := 71) ?hr ?_; (case hd => rfl); (case hg => rfl); (case hr => first | (go_simp; done) | (go_simp; rfl)); intro gb302 hg w8 hbox hb; have n0_ := Aside0.mk (Kd.R_below (by (with_reducible repeat (first | apply Kd.R_alloc | apply Kd.R_drewN | apply Kd.R_drew)); exact HO0_1.out) hb); have n1_ := Aside0.mk (blk_below (g := gb301) (o := .cells #[.int .i64 a0_0, .slice Ao6 l0_1.length co6] 71 (0, 0)) (by (with_reducible repeat (first | refine blk_drewN ?_ _ | refine blk_drew ?_ | refine blk_alloc ?_ _)); exact BK301.out) hb); have n2_ := Aside0.mk (Kept.below (S := (fun k_ => P0_1_ k_)) (by repeat (first | (with_reducible first | exact HK.out | apply Kept.alloc | apply Kept.drewN | apply Kept.drew | refine Kept.setCell ?_ (.inr GW301.out) _) | exact HK.out)) hb); have n3_ := Aside0.mk (below_step (by repeat (first | (with_reducible first | exact HB.out | apply below_alloc | apply pw_below_drewN | apply below_drew1 | refine below_set ?_ GE301.out) | exact HB.out)) hb); have n4_ := Aside0.mk (hbox); have n5_ := Aside0.mk ((by rw [hg]; exact (by first | exact HK.out.1 | exact (show Kept w _ (fun k_ => P0_1_ k_) from by repeat (first | (with_reducible first | exact HK.out | apply Kept.alloc | apply Kept.drewN | apply Kept.drew | refine Kept.setCell ?_ (.inr GW301.out) _) | exact HK.out)).1) : w.heap.size ≤ gb302)); have n6_ := Aside0.mk ((by rw [hg]; exact (below_size (by repeat (first | (with_reducible first | exact HB.out | apply below_alloc | apply pw_below_drewN | apply below_drew1 | refine below_set ?_ GE301.out) | exact HB.out))) : w0.heap.size ≤ gb302)); have n7_ := Aside0.mk ((by rw [hg]; exact Nat.ne_of_lt (blk_lt (g := gb301) (o := .cells #[.int .i64 a0_0, .slice Ao6 l0_1.length co6] 71 (0, 0)) (by (with_reducible repeat (first | refine blk_drewN ?_ _ | refine blk_drew ?_ | refine blk_alloc ?_ _)); exact BK301.out)) : gb301 ≠ gb302)); have n8_ := Aside0.mk ((by rw [hg]; exact Nat.ne_of_gt (blk_lt (g := gb301) (o := .cells #[.int .i64 a0_0, .slice Ao6 l0_1.length co6] 71 (0, 0)) (by (with_reducible repeat (first | refine blk_drewN ?_ _ | refine blk_drew ?_ | refine blk_alloc ?_ _)); exact BK301.out)) : gb302 ≠ gb301)); clear HO0_1; clear BK301; clear HK; clear HB; have HO0_1 := n0_; have BK301 := n1_; have HK := n2_; have HB := n3_; have BK302 := n4_; have GW302 := n5_; have GE302 := n6_; have NB301_302 := n7_; have NB302_301 := n8_; clear n0_ n1_ n2_ n3_ n4_ n5_ n6_ n7_ n8_; clear hb hbox hg) | ((with_reducible refine gate_dst (N := 4) rfl ?_); (try (refine gate_guard (by rfl) ?_; dsimp only)); refine box_event ?hg (N := 4) ?hd (cs := #[.int .i64 0, .slice none 0 0]) (t := 71) ?hr ?_; (case hd => rfl); (case hg => rfl); (case hr => first | (go_simp; done) | (go_simp; rfl)); intro gb303 hg w9 hbox hb; have n0_ := Aside0.mk (Kd.R_below (by (with_reducible repeat (first | apply Kd.R_alloc | apply Kd.R_drewN | apply Kd.R_drew)); exact HO0_1.out) hb); have n1_ := Aside0.mk (blk_below (g := gb301) (o := .cells #[.int .i64 a0_0, .slice Ao6 l0_1.length co6] 71 (0, 0)) (by (with_reducible repeat (first | refine blk_drewN ?_ _ | refine blk_drew ?_ | refine blk_alloc ?_ _)); exact BK301.out) hb); have n2_ := Aside0.mk (blk_below (g := gb302) (o := .cells #[.int .i64 a1_0, .slice A1_1 l1_1.length c1_1] 71 (0, 0)) (by (with_reducible repeat (first | refine blk_drewN ?_ _ | refine blk_drew ?_ | refine blk_alloc ?_ _)); exact BK302.out) hb); have n3_ := Aside0.mk (Kept.below (S := (fun k_ => P0_1_ k_)) (by repeat (first | (with_reducible first | exact HK.out | apply Kept.alloc | apply Kept.drewN | apply Kept.drew | refine Kept.setCell ?_ (.inr GW301.out) _ | refine Kept.setCell ?_ (.inr GW302.out) _) | exact HK.out)) hb); have n4_ := Aside0.mk (below_step (by repeat (first | (with_reducible first | exact HB.out | apply below_alloc | apply pw_below_drewN | apply below_drew1 | refine below_set ?_ GE301.out | refine below_set ?_ GE302.out) | exact HB.out)) hb); have n5_ := Aside0.mk (hbox); have n6_ := Aside0.mk ((by rw [hg]; exact (by first | exact HK.out.1 | exact (show Kept w _ (fun k_ => P0_1_ k_) from by repeat (first | (with_reducible first | exact HK.out | apply Kept.alloc | apply Kept.drewN | apply Kept.drew | refine Kept.setCell ?_ (.inr GW301.out) _ | refine Kept.setCell ?_ (.inr GW302.out) _) | exact HK.out)).1) : w.heap.size ≤ gb303)); have n7_ := Aside0.mk ((by rw [hg]; exact (below_size (by repeat (first | (with_reducible first | exact HB.out | apply below_alloc | apply pw_below_drewN | apply below_drew1 | refine below_set ?_ GE301.out | refine below_set ?_ GE302.out) | exact HB.out))) : w0.heap.size ≤ gb303)); have n8_ := Aside0.mk ((by rw [hg]; exact Nat.ne_of_lt (blk_lt (g := gb301) (o := .cells #[.int .i64 a0_0, .slice Ao6 l0_1.length co6] 71 (0, 0)) (by (with_reducible repeat (first | refine blk_drewN ?_ _ | refine blk_drew ?_ | refine blk_alloc ?_ _)); exact BK301.out)) : gb301 ≠ gb303)); have n9_ := Aside0.mk ((by rw [hg]; exact Nat.ne_of_gt (blk_lt (g := gb301) (o := .cells #[.int .i64 a0_0, .slice Ao6 l0_1.length co6] 71 (0, 0)) (by (with_reducible repeat (first | refine blk_drewN ?_ _ | refine blk_drew ?_ | refine blk_alloc ?_ _)); exact BK301.out)) : gb303 ≠ gb301)); have n10_ := Aside0.mk ((by rw [hg]; exact Nat.ne_of_lt (blk_lt (g := gb302) (o := .cells #[.int .i64 a1_0, .slice A1_1 l1_1.length c1_1] 71 (0, 0)) (by (with_reducible repeat (first | refine blk_drewN ?_ _ | refine blk_drew ?_ | refine blk_alloc ?_ _)); exact BK302.out)) : gb302 ≠ gb303)); have n11_ := Aside0.mk ((by rw [hg]; exact Nat.ne_of_gt (blk_lt (g := gb302) (o := .cells #[.int .i64 a1_0, .slice A1_1 l1_1.length c1_1] 71 (0, 0)) (by (with_reducible repeat (first | refine blk_drewN ?_ _ | refine blk_drew ?_ | refine blk_alloc ?_ _)); exact BK302.out)) : gb303 ≠ gb302)); clear HO0_1; clear BK301; clear BK302; clear HK; clear HB; have HO0_1 := n0_; have BK301 := n1_; have BK302 := n2_; have HK := n3_; have HB := n4_; have BK303 := n5_; have GW303 := n6_; have GE303 := n7_; have NB301_303 := n8_; have NB303_301 := n9_; have NB302_303 := n10_; have NB303_302 := n11_; clear n0_ n1_ n2_ n3_ n4_ n5_ n6_ n7_ n8_ n9_ n10_ n11_; clear hb hbox hg) | ((with_reducible refine gate_dst (N := 5) rfl ?_); (try (refine gate_guard (by rfl) ?_; dsimp only)); refine box_event ?hg (N := 5) ?hd (cs := #[.int .i64 0, .slice none 0 0]) (t := 71) ?hr ?_; (case hd => rfl); (case hg => rfl); (case hr => first | (go_simp; done) | (go_simp; rfl)); intro gb304 hg w10 hbox hb; have n0_ := Aside0.mk (Kd.R_below (by (with_reducible repeat (first | apply Kd.R_alloc | apply Kd.R_drewN | apply Kd.R_drew)); exact HO0_1.out) hb); have n1_ := Aside0.mk (blk_below (g := gb301) (o := .cells #[.int .i64 a0_0, .slice Ao6 l0_1.length co6] 71 (0, 0)) (by (with_reducible repeat (first | refine blk_drewN ?_ _ | refine blk_drew ?_ | refine blk_alloc ?_ _)); exact BK301.out) hb); have n2_ := Aside0.mk (blk_below (g := gb302) (o := .cells #[.int .i64 a1_0, .slice A1_1 l1_1.length c1_1] 71 (0, 0)) (by (with_reducible repeat (first | refine blk_drewN ?_ _ | refine blk_drew ?_ | refine blk_alloc ?_ _)); exact BK302.out) hb); have n3_ := Aside0.mk (blk_below (g := gb303) (o := .cells #[.int .i64 0, .slice none 0 0] 71 (0, 0)) (by (with_reducible repeat (first | refine blk_drewN ?_ _ | refine blk_drew ?_ | refine blk_alloc ?_ _)); exact BK303.out) hb); have n4_ := Aside0.mk (Kept.below (S := (fun k_ => P0_1_ k_)) (by repeat (first | (with_reducible first | exact HK.out | apply Kept.alloc | apply Kept.drewN | apply Kept.drew | refine Kept.setCell ?_ (.inr GW301.out) _ | refine Kept.setCell ?_ (.inr GW302.out) _ | refine Kept.setCell ?_ (.inr GW303.out) _) | exact HK.out)) hb); have n5_ := Aside0.mk (below_step (by repeat (first | (with_reducible first | exact HB.out | apply below_alloc | apply pw_below_drewN | apply below_drew1 | refine below_set ?_ GE301.out | refine below_set ?_ GE302.out | refine below_set ?_ GE303.out) | exact HB.out)) hb); have n6_ := Aside0.mk (hbox); have n7_ := Aside0.mk ((by rw [hg]; exact (by first | exact HK.out.1 | exact (show Kept w _ (fun k_ => P0_1_ k_) from by repeat (first | (with_reducible first | exact HK.out | apply Kept.alloc | apply Kept.drewN | apply Kept.drew | refine Kept.setCell ?_ (.inr GW301.out) _ | refine Kept.setCell ?_ (.inr GW302.out) _ | refine Kept.setCell ?_ (.inr GW303.out) _) | exact HK.out)).1) : w.heap.size ≤ gb304)); have n8_ := Aside0.mk ((by rw [hg]; exact (below_size (by repeat (first | (with_reducible first | exact HB.out | apply below_alloc | apply pw_below_drewN | apply below_drew1 | refine below_set ?_ GE301.out | refine below_set ?_ GE302.out | refine below_set ?_ GE303.out) | exact HB.out))) : w0.heap.size ≤ gb304)); have n9_ := Aside0.mk ((by rw [hg]; exact Nat.ne_of_lt (blk_lt (g := gb301) (o := .cells #[.int .i64 a0_0, .slice Ao6 l0_1.length co6] 71 (0, 0)) (by (with_reducible repeat (first | refine blk_drewN ?_ _ | refine blk_drew ?_ | refine blk_alloc ?_ _)); exact BK301.out)) : gb301 ≠ gb304)); have n10_ := Aside0.mk ((by rw [hg]; exact Nat.ne_of_gt (blk_lt (g := gb301) (o := .cells #[.int .i64 a0_0, .slice Ao6 l0_1.length co6] 71 (0, 0)) (by (with_reducible repeat (first | refine blk_drewN ?_ _ | refine blk_drew ?_ | refine blk_alloc ?_ _)); exact BK301.out)) : gb304 ≠ gb301)); have n11_ := Aside0.mk ((by rw [hg]; exact Nat.ne_of_lt (blk_lt (g := gb302) (o := .cells #[.int .i64 a1_0, .slice A1_1 l1_1.length c1_1] 71 (0, 0)) (by (with_reducible repeat (first | refine blk_drewN ?_ _ | refine blk_drew ?_ | refine blk_alloc ?_ _)); exact BK302.out)) : gb302 ≠ gb304)); have n12_ := Aside0.mk ((by rw [hg]; exact Nat.ne_of_gt (blk_lt (g := gb302) (o := .cells #[.int .i64 a1_0, .slice A1_1 l1_1.length c1_1] 71 (0, 0)) (by (with_reducible repeat (first | refine blk_drewN ?_ _ | refine blk_drew ?_ | refine blk_alloc ?_ _)); exact BK302.out)) : gb304 ≠ gb302)); have n13_ := Aside0.mk ((by rw [hg]; exact Nat.ne_of_lt (blk_lt (g := gb303) (o := .cells #[.int .i64 0, .slice none 0 0] 71 (0, 0)) (by (with_reducible repeat (first | refine blk_drewN ?_ _ | refine blk_drew ?_ | refine blk_alloc ?_ _)); exact BK303.out)) : gb303 ≠ gb304)); have n14_ := Aside0.mk ((by rw [hg]; exact Nat.ne_of_gt (blk_lt (g := gb303) (o := .cells #[.int .i64 0, .slice none 0 0] 71 (0, 0)) (by (with_reducible repeat (first | refine blk_drewN ?_ _ | refine blk_drew ?_ | refine blk_alloc ?_ _)); exact BK303.out)) : gb304 ≠ gb303)); clear HO0_1; clear BK301; clear BK302; clear BK303; clear HK; clear HB; have HO0_1 := n0_; have BK301 := n1_; have BK302 := n2_; have BK303 := n3_; have HK := n4_; have HB := n5_; have BK304 := n6_; have GW304 := n7_; have GE304 := n8_; have NB301_304 := n9_; have NB304_301 := n10_; have NB302_304 := n11_; have NB304_302 := n12_; have NB303_304 := n13_; have NB304_303 := n14_; clear n0_ n1_ n2_ n3_ n4_ n5_ n6_ n7_ n8_ n9_ n10_ n11_ n12_ n13_ n14_; clear hb hbox hg; have hnb11 := NB301_302.out; have hnc11 := NB302_301.out; have hnb12 := NB301_303.out; have hnc12 := NB303_301.out; have hnb13 := NB301_304.out; have hnc13 := NB304_301.out; have hcz14_0 : w10.cell? ⟨gb301, 0, none⟩ = some (.int .i64 a0_0) := (blk_cell BK301.out 0).trans rfl; have hcz14_1 : w10.cell? ⟨gb301, 1, none⟩ = some (.slice Ao6 l0_1.length co6) := (blk_cell BK301.out 1).trans rfl; have hfz14_0 := blk_frozen BK301.out 0; have hfz14_1 := blk_frozen BK301.out 1; have hnb15 := NB302_303.out; have hnc15 := NB303_302.out; have hnb16 := NB302_304.out; have hnc16 := NB304_302.out; have hcz17_0 : w10.cell? ⟨gb302, 0, none⟩ = some (.int .i64 a1_0) := (blk_cell BK302.out 0).trans rfl; have hcz17_1 : w10.cell? ⟨gb302, 1, none⟩ = some (.slice A1_1 l1_1.length c1_1) := (blk_cell BK302.out 1).trans rfl; have hfz17_0 := blk_frozen BK302.out 0; have hfz17_1 := blk_frozen BK302.out 1) | ((with_reducible refine gate_callee (f := 39) rfl ?_); refine goesL_ (some 14) rfl rfl Try.func39 (by kernel_rfl) rfl #[.slice Ao6 l0_1.length co6, .slice A1_1 l1_1.length c1_1] rfl (by (try simp only [List.map_toArray, List.map_cons, List.map_nil]); first | done | rfl | (simp only [List.length_drop, List.length_take]; rfl)) ?_; (with_reducible refine (zelligeref03_DivMod.calls k _ _ l0_1 _ _ l1_1 t305 t306 _ ?side1 ?side2 ?side3 ?side4 A3.out).mono ?_); (case side1 => repeat (first | exact (Kd.R_reads' HO0_1.out).2.2 | (with_reducible refine Kd.C_alloc ?_ _) | (with_reducible refine Kd.C_drewN ?_ _) | (with_reducible refine Kd.C_drew ?_))); (case side2 => exact (Kd.R_reads' HO0_1.out).2.1); (case side3 => exact Kd.C_kept_now HR1_1.out (by repeat (first | (with_reducible first | exact HK.out | apply Kept.alloc | apply Kept.drewN | apply Kept.drew | refine Kept.setCell ?_ (.inr GW301.out) _ | refine Kept.setCell ?_ (.inr GW302.out) _ | refine Kept.setCell ?_ (.inr GW303.out) _ | refine Kept.setCell ?_ (.inr GW304.out) _) | exact HK.out))); (case side4 => exact HC1_1.out); rintro e w18 ⟨v307, v309, rfl, ho0, ho1, hb⟩; refine ⟨_, rfl, ?_⟩; have n0_ := Aside0.mk (Kd.R_mono (Kd.R_told (Kd.R_told (Kd.R_old (by (with_reducible repeat (first | apply Kd.R_alloc | apply Kd.R_drewN | apply Kd.R_drew)); exact HO0_1.out) hb) (Kd.R_base ho0)) (Kd.R_base ho1)) (fun _ h_ => h_.1)); have n1_ := Aside0.mk (Kd.R_lower (Kd.R_new' (Kd.R_newM (M := fun k_ => (P0_1_ k_ ∨ w.heap.size ≤ k_)) ho0 (by first | exact HK.out.1 | exact (show Kept w _ (fun k_ => P0_1_ k_) from by repeat (first | (with_reducible first | exact HK.out | apply Kept.alloc | apply Kept.drewN | apply Kept.drew | refine Kept.setCell ?_ (.inr GW301.out) _ | refine Kept.setCell ?_ (.inr GW302.out) _ | refine Kept.setCell ?_ (.inr GW303.out) _ | refine Kept.setCell ?_ (.inr GW304.out) _) | exact HK.out)).1) (fun k_ h_ => .inr h_)) (Kd.R_lt (by (with_reducible repeat (first | apply Kd.R_alloc | apply Kd.R_drewN | apply Kd.R_drew)); exact HO0_1.out))) (below_size (by repeat (first | (with_reducible first | exact HB.out | apply below_alloc | apply pw_below_drewN | apply below_drew1 | refine below_set ?_ GE301.out | refine below_set ?_ GE302.out | refine below_set ?_ GE303.out | refine below_set ?_ GE304.out) | exact HB.out)))); have n2_ := Aside0.mk (Kd.R_lower (Kd.R_new' (Kd.R_newM (M := fun k_ => (P0_1_ k_ ∨ w.heap.size ≤ k_)) ho1 (by first | exact HK.out.1 | exact (show Kept w _ (fun k_ => P0_1_ k_) from by repeat (first | (with_reducible first | exact HK.out | apply Kept.alloc | apply Kept.drewN | apply Kept.drew | refine Kept.setCell ?_ (.inr GW301.out) _ | refine Kept.setCell ?_ (.inr GW302.out) _ | refine Kept.setCell ?_ (.inr GW303.out) _ | refine Kept.setCell ?_ (.inr GW304.out) _) | exact HK.out)).1) (fun k_ h_ => .inr h_)) (Kd.R_lt (by (with_reducible repeat (first | apply Kd.R_alloc | apply Kd.R_drewN | apply Kd.R_drew)); exact HO0_1.out))) (below_size (by repeat (first | (with_reducible first | exact HB.out | apply below_alloc | apply pw_below_drewN | apply below_drew1 | refine below_set ?_ GE301.out | refine below_set ?_ GE302.out | refine below_set ?_ GE303.out | refine below_set ?_ GE304.out) | exact HB.out)))); have n3_ := Aside0.mk (blk_below (g := gb301) (o := .cells #[.int .i64 a0_0, .slice Ao6 l0_1.length co6] 71 (0, 0)) (by (with_reducible repeat (first | refine blk_drewN ?_ _ | refine blk_drew ?_ | refine blk_alloc ?_ _)); exact BK301.out) hb); have n4_ := Aside0.mk (blk_below (g := gb302) (o := .cells #[.int .i64 a1_0, .slice A1_1 l1_1.length c1_1] 71 (0, 0)) (by (with_reducible repeat (first | refine blk_drewN ?_ _ | refine blk_drew ?_ | refine blk_alloc ?_ _)); exact BK302.out) hb); have n5_ := Aside0.mk (blk_below (g := gb303) (o := .cells #[.int .i64 0, .slice none 0 0] 71 (0, 0)) (by (with_reducible repeat (first | refine blk_drewN ?_ _ | refine blk_drew ?_ | refine blk_alloc ?_ _)); exact BK303.out) hb); have n6_ := Aside0.mk (blk_below (g := gb304) (o := .cells #[.int .i64 0, .slice none 0 0] 71 (0, 0)) (by (with_reducible repeat (first | refine blk_drewN ?_ _ | refine blk_drew ?_ | refine blk_alloc ?_ _)); exact BK304.out) hb); have n7_ := Aside0.mk (Kept.below (S := (fun k_ => P0_1_ k_)) (by repeat (first | (with_reducible first | exact HK.out | apply Kept.alloc | apply Kept.drewN | apply Kept.drew | refine Kept.setCell ?_ (.inr GW301.out) _ | refine Kept.setCell ?_ (.inr GW302.out) _ | refine Kept.setCell ?_ (.inr GW303.out) _ | refine Kept.setCell ?_ (.inr GW304.out) _) | exact HK.out)) hb); have n8_ := Aside0.mk (below_step (by repeat (first | (with_reducible first | exact HB.out | apply below_alloc | apply pw_below_drewN | apply below_drew1 | refine below_set ?_ GE301.out | refine below_set ?_ GE302.out | refine below_set ?_ GE303.out | refine below_set ?_ GE304.out) | exact HB.out)) hb); clear HO0_1; clear BK301; clear BK302; clear BK303; clear BK304; clear HK; clear HB; have HO0_1 := n0_; have HO308 := n1_; have HO310 := n2_; have BK301 := n3_; have BK302 := n4_; have BK303 := n5_; have BK304 := n6_; have HK := n7_; have HB := n8_; clear n0_ n1_ n2_ n3_ n4_ n5_ n6_ n7_ n8_; (try clear hb); (try clear hb2); (try clear hk); (try clear hi); (try clear ho0); (try clear ho1); have hcz19_0 : w18.cell? ⟨gb301, 0, none⟩ = some (.int .i64 a0_0) := (blk_cell BK301.out 0).trans rfl; have hcz19_1 : w18.cell? ⟨gb301, 1, none⟩ = some (.slice Ao6 l0_1.length co6) := (blk_cell BK301.out 1).trans rfl; have hfz19_0 := blk_frozen BK301.out 0; have hfz19_1 := blk_frozen BK301.out 1; have hcz20_0 : w18.cell? ⟨gb302, 0, none⟩ = some (.int .i64 a1_0) := (blk_cell BK302.out 0).trans rfl; have hcz20_1 : w18.cell? ⟨gb302, 1, none⟩ = some (.slice A1_1 l1_1.length c1_1) := (blk_cell BK302.out 1).trans rfl; have hfz20_0 := blk_frozen BK302.out 0; have hfz20_1 := blk_frozen BK302.out 1; obtain ⟨Ao21, co21, eo21⟩ := Kd.R_slice HO308.out; subst eo21) | ((with_reducible refine gate_callee (f := 40) rfl ?_); refine goesL_ (some 23) rfl rfl Try.func40 (by kernel_rfl) rfl #[.int .i64 (wrap64 (a0_0 * a1_0)), .slice Ao21 t305.length co21] rfl (by (try simp only [List.map_toArray, List.map_cons, List.map_nil]); first | done | rfl | (simp only [List.length_drop, List.length_take]; rfl)) ?_; (with_reducible refine (zelligeref04_make1.calls (wrap64 (a0_0 * a1_0)) (fun k_ => some k_ = (.slice Ao21 t305.length co21 : Value).ownBlock) (.slice Ao21 t305.length co21) t305 t311 t312 w0 _ ?side1 ?side2 A4.out).mono ?_); (case side1 => repeat (first | (with_reducible first | exact HB.out | apply below_alloc | apply pw_below_drewN | apply below_drew1 | refine below_set ?_ GE301.out | refine below_set ?_ GE302.out | refine below_set ?_ GE303.out | refine below_set ?_ GE304.out) | exact HB.out)); (case side2 => exact Kd.R_tight rfl HO308.out); rintro e w22 ⟨v313, rfl, ho0, hb, hkp⟩; refine ⟨_, rfl, ?_⟩; have n0_ := Aside0.mk (Kd.R_mono (ok' := fun k_ => (P0_1_ k_ ∨ w.heap.size ≤ k_) ∧ some k_ ≠ (v309 : Value).ownBlock ∧ some k_ ≠ (v313 : Value).ownBlock) (Kd.R_keptB (HO0_1.out) hkp (fun k_ hk_ hs_ => (hk_.1.2) hs_)) (fun k_ hk_ => ⟨hk_.1.1.1, hk_.1.2, fun e_ => Or.elim (ho0.1 k_ e_.symm) (fun hs_ => hk_.2.1 hs_) (fun hn_ => Nat.not_le.2 hk_.2.2 hn_)⟩)); have n1_ := Aside0.mk (blk_kept (by (with_reducible repeat (first | refine blk_drewN ?_ _ | refine blk_drew ?_ | refine blk_alloc ?_ _)); exact BK301.out) hkp (fun hs_ => (fun e_ => (Kd.R_ne HO308.out BK301.out (by decide)) e_) hs_)); have n2_ := Aside0.mk (blk_kept (by (with_reducible repeat (first | refine blk_drewN ?_ _ | refine blk_drew ?_ | refine blk_alloc ?_ _)); exact BK302.out) hkp (fun hs_ => (fun e_ => (Kd.R_ne HO308.out BK302.out (by decide)) e_) hs_)); have n3_ := Aside0.mk (blk_kept (by (with_reducible repeat (first | refine blk_drewN ?_ _ | refine blk_drew ?_ | refine blk_alloc ?_ _)); exact BK303.out) hkp (fun hs_ => (fun e_ => (Kd.R_ne HO308.out BK303.out (by decide)) e_) hs_)); have n4_ := Aside0.mk (blk_kept (by (with_reducible repeat (first | refine blk_drewN ?_ _ | refine blk_drew ?_ | refine blk_alloc ?_ _)); exact BK304.out) hkp (fun hs_ => (fun e_ => (Kd.R_ne HO308.out BK304.out (by decide)) e_) hs_)); have n5_ := Aside0.mk (Kd.R_mono (ok' := fun k_ => (P0_1_ k_ ∨ w.heap.size ≤ k_) ∧ some k_ ≠ (.slice Ao6 l0_1.length co6 : Value).ownBlock ∧ some k_ ≠ (v313 : Value).ownBlock) (Kd.R_keptB (HO310.out) hkp (fun k_ hk_ hs_ => (hk_.1.2) hs_)) (fun k_ hk_ => ⟨hk_.1.1.1, hk_.1.2, fun e_ => Or.elim (ho0.1 k_ e_.symm) (fun hs_ => hk_.2.1 hs_) (fun hn_ => Nat.not_le.2 hk_.2.2 hn_)⟩)); have n6_ := Aside0.mk (Kd.R_mono (ok' := fun k_ => (P0_1_ k_ ∨ w.heap.size ≤ k_) ∧ some k_ ≠ (.slice Ao6 l0_1.length co6 : Value).ownBlock ∧ some k_ ≠ (v309 : Value).ownBlock) ho0 (fun k_ hk_ => ⟨Or.elim hk_ (fun hs_ => (HO308.out.1 k_ (hs_).symm).1.1) (fun hn_ => (.inr (Nat.le_trans (by first | exact HK.out.1 | exact (show Kept w _ (fun k_ => P0_1_ k_) from by repeat (first | (with_reducible first | exact HK.out | apply Kept.alloc | apply Kept.drewN | apply Kept.drew | refine Kept.setCell ?_ (.inr GW301.out) _ | refine Kept.setCell ?_ (.inr GW302.out) _ | refine Kept.setCell ?_ (.inr GW303.out) _ | refine Kept.setCell ?_ (.inr GW304.out) _) | exact HK.out)).1) hn_))), Or.elim hk_ (fun hs_ => fun e_ => (((HO0_1.out).1 k_ e_.symm).1.2) hs_) (fun hn_ => (Kd.fresh' (Kd.R_lt (by (with_reducible repeat (first | apply Kd.R_alloc | apply Kd.R_drewN | apply Kd.R_drew)); exact HO0_1.out)) k_ hn_)), Or.elim hk_ (fun hs_ => fun e_ => (((HO310.out).1 k_ e_.symm).1.2) hs_) (fun hn_ => (Kd.fresh' (Kd.R_lt (by (with_reducible repeat (first | apply Kd.R_alloc | apply Kd.R_drewN | apply Kd.R_drew)); exact HO310.out)) k_ hn_))⟩)); have n7_ := Aside0.mk (Kept.then_ (S := (fun k_ => P0_1_ k_)) (by repeat (first | (with_reducible first | exact HK.out | apply Kept.alloc | apply Kept.drewN | apply Kept.drew | refine Kept.setCell ?_ (.inr GW301.out) _ | refine Kept.setCell ?_ (.inr GW302.out) _ | refine Kept.setCell ?_ (.inr GW303.out) _ | refine Kept.setCell ?_ (.inr GW304.out) _) | exact HK.out)) hkp (fun k_ hs_ => (fun e_ => (HO308.out.1 k_ e_.symm).1.1) hs_)); have n8_ := Aside0.mk (hb); clear HO0_1; clear BK301; clear BK302; clear BK303; clear BK304; clear HO310; clear HK; clear HB; clear HO308; have HO0_1 := n0_; have BK301 := n1_; have BK302 := n2_; have BK303 := n3_; have BK304 := n4_; have HO310 := n5_; have HO314 := n6_; have HK := n7_; have HB := n8_; clear n0_ n1_ n2_ n3_ n4_ n5_ n6_ n7_ n8_; (try clear hb); (try clear hkp); (try clear ho0)) | ((with_reducible refine gate_dst (N := 8) rfl ?_); (try (refine gate_guard (by rfl) ?_; dsimp only)); refine box_event ?hg (N := 8) ?hd (cs := #[.int .i64 0, .slice none 0 0]) (t := 71) ?hr ?_; (case hd => rfl); (case hg => rfl); (case hr => first | (go_simp; done) | (go_simp; rfl)); intro gb315 hg w23 hbox hb; have n0_ := Aside0.mk (Kd.R_below (by (with_reducible repeat (first | apply Kd.R_alloc | apply Kd.R_drewN | apply Kd.R_drew)); exact HO0_1.out) hb); have n1_ := Aside0.mk (Kd.R_below (by (with_reducible repeat (first | apply Kd.R_alloc | apply Kd.R_drewN | apply Kd.R_drew)); exact HO310.out) hb); have n2_ := Aside0.mk (Kd.R_below (by (with_reducible repeat (first | apply Kd.R_alloc | apply Kd.R_drewN | apply Kd.R_drew)); exact HO314.out) hb); have n3_ := Aside0.mk (blk_below (g := gb301) (o := .cells #[.int .i64 a0_0, .slice Ao6 l0_1.length co6] 71 (0, 0)) (by (with_reducible repeat (first | refine blk_drewN ?_ _ | refine blk_drew ?_ | refine blk_alloc ?_ _)); exact BK301.out) hb); have n4_ := Aside0.mk (blk_below (g := gb302) (o := .cells #[.int .i64 a1_0, .slice A1_1 l1_1.length c1_1] 71 (0, 0)) (by (with_reducible repeat (first | refine blk_drewN ?_ _ | refine blk_drew ?_ | refine blk_alloc ?_ _)); exact BK302.out) hb); have n5_ := Aside0.mk (blk_below (g := gb303) (o := .cells #[.int .i64 0, .slice none 0 0] 71 (0, 0)) (by (with_reducible repeat (first | refine blk_drewN ?_ _ | refine blk_drew ?_ | refine blk_alloc ?_ _)); exact BK303.out) hb); have n6_ := Aside0.mk (blk_below (g := gb304) (o := .cells #[.int .i64 0, .slice none 0 0] 71 (0, 0)) (by (with_reducible repeat (first | refine blk_drewN ?_ _ | refine blk_drew ?_ | refine blk_alloc ?_ _)); exact BK304.out) hb); have n7_ := Aside0.mk (Kept.below (S := (fun k_ => P0_1_ k_)) (by repeat (first | (with_reducible first | exact HK.out | apply Kept.alloc | apply Kept.drewN | apply Kept.drew | refine Kept.setCell ?_ (.inr GW301.out) _ | refine Kept.setCell ?_ (.inr GW302.out) _ | refine Kept.setCell ?_ (.inr GW303.out) _ | refine Kept.setCell ?_ (.inr GW304.out) _) | exact HK.out)) hb); have n8_ := Aside0.mk (below_step (by repeat (first | (with_reducible first | exact HB.out | apply below_alloc | apply pw_below_drewN | apply below_drew1 | refine below_set ?_ GE301.out | refine below_set ?_ GE302.out | refine below_set ?_ GE303.out | refine below_set ?_ GE304.out) | exact HB.out)) hb); have n9_ := Aside0.mk (hbox); have n10_ := Aside0.mk ((by rw [hg]; exact (by first | exact HK.out.1 | exact (show Kept w _ (fun k_ => P0_1_ k_) from by repeat (first | (with_reducible first | exact HK.out | apply Kept.alloc | apply Kept.drewN | apply Kept.drew | refine Kept.setCell ?_ (.inr GW301.out) _ | refine Kept.setCell ?_ (.inr GW302.out) _ | refine Kept.setCell ?_ (.inr GW303.out) _ | refine Kept.setCell ?_ (.inr GW304.out) _) | exact HK.out)).1) : w.heap.size ≤ gb315)); have n11_ := Aside0.mk ((by rw [hg]; exact (below_size (by repeat (first | (with_reducible first | exact HB.out | apply below_alloc | apply pw_below_drewN | apply below_drew1 | refine below_set ?_ GE301.out | refine below_set ?_ GE302.out | refine below_set ?_ GE303.out | refine below_set ?_ GE304.out) | exact HB.out))) : w0.heap.size ≤ gb315)); have n12_ := Aside0.mk ((by rw [hg]; exact Nat.ne_of_lt (blk_lt (g := gb301) (o := .cells #[.int .i64 a0_0, .slice Ao6 l0_1.length co6] 71 (0, 0)) (by (with_reducible repeat (first | refine blk_drewN ?_ _ | refine blk_drew ?_ | refine blk_alloc ?_ _)); exact BK301.out)) : gb301 ≠ gb315)); have n13_ := Aside0.mk ((by rw [hg]; exact Nat.ne_of_gt (blk_lt (g := gb301) (o := .cells #[.int .i64 a0_0, .slice Ao6 l0_1.length co6] 71 (0, 0)) (by (with_reducible repeat (first | refine blk_drewN ?_ _ | refine blk_drew ?_ | refine blk_alloc ?_ _)); exact BK301.out)) : gb315 ≠ gb301)); have n14_ := Aside0.mk ((by rw [hg]; exact Nat.ne_of_lt (blk_lt (g := gb302) (o := .cells #[.int .i64 a1_0, .slice A1_1 l1_1.length c1_1] 71 (0, 0)) (by (with_reducible repeat (first | refine blk_drewN ?_ _ | refine blk_drew ?_ | refine blk_alloc ?_ _)); exact BK302.out)) : gb302 ≠ gb315)); have n15_ := Aside0.mk ((by rw [hg]; exact Nat.ne_of_gt (blk_lt (g := gb302) (o := .cells #[.int .i64 a1_0, .slice A1_1 l1_1.length c1_1] 71 (0, 0)) (by (with_reducible repeat (first | refine blk_drewN ?_ _ | refine blk_drew ?_ | refine blk_alloc ?_ _)); exact BK302.out)) : gb315 ≠ gb302)); have n16_ := Aside0.mk ((by rw [hg]; exact Nat.ne_of_lt (blk_lt (g := gb303) (o := .cells #[.int .i64 0, .slice none 0 0] 71 (0, 0)) (by (with_reducible repeat (first | refine blk_drewN ?_ _ | refine blk_drew ?_ | refine blk_alloc ?_ _)); exact BK303.out)) : gb303 ≠ gb315)); have n17_ := Aside0.mk ((by rw [hg]; exact Nat.ne_of_gt (blk_lt (g := gb303) (o := .cells #[.int .i64 0, .slice none 0 0] 71 (0, 0)) (by (with_reducible repeat (first | refine blk_drewN ?_ _ | refine blk_drew ?_ | refine blk_alloc ?_ _)); exact BK303.out)) : gb315 ≠ gb303)); have n18_ := Aside0.mk ((by rw [hg]; exact Nat.ne_of_lt (blk_lt (g := gb304) (o := .cells #[.int .i64 0, .slice none 0 0] 71 (0, 0)) (by (with_reducible repeat (first | refine blk_drewN ?_ _ | refine blk_drew ?_ | refine blk_alloc ?_ _)); exact BK304.out)) : gb304 ≠ gb315)); have n19_ := Aside0.mk ((by rw [hg]; exact Nat.ne_of_gt (blk_lt (g := gb304) (o := .cells #[.int .i64 0, .slice none 0 0] 71 (0, 0)) (by (with_reducible repeat (first | refine blk_drewN ?_ _ | refine blk_drew ?_ | refine blk_alloc ?_ _)); exact BK304.out)) : gb315 ≠ gb304)); clear HO0_1; clear HO310; clear HO314; clear BK301; clear BK302; clear BK303; clear BK304; clear HK; clear HB; have HO0_1 := n0_; have HO310 := n1_; have HO314 := n2_; have BK301 := n3_; have BK302 := n4_; have BK303 := n5_; have BK304 := n6_; have HK := n7_; have HB := n8_; have BK315 := n9_; have GW315 := n10_; have GE315 := n11_; have NB301_315 := n12_; have NB315_301 := n13_; have NB302_315 := n14_; have NB315_302 := n15_; have NB303_315 := n16_; have NB315_303 := n17_; have NB304_315 := n18_; have NB315_304 := n19_; clear n0_ n1_ n2_ n3_ n4_ n5_ n6_ n7_ n8_ n9_ n10_ n11_ n12_ n13_ n14_ n15_ n16_ n17_ n18_ n19_; clear hb hbox hg; have hnb24 := NB315_301.out; have hnc24 := NB301_315.out; have hnb25 := NB315_302.out; have hnc25 := NB302_315.out; have hnb26 := NB315_303.out; have hnc26 := NB303_315.out; have hnb27 := NB315_304.out; have hnc27 := NB304_315.out; have hcz28_0 : w23.cell? ⟨gb315, 0, none⟩ = some (.int .i64 0) := (blk_cell BK315.out 0).trans rfl; have hcz28_1 : w23.cell? ⟨gb315, 1, none⟩ = some (.slice none 0 0) := (blk_cell BK315.out 1).trans rfl; have hfz28_0 := blk_frozen BK315.out 0; have hfz28_1 := blk_frozen BK315.out 1; obtain ⟨Ao29, co29, eo29⟩ := Kd.R_slice HO314.out; subst eo29))
  (try simp only [Act.put, List.setIfInBounds_toArray, List.set_cons_zero, List.set_cons_succ])
  go_cut [34] (fun v34 wc => ∃ (kq : Nat) (x34_4 : Bool), v34 = .bool x34_4 ∧ Aside0 (zelligeref04_Floor.j0 kq x34_4 a0_0 l0_1 a1_0 l1_1 t311 t312 = some (r1, r2, r3, r4)) ∧ Aside0 (kq ≤ k) ∧ Aside0 (Kd.R (Kd.int .i64) 3 wc w0.heap.size (fun k_ => (P0_1_ k_ ∨ w.heap.size ≤ k_) ∧ some k_ ≠ ((.slice Ao29 t312.length co29) : Value).ownBlock) (.slice Ao6 l0_1.length co6) l0_1) ∧ Aside0 (Kd.R (Kd.int .i64) 3 wc w0.heap.size (fun k_ => (P0_1_ k_ ∨ w.heap.size ≤ k_) ∧ some k_ ≠ ((.slice Ao6 l0_1.length co6) : Value).ownBlock) (.slice Ao29 t312.length co29) t312) ∧ Aside0 (wc.heap[gb301]? = some (.cells #[.int .i64 a0_0, (.slice Ao6 l0_1.length co6)] 71 (0, 0))) ∧ Aside0 (wc.heap[gb302]? = some (.cells #[.int .i64 a1_0, (.slice A1_1 l1_1.length c1_1)] 71 (0, 0))) ∧ Aside0 (wc.heap[gb303]? = some (.cells #[.int .i64 0, (.slice none 0 0)] 71 (0, 0))) ∧ Aside0 (wc.heap[gb304]? = some (.cells #[.int .i64 0, (.slice none 0 0)] 71 (0, 0))) ∧ Aside0 (wc.heap[gb315]? = some (.cells #[.int .i64 t311, (.slice Ao29 t312.length co29)] 71 (0, 0))) ∧ Aside0 (Kept w wc (fun k_ => P0_1_ k_)) ∧ Aside0 (Below w0.heap.size w0 wc))
  case first =>
    have H := HC5.out
    clear HC5
    by_cases c30 : (wrap64 (a0_0 * a1_0)) < 0
    · rw [if_pos c30] at H
      have c30b0 : decide ((wrap64 (a0_0 * a1_0)) < 0) = true := decide_eq_true c30
      clear c30
      (first | rw [c30b0] | (simp only [i64_w, i32_w]; rw [c30b0]) | skip)
      have H' := Aside0.mk H
      clear H
      have hnb31 := NB301_302.out
      have hnc31 := NB302_301.out
      have hnb32 := NB301_303.out
      have hnc32 := NB303_301.out
      have hnb33 := NB301_304.out
      have hnc33 := NB304_301.out
      have hnb34 := NB301_315.out
      have hnc34 := NB315_301.out
      have hcz35_0 : w23.cell? ⟨gb301, 0, none⟩ = some (.int .i64 a0_0) := (blk_cell BK301.out 0).trans rfl
      have hcz35_1 : w23.cell? ⟨gb301, 1, none⟩ = some (.slice Ao6 l0_1.length co6) := (blk_cell BK301.out 1).trans rfl
      have hfz35_0 := blk_frozen BK301.out 0
      have hfz35_1 := blk_frozen BK301.out 1
      have hnb36 := NB302_303.out
      have hnc36 := NB303_302.out
      have hnb37 := NB302_304.out
      have hnc37 := NB304_302.out
      have hnb38 := NB302_315.out
      have hnc38 := NB315_302.out
      have hcz39_0 : w23.cell? ⟨gb302, 0, none⟩ = some (.int .i64 a1_0) := (blk_cell BK302.out 0).trans rfl
      have hcz39_1 : w23.cell? ⟨gb302, 1, none⟩ = some (.slice A1_1 l1_1.length c1_1) := (blk_cell BK302.out 1).trans rfl
      have hfz39_0 := blk_frozen BK302.out 0
      have hfz39_1 := blk_frozen BK302.out 1
      obtain ⟨Ao40, co40, eo40⟩ := Kd.R_slice HO310.out
      subst eo40
      go_wp2
      go_meet
      case rel => exact ⟨_, (decide ((t306.length : Int) > 0)), (by first | rfl | (simp; done) | (simp [*]; done)), H', ⟨by first | omega | exact Nat.le_refl _⟩, ⟨by (with_reducible repeat (first | apply Kd.R_alloc | apply Kd.R_drewN | apply Kd.R_drew)); exact Kd.R_mono (Kd.R_far (p := ⟨gb315, 1, none⟩) (Kd.R_far (p := ⟨gb315, 0, none⟩) (Kd.R_types HO0_1.out BK315.out (by decide)) (fun _ hk => hk.2) (.int .i64 t311)) (fun _ hk => hk.2) (.slice Ao29 t312.length co29)) (fun _ hk => ⟨hk.1.1, hk.1.2.2⟩)⟩, ⟨by (with_reducible repeat (first | apply Kd.R_alloc | apply Kd.R_drewN | apply Kd.R_drew)); exact Kd.R_mono (Kd.R_far (p := ⟨gb315, 1, none⟩) (Kd.R_far (p := ⟨gb315, 0, none⟩) (Kd.R_types HO314.out BK315.out (by decide)) (fun _ hk => hk.2) (.int .i64 t311)) (fun _ hk => hk.2) (.slice Ao29 t312.length co29)) (fun _ hk => ⟨hk.1.1, hk.1.2.1⟩)⟩, ⟨by (with_reducible repeat (first | refine blk_drewN ?_ _ | refine blk_drew ?_ | refine blk_alloc ?_ _)); refine blk_far ?_ NB301_315.out _; (with_reducible repeat (first | refine blk_drewN ?_ _ | refine blk_drew ?_ | refine blk_alloc ?_ _)); refine blk_far ?_ NB301_315.out _; (with_reducible repeat (first | refine blk_drewN ?_ _ | refine blk_drew ?_ | refine blk_alloc ?_ _)); exact BK301.out⟩, ⟨by (with_reducible repeat (first | refine blk_drewN ?_ _ | refine blk_drew ?_ | refine blk_alloc ?_ _)); refine blk_far ?_ NB302_315.out _; (with_reducible repeat (first | refine blk_drewN ?_ _ | refine blk_drew ?_ | refine blk_alloc ?_ _)); refine blk_far ?_ NB302_315.out _; (with_reducible repeat (first | refine blk_drewN ?_ _ | refine blk_drew ?_ | refine blk_alloc ?_ _)); exact BK302.out⟩, ⟨by (with_reducible repeat (first | refine blk_drewN ?_ _ | refine blk_drew ?_ | refine blk_alloc ?_ _)); refine blk_far ?_ NB303_315.out _; (with_reducible repeat (first | refine blk_drewN ?_ _ | refine blk_drew ?_ | refine blk_alloc ?_ _)); refine blk_far ?_ NB303_315.out _; (with_reducible repeat (first | refine blk_drewN ?_ _ | refine blk_drew ?_ | refine blk_alloc ?_ _)); exact BK303.out⟩, ⟨by (with_reducible repeat (first | refine blk_drewN ?_ _ | refine blk_drew ?_ | refine blk_alloc ?_ _)); refine blk_far ?_ NB304_315.out _; (with_reducible repeat (first | refine blk_drewN ?_ _ | refine blk_drew ?_ | refine blk_alloc ?_ _)); refine blk_far ?_ NB304_315.out _; (with_reducible repeat (first | refine blk_drewN ?_ _ | refine blk_drew ?_ | refine blk_alloc ?_ _)); exact BK304.out⟩, ⟨by (with_reducible repeat (first | refine blk_drewN ?_ _ | refine blk_drew ?_ | refine blk_alloc ?_ _)); refine blk_put (cs := #[.int .i64 t311, .slice none 0 0]) ?_ 1 _ rfl; (with_reducible repeat (first | refine blk_drewN ?_ _ | refine blk_drew ?_ | refine blk_alloc ?_ _)); refine blk_put (cs := #[.int .i64 0, .slice none 0 0]) ?_ 0 _ rfl; (with_reducible repeat (first | refine blk_drewN ?_ _ | refine blk_drew ?_ | refine blk_alloc ?_ _)); exact BK315.out⟩, ⟨by repeat (first | (with_reducible first | exact HK.out | apply Kept.alloc | apply Kept.drewN | apply Kept.drew | refine Kept.setCell ?_ (.inr GW301.out) _ | refine Kept.setCell ?_ (.inr GW302.out) _ | refine Kept.setCell ?_ (.inr GW303.out) _ | refine Kept.setCell ?_ (.inr GW304.out) _ | refine Kept.setCell ?_ (.inr GW315.out) _) | exact HK.out)⟩, ⟨by repeat (first | (with_reducible first | exact HB.out | apply below_alloc | apply pw_below_drewN | apply below_drew1 | refine below_set ?_ GE301.out | refine below_set ?_ GE302.out | refine below_set ?_ GE303.out | refine below_set ?_ GE304.out | refine below_set ?_ GE315.out) | exact HB.out)⟩⟩
    · rw [if_neg c30] at H
      have c30b0 : decide ((wrap64 (a0_0 * a1_0)) < 0) = false := decide_eq_false c30
      clear c30
      (first | rw [c30b0] | (simp only [i64_w, i32_w]; rw [c30b0]) | skip)
      have H' := Aside0.mk H
      clear H
      have hnb41 := NB301_302.out
      have hnc41 := NB302_301.out
      have hnb42 := NB301_303.out
      have hnc42 := NB303_301.out
      have hnb43 := NB301_304.out
      have hnc43 := NB304_301.out
      have hnb44 := NB301_315.out
      have hnc44 := NB315_301.out
      have hcz45_0 : w23.cell? ⟨gb301, 0, none⟩ = some (.int .i64 a0_0) := (blk_cell BK301.out 0).trans rfl
      have hcz45_1 : w23.cell? ⟨gb301, 1, none⟩ = some (.slice Ao6 l0_1.length co6) := (blk_cell BK301.out 1).trans rfl
      have hfz45_0 := blk_frozen BK301.out 0
      have hfz45_1 := blk_frozen BK301.out 1
      have hnb46 := NB302_303.out
      have hnc46 := NB303_302.out
      have hnb47 := NB302_304.out
      have hnc47 := NB304_302.out
      have hnb48 := NB302_315.out
      have hnc48 := NB315_302.out
      have hcz49_0 : w23.cell? ⟨gb302, 0, none⟩ = some (.int .i64 a1_0) := (blk_cell BK302.out 0).trans rfl
      have hcz49_1 : w23.cell? ⟨gb302, 1, none⟩ = some (.slice A1_1 l1_1.length c1_1) := (blk_cell BK302.out 1).trans rfl
      have hfz49_0 := blk_frozen BK302.out 0
      have hfz49_1 := blk_frozen BK302.out 1
      go_wp2
      go_meet
      case rel => exact ⟨_, (false), (by first | rfl | (simp; done) | (simp [*]; done)), H', ⟨by first | omega | exact Nat.le_refl _⟩, ⟨by (with_reducible repeat (first | apply Kd.R_alloc | apply Kd.R_drewN | apply Kd.R_drew)); exact Kd.R_mono (Kd.R_far (p := ⟨gb315, 1, none⟩) (Kd.R_far (p := ⟨gb315, 0, none⟩) (Kd.R_types HO0_1.out BK315.out (by decide)) (fun _ hk => hk.2) (.int .i64 t311)) (fun _ hk => hk.2) (.slice Ao29 t312.length co29)) (fun _ hk => ⟨hk.1.1, hk.1.2.2⟩)⟩, ⟨by (with_reducible repeat (first | apply Kd.R_alloc | apply Kd.R_drewN | apply Kd.R_drew)); exact Kd.R_mono (Kd.R_far (p := ⟨gb315, 1, none⟩) (Kd.R_far (p := ⟨gb315, 0, none⟩) (Kd.R_types HO314.out BK315.out (by decide)) (fun _ hk => hk.2) (.int .i64 t311)) (fun _ hk => hk.2) (.slice Ao29 t312.length co29)) (fun _ hk => ⟨hk.1.1, hk.1.2.1⟩)⟩, ⟨by (with_reducible repeat (first | refine blk_drewN ?_ _ | refine blk_drew ?_ | refine blk_alloc ?_ _)); refine blk_far ?_ NB301_315.out _; (with_reducible repeat (first | refine blk_drewN ?_ _ | refine blk_drew ?_ | refine blk_alloc ?_ _)); refine blk_far ?_ NB301_315.out _; (with_reducible repeat (first | refine blk_drewN ?_ _ | refine blk_drew ?_ | refine blk_alloc ?_ _)); exact BK301.out⟩, ⟨by (with_reducible repeat (first | refine blk_drewN ?_ _ | refine blk_drew ?_ | refine blk_alloc ?_ _)); refine blk_far ?_ NB302_315.out _; (with_reducible repeat (first | refine blk_drewN ?_ _ | refine blk_drew ?_ | refine blk_alloc ?_ _)); refine blk_far ?_ NB302_315.out _; (with_reducible repeat (first | refine blk_drewN ?_ _ | refine blk_drew ?_ | refine blk_alloc ?_ _)); exact BK302.out⟩, ⟨by (with_reducible repeat (first | refine blk_drewN ?_ _ | refine blk_drew ?_ | refine blk_alloc ?_ _)); refine blk_far ?_ NB303_315.out _; (with_reducible repeat (first | refine blk_drewN ?_ _ | refine blk_drew ?_ | refine blk_alloc ?_ _)); refine blk_far ?_ NB303_315.out _; (with_reducible repeat (first | refine blk_drewN ?_ _ | refine blk_drew ?_ | refine blk_alloc ?_ _)); exact BK303.out⟩, ⟨by (with_reducible repeat (first | refine blk_drewN ?_ _ | refine blk_drew ?_ | refine blk_alloc ?_ _)); refine blk_far ?_ NB304_315.out _; (with_reducible repeat (first | refine blk_drewN ?_ _ | refine blk_drew ?_ | refine blk_alloc ?_ _)); refine blk_far ?_ NB304_315.out _; (with_reducible repeat (first | refine blk_drewN ?_ _ | refine blk_drew ?_ | refine blk_alloc ?_ _)); exact BK304.out⟩, ⟨by (with_reducible repeat (first | refine blk_drewN ?_ _ | refine blk_drew ?_ | refine blk_alloc ?_ _)); refine blk_put (cs := #[.int .i64 t311, .slice none 0 0]) ?_ 1 _ rfl; (with_reducible repeat (first | refine blk_drewN ?_ _ | refine blk_drew ?_ | refine blk_alloc ?_ _)); refine blk_put (cs := #[.int .i64 0, .slice none 0 0]) ?_ 0 _ rfl; (with_reducible repeat (first | refine blk_drewN ?_ _ | refine blk_drew ?_ | refine blk_alloc ?_ _)); exact BK315.out⟩, ⟨by repeat (first | (with_reducible first | exact HK.out | apply Kept.alloc | apply Kept.drewN | apply Kept.drew | refine Kept.setCell ?_ (.inr GW301.out) _ | refine Kept.setCell ?_ (.inr GW302.out) _ | refine Kept.setCell ?_ (.inr GW303.out) _ | refine Kept.setCell ?_ (.inr GW304.out) _ | refine Kept.setCell ?_ (.inr GW315.out) _) | exact HK.out)⟩, ⟨by repeat (first | (with_reducible first | exact HB.out | apply below_alloc | apply pw_below_drewN | apply below_drew1 | refine below_set ?_ GE301.out | refine below_set ?_ GE302.out | refine below_set ?_ GE303.out | refine below_set ?_ GE304.out | refine below_set ?_ GE315.out) | exact HB.out)⟩⟩
  case rest =>
    clear HC5
    try clear c1
    try clear c2
    try clear p2
    try clear c3
    try clear c4
    try clear p6
    try clear c11
    try clear c12
    try clear c13
    try clear c15
    try clear c16
    try clear c24
    try clear c25
    try clear c26
    try clear c27
    try clear c30
    try clear c30b0
    try clear c31
    try clear c32
    try clear c33
    try clear c34
    try clear c36
    try clear c37
    try clear c38
    try clear c39
    try clear c40
    try clear c41
    try clear c42
    try clear c43
    try clear c44
    try clear c46
    try clear c47
    try clear c48
    try clear hcz14_0
    try clear hcz14_1
    try clear hcz17_0
    try clear hcz17_1
    try clear hcz19_0
    try clear hcz19_1
    try clear hcz20_0
    try clear hcz20_1
    try clear hcz28_0
    try clear hcz28_1
    try clear hcz35_0
    try clear hcz35_1
    try clear hcz39_0
    try clear hcz39_1
    try clear hcz45_0
    try clear hcz45_1
    try clear hcz49_0
    try clear hcz49_1
    try clear hfz14_0
    try clear hfz14_1
    try clear hfz17_0
    try clear hfz17_1
    try clear hfz19_0
    try clear hfz19_1
    try clear hfz20_0
    try clear hfz20_1
    try clear hfz28_0
    try clear hfz28_1
    try clear hfz35_0
    try clear hfz35_1
    try clear hfz39_0
    try clear hfz39_1
    try clear hfz45_0
    try clear hfz45_1
    try clear hfz49_0
    try clear hfz49_1
    obtain ⟨kq, x34_4, rfl, HA, HJ4, HO_302001, HO_316001, BK301, BK302, BK303, BK304, BK315, HK, HB⟩ := hcut
    cases kq with
    | zero => exact absurd HA.out (by simp [zelligeref04_Floor.j0])
    | succ kj4 =>
      have H := HA.out
      clear HA
      simp only [zelligeref04_Floor.j0] at H
      by_cases c50 : x34_4 = true
      · subst c50
        have H1 : ((zelligeref04_Long.f kj4 1).bind fun bt316 => ((zelligeref04_Sub.f kj4 t311 t312 bt316.1 bt316.2).bind fun bt320 => ((zelligeref04_Mul.f kj4 bt320.1 bt320.2 a1_0 l1_1).bind fun bt324 => ((zelligeref04_Sub.f kj4 a0_0 l0_1 bt324.1 bt324.2).bind fun bt328 => (some (bt320.1, bt320.2, bt328.1, bt328.2)))))) = some (r1, r2, r3, r4) := by rw [if_pos rfl] at H; exact H
        clear H
        have H := H1
        clear H1
        replace H := Option.bind_eq_some_iff.mp H
        obtain ⟨⟨t316, t317⟩, A510, H⟩ := H
        replace H : ((zelligeref04_Sub.f kj4 t311 t312 t316 t317).bind fun bt320 => ((zelligeref04_Mul.f kj4 bt320.1 bt320.2 a1_0 l1_1).bind fun bt324 => ((zelligeref04_Sub.f kj4 a0_0 l0_1 bt324.1 bt324.2).bind fun bt328 => (some (bt320.1, bt320.2, bt328.1, bt328.2))))) = some (r1, r2, r3, r4) := H
        have A51 := Aside0.mk A510
        clear A510
        replace H := Option.bind_eq_some_iff.mp H
        obtain ⟨⟨t320, t321⟩, A520, H⟩ := H
        replace H : ((zelligeref04_Mul.f kj4 t320 t321 a1_0 l1_1).bind fun bt324 => ((zelligeref04_Sub.f kj4 a0_0 l0_1 bt324.1 bt324.2).bind fun bt328 => (some (t320, t321, bt328.1, bt328.2)))) = some (r1, r2, r3, r4) := H
        have A52 := Aside0.mk A520
        clear A520
        replace H := Option.bind_eq_some_iff.mp H
        obtain ⟨⟨t324, t325⟩, A530, H⟩ := H
        replace H : ((zelligeref04_Sub.f kj4 a0_0 l0_1 t324 t325).bind fun bt328 => (some (t320, t321, bt328.1, bt328.2))) = some (r1, r2, r3, r4) := H
        have A53 := Aside0.mk A530
        clear A530
        replace H := Option.bind_eq_some_iff.mp H
        obtain ⟨⟨t328, t329⟩, A540, H⟩ := H
        replace H : (some (t320, t321, t328, t329)) = some (r1, r2, r3, r4) := H
        have A54 := Aside0.mk A540
        clear A540
        simp only [Option.some.injEq, Prod.mk.injEq] at H
        obtain ⟨rfl, rfl, rfl, rfl⟩ := H
        try go_wp2
        have n0_ := Aside0.mk (Kd.R_drew HO_302001.out)
        have n1_ := Aside0.mk (Kd.R_drew HO_316001.out)
        have n2_ := Aside0.mk (blk_drew BK301.out)
        have n3_ := Aside0.mk (blk_drew BK302.out)
        have n4_ := Aside0.mk (blk_drew BK303.out)
        have n5_ := Aside0.mk (blk_drew BK304.out)
        have n6_ := Aside0.mk (blk_drew BK315.out)
        have n7_ := Aside0.mk (Kept.drew HK.out)
        have n8_ := Aside0.mk (below_drew1 HB.out)
        clear HO_302001
        clear HO_316001
        clear BK301
        clear BK302
        clear BK303
        clear BK304
        clear BK315
        clear HK
        clear HB
        have HO_302001 := n0_
        have HO_316001 := n1_
        have BK301 := n2_
        have BK302 := n3_
        have BK303 := n4_
        have BK304 := n5_
        have BK315 := n6_
        have HK := n7_
        have HB := n8_
        clear n0_ n1_ n2_ n3_ n4_ n5_ n6_ n7_ n8_
        refine start_ (n := 4) (S := fun w' => w'.cell? ⟨gb315, 0, none⟩ = some (.int .i64 t311) ∧ w'.cell? ⟨gb315, 1, none⟩ = some (.slice Ao29 t312.length co29)) (ds := [3]) #[false, false, false, false] (by kernel_rfl) rfl rfl ⟨(blk_cell BK315.out 0).trans rfl, (blk_cell BK315.out 1).trans rfl⟩ (fun hHeld => ?_)
        generalize wc.drew = w55 at HO_302001 HO_316001 BK301 BK302 BK303 BK304 BK315 HK HB hHeld ⊢
        refine take_ (i := 0) (N := some 35) (v := ?_) (a' := ?_) #[true, false, false, false] rfl rfl (by kernel_rfl) (fun _ _ _ h => h) (Or.inl ⟨by rfl, ?_⟩) hHeld ?_ ?_
        rotate_left
        · rintro w' ⟨s0, s1⟩
          go_simp
          with_reducible rfl
        rotate_left
        · simp only [Act.put, List.setIfInBounds_toArray, List.set_cons_zero, List.set_cons_succ, i64_w, i32_w]
          rfl
        refine one_ (i := 1) (N := some 36) #[true, true, false, false] rfl rfl (by kernel_rfl) (by decide) (fun K hK => ?_)
        refine goes_ Try.func32 (by kernel_rfl) rfl #[.int .i64 1] (by rfl) rfl rfl (by (try simp only [List.map_toArray, List.map_cons, List.map_nil]); first | done | rfl | (simp only [List.length_drop, List.length_take]; rfl)) ?_
        with_reducible refine (zelligeref04_Long.calls kj4 1 t316 t317 _ A51.out).mono ?_
        rintro e w56 ⟨v318, rfl, ho0, hb⟩
        refine ⟨_, rfl, ?_⟩
        have n0_ := Aside0.mk (Kd.R_elder' (by (with_reducible repeat (first | apply Kd.R_alloc | apply Kd.R_drewN | apply Kd.R_drew)); exact HO_302001.out) (Kd.R_base ho0) hb)
        have n1_ := Aside0.mk (Kd.R_elder' (by (with_reducible repeat (first | apply Kd.R_alloc | apply Kd.R_drewN | apply Kd.R_drew)); exact HO_316001.out) (Kd.R_base ho0) hb)
        have n2_ := Aside0.mk (Kd.R_lower (Kd.R_new' (Kd.R_new' (Kd.R_newM (M := fun k_ => (P0_1_ k_ ∨ w.heap.size ≤ k_)) ho0 (by first | exact HK.out.1 | exact (show Kept w _ (fun k_ => P0_1_ k_) from by repeat (first | (with_reducible first | exact HK.out | apply Kept.alloc | apply Kept.drewN | apply Kept.drew | refine Kept.setCell ?_ (.inr GW301.out) _ | refine Kept.setCell ?_ (.inr GW302.out) _ | refine Kept.setCell ?_ (.inr GW303.out) _ | refine Kept.setCell ?_ (.inr GW304.out) _ | refine Kept.setCell ?_ (.inr GW315.out) _) | exact HK.out)).1) (fun k_ h_ => .inr h_)) (Kd.R_lt (by (with_reducible repeat (first | apply Kd.R_alloc | apply Kd.R_drewN | apply Kd.R_drew)); exact HO_302001.out))) (Kd.R_lt (by (with_reducible repeat (first | apply Kd.R_alloc | apply Kd.R_drewN | apply Kd.R_drew)); exact HO_316001.out))) (below_size (by repeat (first | (with_reducible first | exact HB.out | apply below_alloc | apply pw_below_drewN | apply below_drew1 | refine below_set ?_ GE301.out | refine below_set ?_ GE302.out | refine below_set ?_ GE303.out | refine below_set ?_ GE304.out | refine below_set ?_ GE315.out) | exact HB.out))))
        have n3_ := Aside0.mk (blk_below (g := gb301) (o := .cells #[.int .i64 a0_0, .slice Ao6 l0_1.length co6] 71 (0, 0)) (by (with_reducible repeat (first | refine blk_drewN ?_ _ | refine blk_drew ?_ | refine blk_alloc ?_ _)); exact BK301.out) hb)
        have n4_ := Aside0.mk (blk_below (g := gb302) (o := .cells #[.int .i64 a1_0, .slice A1_1 l1_1.length c1_1] 71 (0, 0)) (by (with_reducible repeat (first | refine blk_drewN ?_ _ | refine blk_drew ?_ | refine blk_alloc ?_ _)); exact BK302.out) hb)
        have n5_ := Aside0.mk (blk_below (g := gb303) (o := .cells #[.int .i64 0, .slice none 0 0] 71 (0, 0)) (by (with_reducible repeat (first | refine blk_drewN ?_ _ | refine blk_drew ?_ | refine blk_alloc ?_ _)); exact BK303.out) hb)
        have n6_ := Aside0.mk (blk_below (g := gb304) (o := .cells #[.int .i64 0, .slice none 0 0] 71 (0, 0)) (by (with_reducible repeat (first | refine blk_drewN ?_ _ | refine blk_drew ?_ | refine blk_alloc ?_ _)); exact BK304.out) hb)
        have n7_ := Aside0.mk (blk_below (g := gb315) (o := .cells #[.int .i64 t311, .slice Ao29 t312.length co29] 71 (0, 0)) (by (with_reducible repeat (first | refine blk_drewN ?_ _ | refine blk_drew ?_ | refine blk_alloc ?_ _)); exact BK315.out) hb)
        have n8_ := Aside0.mk (Kept.below (S := (fun k_ => P0_1_ k_)) (by repeat (first | (with_reducible first | exact HK.out | apply Kept.alloc | apply Kept.drewN | apply Kept.drew | refine Kept.setCell ?_ (.inr GW301.out) _ | refine Kept.setCell ?_ (.inr GW302.out) _ | refine Kept.setCell ?_ (.inr GW303.out) _ | refine Kept.setCell ?_ (.inr GW304.out) _ | refine Kept.setCell ?_ (.inr GW315.out) _) | exact HK.out)) hb)
        have n9_ := Aside0.mk (below_step (by repeat (first | (with_reducible first | exact HB.out | apply below_alloc | apply pw_below_drewN | apply below_drew1 | refine below_set ?_ GE301.out | refine below_set ?_ GE302.out | refine below_set ?_ GE303.out | refine below_set ?_ GE304.out | refine below_set ?_ GE315.out) | exact HB.out)) hb)
        clear HO_302001
        clear HO_316001
        clear BK301
        clear BK302
        clear BK303
        clear BK304
        clear BK315
        clear HK
        clear HB
        have HO_302001 := n0_
        have HO_316001 := n1_
        have HO319 := n2_
        have BK301 := n3_
        have BK302 := n4_
        have BK303 := n5_
        have BK304 := n6_
        have BK315 := n7_
        have HK := n8_
        have HB := n9_
        clear n0_ n1_ n2_ n3_ n4_ n5_ n6_ n7_ n8_ n9_
        (try clear hb)
        (try clear hb2)
        (try clear hk)
        (try clear hi)
        (try clear ho0)
        obtain ⟨Ao57, co57, eo57⟩ := Kd.R_slice HO319.out
        (first | subst eo57 | (injection eo57 with f1_ f2_ f3_; have f4_ := f1_.symm; have f5_ := f3_.symm; clear f1_ f2_ f3_; subst f4_; subst f5_))
        refine hK.out _ _ ⟨(blk_cell BK315.out 0).trans rfl, (blk_cell BK315.out 1).trans rfl⟩ (fun hHeld => ?_)
        clear hK K
        refine norm_ (a' := ?_) ?_ ?_
        rotate_left
        · show Act.put _ (some 36) _ = _
          simp only [Act.put, List.setIfInBounds_toArray, List.set_cons_zero, List.set_cons_succ, i64_w, i32_w]
          rfl
        refine one_ (i := 2) (N := some 37) #[true, true, true, false] rfl rfl (by kernel_rfl) (by decide) (fun K hK => ?_)
        refine goes_ Try.func41 (by kernel_rfl) rfl #[.agg #[.int .i64 t311, .slice Ao29 t312.length co29], .agg #[.int .i64 t316, .slice Ao57 t317.length co57]] (by rfl) rfl rfl (by (try simp only [List.map_toArray, List.map_cons, List.map_nil]); first | done | rfl | (simp only [List.length_drop, List.length_take]; rfl)) ?_
        with_reducible refine (zelligeref04_Sub.calls kj4 t311 (fun k_ => some k_ = (.slice Ao29 t312.length co29 : Value).ownBlock) (.slice Ao29 t312.length co29) t312 t316 (fun k_ => some k_ = (.slice Ao57 t317.length co57 : Value).ownBlock) (.slice Ao57 t317.length co57) t317 t320 t321 w0 _ ?side1 ?side2 ?side3 ?side4 ?side5 A52.out).mono ?_
        (case side1 => repeat (first | (with_reducible first | exact HB.out | apply below_alloc | apply pw_below_drewN | apply below_drew1 | refine below_set ?_ GE301.out | refine below_set ?_ GE302.out | refine below_set ?_ GE303.out | refine below_set ?_ GE304.out | refine below_set ?_ GE315.out) | exact HB.out))
        (case side2 => exact Kd.R_tight rfl HO_316001.out)
        (case side3 => exact fun k_ e_ => (HO_316001.out.1 k_ e_.symm).2)
        (case side4 => exact Kd.R_tight rfl HO319.out)
        (case side5 => exact fun k_ e_ => (HO319.out.1 k_ e_.symm).2)
        rintro e w58 ⟨v322, rfl, ho0, hb, hkp⟩
        refine ⟨_, rfl, ?_⟩
        have n0_ := Aside0.mk (Kd.R_mono (ok' := fun k_ => (P0_1_ k_ ∨ w.heap.size ≤ k_) ∧ some k_ ≠ (v322 : Value).ownBlock) (Kd.R_keptB (HO_302001.out) hkp (fun k_ hk_ hs_ => Or.elim hs_ (fun e_ => (hk_.1.2) e_) (fun e_ => (hk_.2) e_))) (fun k_ hk_ => ⟨hk_.1.1.1, fun e_ => Or.elim (ho0.1 k_ e_.symm) (fun hs_ => hk_.2.1 hs_) (fun hn_ => Nat.not_le.2 hk_.2.2 hn_)⟩))
        have n1_ := Aside0.mk (blk_kept (by (with_reducible repeat (first | refine blk_drewN ?_ _ | refine blk_drew ?_ | refine blk_alloc ?_ _)); exact BK301.out) hkp (fun hs_ => Or.elim hs_ (fun e_ => (fun e_ => (Kd.R_ne HO_316001.out BK301.out (by decide)) e_) e_) (fun e_ => (fun e_ => (Kd.R_ne HO319.out BK301.out (by decide)) e_) e_)))
        have n2_ := Aside0.mk (blk_kept (by (with_reducible repeat (first | refine blk_drewN ?_ _ | refine blk_drew ?_ | refine blk_alloc ?_ _)); exact BK302.out) hkp (fun hs_ => Or.elim hs_ (fun e_ => (fun e_ => (Kd.R_ne HO_316001.out BK302.out (by decide)) e_) e_) (fun e_ => (fun e_ => (Kd.R_ne HO319.out BK302.out (by decide)) e_) e_)))
        have n3_ := Aside0.mk (blk_kept (by (with_reducible repeat (first | refine blk_drewN ?_ _ | refine blk_drew ?_ | refine blk_alloc ?_ _)); exact BK303.out) hkp (fun hs_ => Or.elim hs_ (fun e_ => (fun e_ => (Kd.R_ne HO_316001.out BK303.out (by decide)) e_) e_) (fun e_ => (fun e_ => (Kd.R_ne HO319.out BK303.out (by decide)) e_) e_)))
        have n4_ := Aside0.mk (blk_kept (by (with_reducible repeat (first | refine blk_drewN ?_ _ | refine blk_drew ?_ | refine blk_alloc ?_ _)); exact BK304.out) hkp (fun hs_ => Or.elim hs_ (fun e_ => (fun e_ => (Kd.R_ne HO_316001.out BK304.out (by decide)) e_) e_) (fun e_ => (fun e_ => (Kd.R_ne HO319.out BK304.out (by decide)) e_) e_)))
        have n5_ := Aside0.mk (blk_kept (by (with_reducible repeat (first | refine blk_drewN ?_ _ | refine blk_drew ?_ | refine blk_alloc ?_ _)); exact BK315.out) hkp (fun hs_ => Or.elim hs_ (fun e_ => (fun e_ => (Kd.R_ne HO_316001.out BK315.out (by decide)) e_) e_) (fun e_ => (fun e_ => (Kd.R_ne HO319.out BK315.out (by decide)) e_) e_)))
        have n6_ := Aside0.mk (Kd.R_mono (ok' := fun k_ => (P0_1_ k_ ∨ w.heap.size ≤ k_) ∧ some k_ ≠ (.slice Ao6 l0_1.length co6 : Value).ownBlock) ho0 (fun k_ hk_ => ⟨Or.elim hk_ (fun hs_ => Or.elim hs_ (fun hs_ => (HO_316001.out.1 k_ (hs_).symm).1.1) (fun hs_ => (HO319.out.1 k_ (hs_).symm).1.1.1)) (fun hn_ => (.inr (Nat.le_trans (by first | exact HK.out.1 | exact (show Kept w _ (fun k_ => P0_1_ k_) from by repeat (first | (with_reducible first | exact HK.out | apply Kept.alloc | apply Kept.drewN | apply Kept.drew | refine Kept.setCell ?_ (.inr GW301.out) _ | refine Kept.setCell ?_ (.inr GW302.out) _ | refine Kept.setCell ?_ (.inr GW303.out) _ | refine Kept.setCell ?_ (.inr GW304.out) _ | refine Kept.setCell ?_ (.inr GW315.out) _) | exact HK.out)).1) hn_))), Or.elim hk_ (fun hs_ => Or.elim hs_ (fun hs_ => fun e_ => (((HO_302001.out).1 k_ e_.symm).1.2) hs_) (fun hs_ => fun e_ => (((HO_302001.out).1 k_ e_.symm).2) hs_)) (fun hn_ => (Kd.fresh' (Kd.R_lt (by (with_reducible repeat (first | apply Kd.R_alloc | apply Kd.R_drewN | apply Kd.R_drew)); exact HO_302001.out)) k_ hn_))⟩))
        have n7_ := Aside0.mk (Kept.then_ (S := (fun k_ => P0_1_ k_)) (by repeat (first | (with_reducible first | exact HK.out | apply Kept.alloc | apply Kept.drewN | apply Kept.drew | refine Kept.setCell ?_ (.inr GW301.out) _ | refine Kept.setCell ?_ (.inr GW302.out) _ | refine Kept.setCell ?_ (.inr GW303.out) _ | refine Kept.setCell ?_ (.inr GW304.out) _ | refine Kept.setCell ?_ (.inr GW315.out) _) | exact HK.out)) hkp (fun k_ hs_ => Or.elim hs_ (fun e_ => (fun e_ => (HO_316001.out.1 k_ e_.symm).1.1) e_) (fun e_ => (fun e_ => (HO319.out.1 k_ e_.symm).1.1.1) e_)))
        have n8_ := Aside0.mk (hb)
        clear HO_302001
        clear BK301
        clear BK302
        clear BK303
        clear BK304
        clear BK315
        clear HK
        clear HB
        clear HO319
        clear HO_316001
        have HO_302001 := n0_
        have BK301 := n1_
        have BK302 := n2_
        have BK303 := n3_
        have BK304 := n4_
        have BK315 := n5_
        have HO323 := n6_
        have HK := n7_
        have HB := n8_
        clear n0_ n1_ n2_ n3_ n4_ n5_ n6_ n7_ n8_
        (try clear hb)
        (try clear hkp)
        (try clear ho0)
        obtain ⟨Ao60, co60, eo60⟩ := Kd.R_slice HO323.out
        (first | subst eo60 | (injection eo60 with f1_ f2_ f3_; have f4_ := f1_.symm; have f5_ := f3_.symm; clear f1_ f2_ f3_; subst f4_; subst f5_))
        refine hK.out _ _ ⟨(blk_cell BK315.out 0).trans rfl, (blk_cell BK315.out 1).trans rfl⟩ (fun hHeld => ?_)
        clear hK K
        refine norm_ (a' := ?_) ?_ ?_
        rotate_left
        · show Act.put _ (some 37) _ = _
          simp only [Act.put, List.setIfInBounds_toArray, List.set_cons_zero, List.set_cons_succ, i64_w, i32_w]
          rfl
        refine last_ (i := 3) (N := none) #[true, true, true, true] rfl rfl (by kernel_rfl) (by decide) (fun K hK => ?_)
        have hs59 : w58.cell? ⟨gb315, 0, none⟩ = some (.int .i64 t311) := (blk_cell BK315.out 0).trans rfl
        have hfs59 := blk_frozen BK315.out 0
        have hns59_0 := NB301_315.out
        have hns59_1 := NB302_315.out
        have hns59_2 := NB303_315.out
        have hns59_3 := NB304_315.out
        have hms59_0 := NB315_301.out
        have hms59_1 := NB315_302.out
        have hms59_2 := NB315_303.out
        have hms59_3 := NB315_304.out
        have hs61 : w58.cell? ⟨gb315, 1, none⟩ = some (.slice Ao29 t312.length co29) := (blk_cell BK315.out 1).trans rfl
        have hfs61 := blk_frozen BK315.out 1
        have hns61_0 := NB301_315.out
        have hns61_1 := NB302_315.out
        have hns61_2 := NB303_315.out
        have hns61_3 := NB304_315.out
        have hms61_0 := NB315_301.out
        have hms61_1 := NB315_302.out
        have hms61_2 := NB315_303.out
        have hms61_3 := NB315_304.out
        refine skip_ (w1 := ?_) (by rfl) rfl ?_ ?_
        rotate_left
        · go_simp
          rfl
        refine hK.out _ _ ?_
        clear hK K
        refine done_ (by kernel_rfl) ?_
        try go_wp2
        have n0_ : Aside0 (Kd.R (Kd.int .i64) 3 ((w58.setCell ⟨gb315, 0, none⟩ (.int .i64 t320)).setCell ⟨gb315, 1, none⟩ (.slice Ao60 t321.length co60)) w0.heap.size (fun k_ => (P0_1_ k_ ∨ w.heap.size ≤ k_) ∧ some k_ ≠ (.slice Ao60 t321.length co60 : Value).ownBlock) (.slice Ao6 l0_1.length co6) l0_1) := ⟨by (with_reducible repeat (first | apply Kd.R_alloc | apply Kd.R_drewN | apply Kd.R_drew)); exact Kd.R_mono (Kd.R_far (p := ⟨gb315, 1, none⟩) (Kd.R_far (p := ⟨gb315, 0, none⟩) (Kd.R_types HO_302001.out BK315.out (by decide)) (fun _ hk => hk.2) (.int .i64 t320)) (fun _ hk => hk.2) (.slice Ao60 t321.length co60)) (fun _ hk => ⟨hk.1.1, hk.1.2⟩)⟩
        have n1_ : Aside0 (Kd.R (Kd.int .i64) 3 ((w58.setCell ⟨gb315, 0, none⟩ (.int .i64 t320)).setCell ⟨gb315, 1, none⟩ (.slice Ao60 t321.length co60)) w0.heap.size (fun k_ => (P0_1_ k_ ∨ w.heap.size ≤ k_) ∧ some k_ ≠ (.slice Ao6 l0_1.length co6 : Value).ownBlock) (.slice Ao60 t321.length co60) t321) := ⟨by (with_reducible repeat (first | apply Kd.R_alloc | apply Kd.R_drewN | apply Kd.R_drew)); exact Kd.R_mono (Kd.R_far (p := ⟨gb315, 1, none⟩) (Kd.R_far (p := ⟨gb315, 0, none⟩) (Kd.R_types HO323.out BK315.out (by decide)) (fun _ hk => hk.2) (.int .i64 t320)) (fun _ hk => hk.2) (.slice Ao60 t321.length co60)) (fun _ hk => ⟨hk.1.1, hk.1.2⟩)⟩
        have n2_ : Aside0 (((w58.setCell ⟨gb315, 0, none⟩ (.int .i64 t320)).setCell ⟨gb315, 1, none⟩ (.slice Ao60 t321.length co60)).heap[gb301]? = some (.cells #[.int .i64 a0_0, .slice Ao6 l0_1.length co6] 71 (0, 0))) := ⟨by (with_reducible repeat (first | refine blk_drewN ?_ _ | refine blk_drew ?_ | refine blk_alloc ?_ _)); refine blk_far ?_ NB301_315.out _; (with_reducible repeat (first | refine blk_drewN ?_ _ | refine blk_drew ?_ | refine blk_alloc ?_ _)); refine blk_far ?_ NB301_315.out _; (with_reducible repeat (first | refine blk_drewN ?_ _ | refine blk_drew ?_ | refine blk_alloc ?_ _)); exact BK301.out⟩
        have n3_ : Aside0 (((w58.setCell ⟨gb315, 0, none⟩ (.int .i64 t320)).setCell ⟨gb315, 1, none⟩ (.slice Ao60 t321.length co60)).heap[gb302]? = some (.cells #[.int .i64 a1_0, .slice A1_1 l1_1.length c1_1] 71 (0, 0))) := ⟨by (with_reducible repeat (first | refine blk_drewN ?_ _ | refine blk_drew ?_ | refine blk_alloc ?_ _)); refine blk_far ?_ NB302_315.out _; (with_reducible repeat (first | refine blk_drewN ?_ _ | refine blk_drew ?_ | refine blk_alloc ?_ _)); refine blk_far ?_ NB302_315.out _; (with_reducible repeat (first | refine blk_drewN ?_ _ | refine blk_drew ?_ | refine blk_alloc ?_ _)); exact BK302.out⟩
        have n4_ : Aside0 (((w58.setCell ⟨gb315, 0, none⟩ (.int .i64 t320)).setCell ⟨gb315, 1, none⟩ (.slice Ao60 t321.length co60)).heap[gb303]? = some (.cells #[.int .i64 0, .slice none 0 0] 71 (0, 0))) := ⟨by (with_reducible repeat (first | refine blk_drewN ?_ _ | refine blk_drew ?_ | refine blk_alloc ?_ _)); refine blk_far ?_ NB303_315.out _; (with_reducible repeat (first | refine blk_drewN ?_ _ | refine blk_drew ?_ | refine blk_alloc ?_ _)); refine blk_far ?_ NB303_315.out _; (with_reducible repeat (first | refine blk_drewN ?_ _ | refine blk_drew ?_ | refine blk_alloc ?_ _)); exact BK303.out⟩
        have n5_ : Aside0 (((w58.setCell ⟨gb315, 0, none⟩ (.int .i64 t320)).setCell ⟨gb315, 1, none⟩ (.slice Ao60 t321.length co60)).heap[gb304]? = some (.cells #[.int .i64 0, .slice none 0 0] 71 (0, 0))) := ⟨by (with_reducible repeat (first | refine blk_drewN ?_ _ | refine blk_drew ?_ | refine blk_alloc ?_ _)); refine blk_far ?_ NB304_315.out _; (with_reducible repeat (first | refine blk_drewN ?_ _ | refine blk_drew ?_ | refine blk_alloc ?_ _)); refine blk_far ?_ NB304_315.out _; (with_reducible repeat (first | refine blk_drewN ?_ _ | refine blk_drew ?_ | refine blk_alloc ?_ _)); exact BK304.out⟩
        have n6_ : Aside0 (((w58.setCell ⟨gb315, 0, none⟩ (.int .i64 t320)).setCell ⟨gb315, 1, none⟩ (.slice Ao60 t321.length co60)).heap[gb315]? = some (.cells #[.int .i64 t320, .slice Ao60 t321.length co60] 71 (0, 0))) := ⟨by (with_reducible repeat (first | refine blk_drewN ?_ _ | refine blk_drew ?_ | refine blk_alloc ?_ _)); refine blk_put (cs := #[.int .i64 t320, .slice Ao29 t312.length co29]) ?_ 1 _ rfl; (with_reducible repeat (first | refine blk_drewN ?_ _ | refine blk_drew ?_ | refine blk_alloc ?_ _)); refine blk_put (cs := #[.int .i64 t311, .slice Ao29 t312.length co29]) ?_ 0 _ rfl; (with_reducible repeat (first | refine blk_drewN ?_ _ | refine blk_drew ?_ | refine blk_alloc ?_ _)); exact BK315.out⟩
        have n7_ : Aside0 (Kept w ((w58.setCell ⟨gb315, 0, none⟩ (.int .i64 t320)).setCell ⟨gb315, 1, none⟩ (.slice Ao60 t321.length co60)) (fun k_ => P0_1_ k_)) := ⟨by repeat (first | (with_reducible first | exact HK.out | apply Kept.alloc | apply Kept.drewN | apply Kept.drew | refine Kept.setCell ?_ (.inr GW301.out) _ | refine Kept.setCell ?_ (.inr GW302.out) _ | refine Kept.setCell ?_ (.inr GW303.out) _ | refine Kept.setCell ?_ (.inr GW304.out) _ | refine Kept.setCell ?_ (.inr GW315.out) _) | exact HK.out)⟩
        have n8_ : Aside0 (Below w0.heap.size w0 ((w58.setCell ⟨gb315, 0, none⟩ (.int .i64 t320)).setCell ⟨gb315, 1, none⟩ (.slice Ao60 t321.length co60))) := ⟨by repeat (first | (with_reducible first | exact HB.out | apply below_alloc | apply pw_below_drewN | apply below_drew1 | refine below_set ?_ GE301.out | refine below_set ?_ GE302.out | refine below_set ?_ GE303.out | refine below_set ?_ GE304.out | refine below_set ?_ GE315.out) | exact HB.out)⟩
        (try clear HO_302001)
        (try clear HO323)
        (try clear BK301)
        (try clear BK302)
        (try clear BK303)
        (try clear BK304)
        (try clear BK315)
        (try clear HK)
        (try clear HB)
        generalize ((w58.setCell ⟨gb315, 0, none⟩ (.int .i64 t320)).setCell ⟨gb315, 1, none⟩ (.slice Ao60 t321.length co60)) = w62 at n0_ n1_ n2_ n3_ n4_ n5_ n6_ n7_ n8_ ⊢
        have HO_302001 := n0_
        have HO323 := n1_
        have BK301 := n2_
        have BK302 := n3_
        have BK303 := n4_
        have BK304 := n5_
        have BK315 := n6_
        have HK := n7_
        have HB := n8_
        clear n0_ n1_ n2_ n3_ n4_ n5_ n6_ n7_ n8_
        have n0_ := Aside0.mk (Kd.R_drew HO_302001.out)
        have n1_ := Aside0.mk (Kd.R_drew HO323.out)
        have n2_ := Aside0.mk (blk_drew BK301.out)
        have n3_ := Aside0.mk (blk_drew BK302.out)
        have n4_ := Aside0.mk (blk_drew BK303.out)
        have n5_ := Aside0.mk (blk_drew BK304.out)
        have n6_ := Aside0.mk (blk_drew BK315.out)
        have n7_ := Aside0.mk (Kept.drew HK.out)
        have n8_ := Aside0.mk (below_drew1 HB.out)
        clear HO_302001
        clear HO323
        clear BK301
        clear BK302
        clear BK303
        clear BK304
        clear BK315
        clear HK
        clear HB
        have HO_302001 := n0_
        have HO323 := n1_
        have BK301 := n2_
        have BK302 := n3_
        have BK303 := n4_
        have BK304 := n5_
        have BK315 := n6_
        have HK := n7_
        have HB := n8_
        clear n0_ n1_ n2_ n3_ n4_ n5_ n6_ n7_ n8_
        refine start_ (n := 8) (S := fun w' => w'.cell? ⟨gb315, 0, none⟩ = some (.int .i64 t320) ∧ w'.cell? ⟨gb315, 1, none⟩ = some (.slice Ao60 t321.length co60) ∧ w'.cell? ⟨gb301, 0, none⟩ = some (.int .i64 a0_0) ∧ w'.cell? ⟨gb301, 1, none⟩ = some (.slice Ao6 l0_1.length co6) ∧ w'.cell? ⟨gb302, 0, none⟩ = some (.int .i64 a1_0) ∧ w'.cell? ⟨gb302, 1, none⟩ = some (.slice A1_1 l1_1.length c1_1)) (ds := []) #[false, false, false, false, false, false, false, false] (by kernel_rfl) rfl rfl ⟨(blk_cell BK315.out 0).trans rfl, (blk_cell BK315.out 1).trans rfl, (blk_cell BK301.out 0).trans rfl, (blk_cell BK301.out 1).trans rfl, (blk_cell BK302.out 0).trans rfl, (blk_cell BK302.out 1).trans rfl⟩ (fun hHeld => ?_); refine with_tabW zelligeref04_Floor.tab5 zelligeref04_Floor.bits5 (fun HT_ HW_ => ?_)
        generalize w62.drew = w63 at HO_302001 HO323 BK301 BK302 BK303 BK304 BK315 HK HB hHeld ⊢
        refine take_ (i := 0) (N := some 38) (v := ?_) (a' := ?_) #[true, false, false, false, false, false, false, false] rfl rfl (take_ofW HT_.out HW_.out (by kernel_rfl)) (fun _ _ _ h => h) (Or.inl ⟨by rfl, ?_⟩) hHeld ?_ ?_
        rotate_left
        · rintro w' ⟨s0, s1, s2, s3, s4, s5⟩
          go_simp
          with_reducible rfl
        rotate_left
        · simp only [Act.put, List.setIfInBounds_toArray, List.set_cons_zero, List.set_cons_succ, i64_w, i32_w]
          rfl
        refine take_ (i := 1) (N := some 39) (v := ?_) (a' := ?_) #[true, true, false, false, false, false, false, false] rfl rfl (take_ofW HT_.out HW_.out (by kernel_rfl)) (fun _ _ _ h => h) (Or.inl ⟨by rfl, ?_⟩) hHeld ?_ ?_
        rotate_left
        · rintro w' ⟨s0, s1, s2, s3, s4, s5⟩
          go_simp
          with_reducible rfl
        rotate_left
        · simp only [Act.put, List.setIfInBounds_toArray, List.set_cons_zero, List.set_cons_succ, i64_w, i32_w]
          rfl
        refine take_ (i := 2) (N := some 40) (v := ?_) (a' := ?_) #[true, true, true, false, false, false, false, false] rfl rfl (take_ofW HT_.out HW_.out (by kernel_rfl)) (fun _ _ _ h => h) (Or.inl ⟨by rfl, ?_⟩) hHeld ?_ ?_
        rotate_left
        · rintro w' ⟨s0, s1, s2, s3, s4, s5⟩
          go_simp
          with_reducible rfl
        rotate_left
        · simp only [Act.put, List.setIfInBounds_toArray, List.set_cons_zero, List.set_cons_succ, i64_w, i32_w]
          rfl
        refine take_ (i := 3) (N := some 41) (v := ?_) (a' := ?_) #[true, true, true, true, false, false, false, false] rfl rfl (take_ofW HT_.out HW_.out (by kernel_rfl)) (fun _ _ _ h => h) (Or.inl ⟨by rfl, ?_⟩) hHeld ?_ ?_
        rotate_left
        · rintro w' ⟨s0, s1, s2, s3, s4, s5⟩
          go_simp
          with_reducible rfl
        rotate_left
        · simp only [Act.put, List.setIfInBounds_toArray, List.set_cons_zero, List.set_cons_succ, i64_w, i32_w]
          rfl
        refine one_ (i := 4) (N := some 42) #[true, true, true, true, true, false, false, false] rfl rfl (one_of HT_.out (by kernel_rfl)) (by decide) (fun K hK => ?_)
        refine goes_ Try.func42 (by kernel_rfl) rfl #[.agg #[.int .i64 t320, .slice Ao60 t321.length co60], .agg #[.int .i64 a1_0, .slice A1_1 l1_1.length c1_1]] (by rfl) rfl rfl (by (try simp only [List.map_toArray, List.map_cons, List.map_nil]); first | done | rfl | (simp only [List.length_drop, List.length_take]; rfl)) ?_
        with_reducible refine (zelligeref04_Mul.calls kj4 t320 _ _ t321 a1_0 _ _ l1_1 t324 t325 _ ?side1 ?side2 ?side3 ?side4 A53.out).mono ?_
        (case side1 => repeat (first | exact (Kd.R_reads' HO323.out).2.2 | (with_reducible refine Kd.C_alloc ?_ _) | (with_reducible refine Kd.C_drewN ?_ _) | (with_reducible refine Kd.C_drew ?_)))
        (case side2 => exact (Kd.R_reads' HO323.out).2.1)
        (case side3 => exact Kd.C_kept_now HR1_1.out (by repeat (first | (with_reducible first | exact HK.out | apply Kept.alloc | apply Kept.drewN | apply Kept.drew | refine Kept.setCell ?_ (.inr GW301.out) _ | refine Kept.setCell ?_ (.inr GW302.out) _ | refine Kept.setCell ?_ (.inr GW303.out) _ | refine Kept.setCell ?_ (.inr GW304.out) _ | refine Kept.setCell ?_ (.inr GW315.out) _) | exact HK.out)))
        (case side4 => exact HC1_1.out)
        rintro e w64 ⟨v326, rfl, ho0, hb⟩
        refine ⟨_, rfl, ?_⟩
        have n0_ := Aside0.mk (Kd.R_elder' (by (with_reducible repeat (first | apply Kd.R_alloc | apply Kd.R_drewN | apply Kd.R_drew)); exact HO_302001.out) (Kd.R_base ho0) hb)
        have n1_ := Aside0.mk (Kd.R_elder' (by (with_reducible repeat (first | apply Kd.R_alloc | apply Kd.R_drewN | apply Kd.R_drew)); exact HO323.out) (Kd.R_base ho0) hb)
        have n2_ := Aside0.mk (Kd.R_lower (Kd.R_new' (Kd.R_new' (Kd.R_newM (M := fun k_ => (P0_1_ k_ ∨ w.heap.size ≤ k_)) ho0 (by first | exact HK.out.1 | exact (show Kept w _ (fun k_ => P0_1_ k_) from by repeat (first | (with_reducible first | exact HK.out | apply Kept.alloc | apply Kept.drewN | apply Kept.drew | refine Kept.setCell ?_ (.inr GW301.out) _ | refine Kept.setCell ?_ (.inr GW302.out) _ | refine Kept.setCell ?_ (.inr GW303.out) _ | refine Kept.setCell ?_ (.inr GW304.out) _ | refine Kept.setCell ?_ (.inr GW315.out) _) | exact HK.out)).1) (fun k_ h_ => .inr h_)) (Kd.R_lt (by (with_reducible repeat (first | apply Kd.R_alloc | apply Kd.R_drewN | apply Kd.R_drew)); exact HO_302001.out))) (Kd.R_lt (by (with_reducible repeat (first | apply Kd.R_alloc | apply Kd.R_drewN | apply Kd.R_drew)); exact HO323.out))) (below_size (by repeat (first | (with_reducible first | exact HB.out | apply below_alloc | apply pw_below_drewN | apply below_drew1 | refine below_set ?_ GE301.out | refine below_set ?_ GE302.out | refine below_set ?_ GE303.out | refine below_set ?_ GE304.out | refine below_set ?_ GE315.out) | exact HB.out))))
        have n3_ := Aside0.mk (blk_below (g := gb301) (o := .cells #[.int .i64 a0_0, .slice Ao6 l0_1.length co6] 71 (0, 0)) (by (with_reducible repeat (first | refine blk_drewN ?_ _ | refine blk_drew ?_ | refine blk_alloc ?_ _)); exact BK301.out) hb)
        have n4_ := Aside0.mk (blk_below (g := gb302) (o := .cells #[.int .i64 a1_0, .slice A1_1 l1_1.length c1_1] 71 (0, 0)) (by (with_reducible repeat (first | refine blk_drewN ?_ _ | refine blk_drew ?_ | refine blk_alloc ?_ _)); exact BK302.out) hb)
        have n5_ := Aside0.mk (blk_below (g := gb303) (o := .cells #[.int .i64 0, .slice none 0 0] 71 (0, 0)) (by (with_reducible repeat (first | refine blk_drewN ?_ _ | refine blk_drew ?_ | refine blk_alloc ?_ _)); exact BK303.out) hb)
        have n6_ := Aside0.mk (blk_below (g := gb304) (o := .cells #[.int .i64 0, .slice none 0 0] 71 (0, 0)) (by (with_reducible repeat (first | refine blk_drewN ?_ _ | refine blk_drew ?_ | refine blk_alloc ?_ _)); exact BK304.out) hb)
        have n7_ := Aside0.mk (blk_below (g := gb315) (o := .cells #[.int .i64 t320, .slice Ao60 t321.length co60] 71 (0, 0)) (by (with_reducible repeat (first | refine blk_drewN ?_ _ | refine blk_drew ?_ | refine blk_alloc ?_ _)); exact BK315.out) hb)
        have n8_ := Aside0.mk (Kept.below (S := (fun k_ => P0_1_ k_)) (by repeat (first | (with_reducible first | exact HK.out | apply Kept.alloc | apply Kept.drewN | apply Kept.drew | refine Kept.setCell ?_ (.inr GW301.out) _ | refine Kept.setCell ?_ (.inr GW302.out) _ | refine Kept.setCell ?_ (.inr GW303.out) _ | refine Kept.setCell ?_ (.inr GW304.out) _ | refine Kept.setCell ?_ (.inr GW315.out) _) | exact HK.out)) hb)
        have n9_ := Aside0.mk (below_step (by repeat (first | (with_reducible first | exact HB.out | apply below_alloc | apply pw_below_drewN | apply below_drew1 | refine below_set ?_ GE301.out | refine below_set ?_ GE302.out | refine below_set ?_ GE303.out | refine below_set ?_ GE304.out | refine below_set ?_ GE315.out) | exact HB.out)) hb)
        clear HO_302001
        clear HO323
        clear BK301
        clear BK302
        clear BK303
        clear BK304
        clear BK315
        clear HK
        clear HB
        have HO_302001 := n0_
        have HO323 := n1_
        have HO327 := n2_
        have BK301 := n3_
        have BK302 := n4_
        have BK303 := n5_
        have BK304 := n6_
        have BK315 := n7_
        have HK := n8_
        have HB := n9_
        clear n0_ n1_ n2_ n3_ n4_ n5_ n6_ n7_ n8_ n9_
        (try clear hb)
        (try clear hb2)
        (try clear hk)
        (try clear hi)
        (try clear ho0)
        obtain ⟨Ao65, co65, eo65⟩ := Kd.R_slice HO327.out
        (first | subst eo65 | (injection eo65 with f1_ f2_ f3_; have f4_ := f1_.symm; have f5_ := f3_.symm; clear f1_ f2_ f3_; subst f4_; subst f5_))
        refine hK.out _ _ ⟨(blk_cell BK315.out 0).trans rfl, (blk_cell BK315.out 1).trans rfl, (blk_cell BK301.out 0).trans rfl, (blk_cell BK301.out 1).trans rfl, (blk_cell BK302.out 0).trans rfl, (blk_cell BK302.out 1).trans rfl⟩ (fun hHeld => ?_)
        clear hK K
        refine norm_ (a' := ?_) ?_ ?_
        rotate_left
        · show Act.put _ (some 42) _ = _
          simp only [Act.put, List.setIfInBounds_toArray, List.set_cons_zero, List.set_cons_succ, i64_w, i32_w]
          rfl
        refine one_ (i := 5) (N := some 43) #[true, true, true, true, true, true, false, false] rfl rfl (one_of HT_.out (by kernel_rfl)) (by decide) (fun K hK => ?_)
        refine goes_ Try.func41 (by kernel_rfl) rfl #[.agg #[.int .i64 a0_0, .slice Ao6 l0_1.length co6], .agg #[.int .i64 t324, .slice Ao65 t325.length co65]] (by rfl) rfl rfl (by (try simp only [List.map_toArray, List.map_cons, List.map_nil]); first | done | rfl | (simp only [List.length_drop, List.length_take]; rfl)) ?_
        with_reducible refine (zelligeref04_Sub.calls kj4 a0_0 (fun k_ => some k_ = (.slice Ao6 l0_1.length co6 : Value).ownBlock) (.slice Ao6 l0_1.length co6) l0_1 t324 (fun k_ => some k_ = (.slice Ao65 t325.length co65 : Value).ownBlock) (.slice Ao65 t325.length co65) t325 t328 t329 w0 _ ?side1 ?side2 ?side3 ?side4 ?side5 A54.out).mono ?_
        (case side1 => repeat (first | (with_reducible first | exact HB.out | apply below_alloc | apply pw_below_drewN | apply below_drew1 | refine below_set ?_ GE301.out | refine below_set ?_ GE302.out | refine below_set ?_ GE303.out | refine below_set ?_ GE304.out | refine below_set ?_ GE315.out) | exact HB.out))
        (case side2 => exact Kd.R_tight rfl HO_302001.out)
        (case side3 => exact fun k_ e_ => (HO_302001.out.1 k_ e_.symm).2)
        (case side4 => exact Kd.R_tight rfl HO327.out)
        (case side5 => exact fun k_ e_ => (HO327.out.1 k_ e_.symm).1.2)
        rintro e w66 ⟨v330, rfl, ho0, hb, hkp⟩
        refine ⟨_, rfl, ?_⟩
        have n0_ := Aside0.mk (blk_kept (by (with_reducible repeat (first | refine blk_drewN ?_ _ | refine blk_drew ?_ | refine blk_alloc ?_ _)); exact BK301.out) hkp (fun hs_ => Or.elim hs_ (fun e_ => (fun e_ => (Kd.R_ne HO_302001.out BK301.out (by decide)) e_) e_) (fun e_ => (fun e_ => (Kd.R_ne HO327.out BK301.out (by decide)) e_) e_)))
        have n1_ := Aside0.mk (blk_kept (by (with_reducible repeat (first | refine blk_drewN ?_ _ | refine blk_drew ?_ | refine blk_alloc ?_ _)); exact BK302.out) hkp (fun hs_ => Or.elim hs_ (fun e_ => (fun e_ => (Kd.R_ne HO_302001.out BK302.out (by decide)) e_) e_) (fun e_ => (fun e_ => (Kd.R_ne HO327.out BK302.out (by decide)) e_) e_)))
        have n2_ := Aside0.mk (blk_kept (by (with_reducible repeat (first | refine blk_drewN ?_ _ | refine blk_drew ?_ | refine blk_alloc ?_ _)); exact BK303.out) hkp (fun hs_ => Or.elim hs_ (fun e_ => (fun e_ => (Kd.R_ne HO_302001.out BK303.out (by decide)) e_) e_) (fun e_ => (fun e_ => (Kd.R_ne HO327.out BK303.out (by decide)) e_) e_)))
        have n3_ := Aside0.mk (blk_kept (by (with_reducible repeat (first | refine blk_drewN ?_ _ | refine blk_drew ?_ | refine blk_alloc ?_ _)); exact BK304.out) hkp (fun hs_ => Or.elim hs_ (fun e_ => (fun e_ => (Kd.R_ne HO_302001.out BK304.out (by decide)) e_) e_) (fun e_ => (fun e_ => (Kd.R_ne HO327.out BK304.out (by decide)) e_) e_)))
        have n4_ := Aside0.mk (blk_kept (by (with_reducible repeat (first | refine blk_drewN ?_ _ | refine blk_drew ?_ | refine blk_alloc ?_ _)); exact BK315.out) hkp (fun hs_ => Or.elim hs_ (fun e_ => (fun e_ => (Kd.R_ne HO_302001.out BK315.out (by decide)) e_) e_) (fun e_ => (fun e_ => (Kd.R_ne HO327.out BK315.out (by decide)) e_) e_)))
        have n5_ := Aside0.mk (Kd.R_mono (ok' := fun k_ => (P0_1_ k_ ∨ w.heap.size ≤ k_) ∧ some k_ ≠ (v330 : Value).ownBlock) (Kd.R_keptB (HO323.out) hkp (fun k_ hk_ hs_ => Or.elim hs_ (fun e_ => (hk_.1.2) e_) (fun e_ => (hk_.2) e_))) (fun k_ hk_ => ⟨hk_.1.1.1, fun e_ => Or.elim (ho0.1 k_ e_.symm) (fun hs_ => hk_.2.1 hs_) (fun hn_ => Nat.not_le.2 hk_.2.2 hn_)⟩))
        have n6_ := Aside0.mk (Kd.R_mono (ok' := fun k_ => (P0_1_ k_ ∨ w.heap.size ≤ k_) ∧ some k_ ≠ (.slice Ao60 t321.length co60 : Value).ownBlock) ho0 (fun k_ hk_ => ⟨Or.elim hk_ (fun hs_ => Or.elim hs_ (fun hs_ => (HO_302001.out.1 k_ (hs_).symm).1.1) (fun hs_ => (HO327.out.1 k_ (hs_).symm).1.1.1)) (fun hn_ => (.inr (Nat.le_trans (by first | exact HK.out.1 | exact (show Kept w _ (fun k_ => P0_1_ k_) from by repeat (first | (with_reducible first | exact HK.out | apply Kept.alloc | apply Kept.drewN | apply Kept.drew | refine Kept.setCell ?_ (.inr GW301.out) _ | refine Kept.setCell ?_ (.inr GW302.out) _ | refine Kept.setCell ?_ (.inr GW303.out) _ | refine Kept.setCell ?_ (.inr GW304.out) _ | refine Kept.setCell ?_ (.inr GW315.out) _) | exact HK.out)).1) hn_))), Or.elim hk_ (fun hs_ => Or.elim hs_ (fun hs_ => fun e_ => (((HO323.out).1 k_ e_.symm).1.2) hs_) (fun hs_ => fun e_ => (((HO323.out).1 k_ e_.symm).2) hs_)) (fun hn_ => (Kd.fresh' (Kd.R_lt (by (with_reducible repeat (first | apply Kd.R_alloc | apply Kd.R_drewN | apply Kd.R_drew)); exact HO323.out)) k_ hn_))⟩))
        have n7_ := Aside0.mk (Kept.then_ (S := (fun k_ => P0_1_ k_)) (by repeat (first | (with_reducible first | exact HK.out | apply Kept.alloc | apply Kept.drewN | apply Kept.drew | refine Kept.setCell ?_ (.inr GW301.out) _ | refine Kept.setCell ?_ (.inr GW302.out) _ | refine Kept.setCell ?_ (.inr GW303.out) _ | refine Kept.setCell ?_ (.inr GW304.out) _ | refine Kept.setCell ?_ (.inr GW315.out) _) | exact HK.out)) hkp (fun k_ hs_ => Or.elim hs_ (fun e_ => (fun e_ => (HO_302001.out.1 k_ e_.symm).1.1) e_) (fun e_ => (fun e_ => (HO327.out.1 k_ e_.symm).1.1.1) e_)))
        have n8_ := Aside0.mk (hb)
        clear BK301
        clear BK302
        clear BK303
        clear BK304
        clear BK315
        clear HO323
        clear HK
        clear HB
        clear HO327
        clear HO_302001
        have BK301 := n0_
        have BK302 := n1_
        have BK303 := n2_
        have BK304 := n3_
        have BK315 := n4_
        have HO323 := n5_
        have HO331 := n6_
        have HK := n7_
        have HB := n8_
        clear n0_ n1_ n2_ n3_ n4_ n5_ n6_ n7_ n8_
        (try clear hb)
        (try clear hkp)
        (try clear ho0)
        obtain ⟨Ao70, co70, eo70⟩ := Kd.R_slice HO331.out
        (first | subst eo70 | (injection eo70 with f1_ f2_ f3_; have f4_ := f1_.symm; have f5_ := f3_.symm; clear f1_ f2_ f3_; subst f4_; subst f5_))
        refine hK.out _ _ ⟨(blk_cell BK315.out 0).trans rfl, (blk_cell BK315.out 1).trans rfl, (blk_cell BK301.out 0).trans rfl, (blk_cell BK301.out 1).trans rfl, (blk_cell BK302.out 0).trans rfl, (blk_cell BK302.out 1).trans rfl⟩ (fun hHeld => ?_)
        clear hK K
        refine norm_ (a' := ?_) ?_ ?_
        rotate_left
        · show Act.put _ (some 43) _ = _
          simp only [Act.put, List.setIfInBounds_toArray, List.set_cons_zero, List.set_cons_succ, i64_w, i32_w]
          rfl
        refine one_ (i := 6) (N := none) #[true, true, true, true, true, true, true, false] rfl rfl (one_of HT_.out (by kernel_rfl)) (by decide) (fun K hK => ?_)
        have hs67 : w66.cell? ⟨gb303, 0, none⟩ = some (.int .i64 0) := (blk_cell BK303.out 0).trans rfl
        have hfs67 := blk_frozen BK303.out 0
        have hns67_0 := NB301_303.out
        have hns67_1 := NB302_303.out
        have hns67_3 := NB304_303.out
        have hns67_4 := NB315_303.out
        have hms67_0 := NB303_301.out
        have hms67_1 := NB303_302.out
        have hms67_3 := NB303_304.out
        have hms67_4 := NB303_315.out
        have hs68 : w66.cell? ⟨gb303, 1, none⟩ = some (.slice none 0 0) := (blk_cell BK303.out 1).trans rfl
        have hfs68 := blk_frozen BK303.out 1
        have hns68_0 := NB301_303.out
        have hns68_1 := NB302_303.out
        have hns68_3 := NB304_303.out
        have hns68_4 := NB315_303.out
        have hms68_0 := NB303_301.out
        have hms68_1 := NB303_302.out
        have hms68_3 := NB303_304.out
        have hms68_4 := NB303_315.out
        refine skip_ (w1 := ?_) (by rfl) rfl ?_ ?_
        rotate_left
        · go_simp
          rfl
        refine hK.out _ _ ⟨((cell_far (p := ⟨gb303, _, none⟩) NB315_303.out _).trans (((cell_far (p := ⟨gb303, _, none⟩) NB315_303.out _).trans (hHeld.1)))), ((cell_far (p := ⟨gb303, _, none⟩) NB315_303.out _).trans (((cell_far (p := ⟨gb303, _, none⟩) NB315_303.out _).trans (hHeld.2.1)))), ((cell_far (p := ⟨gb303, _, none⟩) NB301_303.out _).trans (((cell_far (p := ⟨gb303, _, none⟩) NB301_303.out _).trans (hHeld.2.2.1)))), ((cell_far (p := ⟨gb303, _, none⟩) NB301_303.out _).trans (((cell_far (p := ⟨gb303, _, none⟩) NB301_303.out _).trans (hHeld.2.2.2.1)))), ((cell_far (p := ⟨gb303, _, none⟩) NB302_303.out _).trans (((cell_far (p := ⟨gb303, _, none⟩) NB302_303.out _).trans (hHeld.2.2.2.2.1)))), ((cell_far (p := ⟨gb303, _, none⟩) NB302_303.out _).trans (((cell_far (p := ⟨gb303, _, none⟩) NB302_303.out _).trans (hHeld.2.2.2.2.2))))⟩ (fun hHeld => ?_)
        clear hK K
        refine one_ (i := 7) (N := none) #[true, true, true, true, true, true, true, true] rfl rfl (one_of HT_.out (by kernel_rfl)) (by decide) (fun K hK => ?_)
        have hs69 : w66.cell? ⟨gb304, 0, none⟩ = some (.int .i64 0) := (blk_cell BK304.out 0).trans rfl
        have hfs69 := blk_frozen BK304.out 0
        have hns69_0 := NB301_304.out
        have hns69_1 := NB302_304.out
        have hns69_2 := NB303_304.out
        have hns69_4 := NB315_304.out
        have hms69_0 := NB304_301.out
        have hms69_1 := NB304_302.out
        have hms69_2 := NB304_303.out
        have hms69_4 := NB304_315.out
        have hs71 : w66.cell? ⟨gb304, 1, none⟩ = some (.slice none 0 0) := (blk_cell BK304.out 1).trans rfl
        have hfs71 := blk_frozen BK304.out 1
        have hns71_0 := NB301_304.out
        have hns71_1 := NB302_304.out
        have hns71_2 := NB303_304.out
        have hns71_4 := NB315_304.out
        have hms71_0 := NB304_301.out
        have hms71_1 := NB304_302.out
        have hms71_2 := NB304_303.out
        have hms71_4 := NB304_315.out
        refine skip_ (w1 := ?_) (by rfl) rfl ?_ ?_
        rotate_left
        · go_simp
          rfl
        refine hK.out _ _ ⟨((cell_far (p := ⟨gb304, _, none⟩) NB315_304.out _).trans (((cell_far (p := ⟨gb304, _, none⟩) NB315_304.out _).trans (hHeld.1)))), ((cell_far (p := ⟨gb304, _, none⟩) NB315_304.out _).trans (((cell_far (p := ⟨gb304, _, none⟩) NB315_304.out _).trans (hHeld.2.1)))), ((cell_far (p := ⟨gb304, _, none⟩) NB301_304.out _).trans (((cell_far (p := ⟨gb304, _, none⟩) NB301_304.out _).trans (hHeld.2.2.1)))), ((cell_far (p := ⟨gb304, _, none⟩) NB301_304.out _).trans (((cell_far (p := ⟨gb304, _, none⟩) NB301_304.out _).trans (hHeld.2.2.2.1)))), ((cell_far (p := ⟨gb304, _, none⟩) NB302_304.out _).trans (((cell_far (p := ⟨gb304, _, none⟩) NB302_304.out _).trans (hHeld.2.2.2.2.1)))), ((cell_far (p := ⟨gb304, _, none⟩) NB302_304.out _).trans (((cell_far (p := ⟨gb304, _, none⟩) NB302_304.out _).trans (hHeld.2.2.2.2.2))))⟩ (fun hHeld => ?_)
        clear hK K
        refine done_ (done_of HT_.out (by kernel_rfl)) ?_
        try go_wp2
        refine bodyPost_ret (results_cc rfl _ _ gb303 gb304 71 71 #[.int .i64 t320, .slice Ao60 t321.length co60] #[.int .i64 t328, .slice Ao70 t329.length co70] (0, 0) (0, 0) _ _ rfl (by (with_reducible repeat (first | refine blk_drewN ?_ _ | refine blk_drew ?_ | refine blk_alloc ?_ _)); refine blk_far ?_ NB303_304.out _; (with_reducible repeat (first | refine blk_drewN ?_ _ | refine blk_drew ?_ | refine blk_alloc ?_ _)); refine blk_far ?_ NB303_304.out _; (with_reducible repeat (first | refine blk_drewN ?_ _ | refine blk_drew ?_ | refine blk_alloc ?_ _)); refine blk_put (cs := #[.int .i64 t320, .slice none 0 0]) ?_ 1 _ rfl; (with_reducible repeat (first | refine blk_drewN ?_ _ | refine blk_drew ?_ | refine blk_alloc ?_ _)); refine blk_put (cs := #[.int .i64 0, .slice none 0 0]) ?_ 0 _ rfl; (with_reducible repeat (first | refine blk_drewN ?_ _ | refine blk_drew ?_ | refine blk_alloc ?_ _)); exact BK303.out) Try.underlying71 rfl (by kernel_rfl) rfl (by (with_reducible repeat (first | refine blk_drewN ?_ _ | refine blk_drew ?_ | refine blk_alloc ?_ _)); refine blk_put (cs := #[.int .i64 t328, .slice none 0 0]) ?_ 1 _ rfl; (with_reducible repeat (first | refine blk_drewN ?_ _ | refine blk_drew ?_ | refine blk_alloc ?_ _)); refine blk_put (cs := #[.int .i64 0, .slice none 0 0]) ?_ 0 _ rfl; (with_reducible repeat (first | refine blk_drewN ?_ _ | refine blk_drew ?_ | refine blk_alloc ?_ _)); refine blk_far ?_ NB304_303.out _; (with_reducible repeat (first | refine blk_drewN ?_ _ | refine blk_drew ?_ | refine blk_alloc ?_ _)); refine blk_far ?_ NB304_303.out _; (with_reducible repeat (first | refine blk_drewN ?_ _ | refine blk_drew ?_ | refine blk_alloc ?_ _)); exact BK304.out) Try.underlying71 rfl (by kernel_rfl)) rfl ?_
        exact ⟨_, _, by first | rfl | (simp [errW_none, errW_some] <;> rfl) | (simp [*, errW_none, errW_some] <;> rfl), by (with_reducible repeat (first | apply Kd.R_alloc | apply Kd.R_drewN | apply Kd.R_drew)); exact Kd.R_mono (Kd.R_far (p := ⟨gb304, 1, none⟩) (Kd.R_far (p := ⟨gb304, 0, none⟩) (Kd.R_far (p := ⟨gb303, 1, none⟩) (Kd.R_far (p := ⟨gb303, 0, none⟩) (Kd.R_types (Kd.R_types HO323.out BK303.out (by decide)) BK304.out (by decide)) (fun _ hk => hk.1.2) (.int .i64 t320)) (fun _ hk => hk.1.2) (.slice Ao60 t321.length co60)) (fun _ hk => hk.2) (.int .i64 t328)) (fun _ hk => hk.2) (.slice Ao70 t329.length co70)) (fun _ hk => ⟨hk.1.1.1, hk.1.1.2⟩), by (with_reducible repeat (first | apply Kd.R_alloc | apply Kd.R_drewN | apply Kd.R_drew)); exact Kd.R_mono (Kd.R_far (p := ⟨gb304, 1, none⟩) (Kd.R_far (p := ⟨gb304, 0, none⟩) (Kd.R_far (p := ⟨gb303, 1, none⟩) (Kd.R_far (p := ⟨gb303, 0, none⟩) (Kd.R_types (Kd.R_types HO331.out BK303.out (by decide)) BK304.out (by decide)) (fun _ hk => hk.1.2) (.int .i64 t320)) (fun _ hk => hk.1.2) (.slice Ao60 t321.length co60)) (fun _ hk => hk.2) (.int .i64 t328)) (fun _ hk => hk.2) (.slice Ao70 t329.length co70)) (fun _ hk => ⟨hk.1.1.1, hk.1.1.2⟩), by repeat (first | (with_reducible first | exact HB.out | apply below_alloc | apply pw_below_drewN | apply below_drew1 | refine below_set ?_ GE301.out | refine below_set ?_ GE302.out | refine below_set ?_ GE303.out | refine below_set ?_ GE304.out | refine below_set ?_ GE315.out) | exact HB.out), by repeat (first | (with_reducible first | exact HK.out | apply Kept.alloc | apply Kept.drewN | apply Kept.drew | refine Kept.setCell ?_ (.inr GW301.out) _ | refine Kept.setCell ?_ (.inr GW302.out) _ | refine Kept.setCell ?_ (.inr GW303.out) _ | refine Kept.setCell ?_ (.inr GW304.out) _ | refine Kept.setCell ?_ (.inr GW315.out) _) | exact HK.out)⟩
      · replace c50 := Bool.eq_false_iff.mpr c50
        subst c50
        have H1 : ((zelligeref04_Mul.f kj4 t311 t312 a1_0 l1_1).bind fun bt332 => ((zelligeref04_Sub.f kj4 a0_0 l0_1 bt332.1 bt332.2).bind fun bt336 => (some (t311, t312, bt336.1, bt336.2)))) = some (r1, r2, r3, r4) := by rw [if_neg (show ¬ (false = true) by decide)] at H; exact H
        clear H
        have H := H1
        clear H1
        replace H := Option.bind_eq_some_iff.mp H
        obtain ⟨⟨t332, t333⟩, A720, H⟩ := H
        replace H : ((zelligeref04_Sub.f kj4 a0_0 l0_1 t332 t333).bind fun bt336 => (some (t311, t312, bt336.1, bt336.2))) = some (r1, r2, r3, r4) := H
        have A72 := Aside0.mk A720
        clear A720
        replace H := Option.bind_eq_some_iff.mp H
        obtain ⟨⟨t336, t337⟩, A730, H⟩ := H
        replace H : (some (t311, t312, t336, t337)) = some (r1, r2, r3, r4) := H
        have A73 := Aside0.mk A730
        clear A730
        simp only [Option.some.injEq, Prod.mk.injEq] at H
        obtain ⟨rfl, rfl, rfl, rfl⟩ := H
        try go_wp2
        have n0_ := Aside0.mk (Kd.R_drew HO_302001.out)
        have n1_ := Aside0.mk (Kd.R_drew HO_316001.out)
        have n2_ := Aside0.mk (blk_drew BK301.out)
        have n3_ := Aside0.mk (blk_drew BK302.out)
        have n4_ := Aside0.mk (blk_drew BK303.out)
        have n5_ := Aside0.mk (blk_drew BK304.out)
        have n6_ := Aside0.mk (blk_drew BK315.out)
        have n7_ := Aside0.mk (Kept.drew HK.out)
        have n8_ := Aside0.mk (below_drew1 HB.out)
        clear HO_302001
        clear HO_316001
        clear BK301
        clear BK302
        clear BK303
        clear BK304
        clear BK315
        clear HK
        clear HB
        have HO_302001 := n0_
        have HO_316001 := n1_
        have BK301 := n2_
        have BK302 := n3_
        have BK303 := n4_
        have BK304 := n5_
        have BK315 := n6_
        have HK := n7_
        have HB := n8_
        clear n0_ n1_ n2_ n3_ n4_ n5_ n6_ n7_ n8_
        refine start_ (n := 8) (S := fun w' => w'.cell? ⟨gb315, 0, none⟩ = some (.int .i64 t311) ∧ w'.cell? ⟨gb315, 1, none⟩ = some (.slice Ao29 t312.length co29) ∧ w'.cell? ⟨gb301, 0, none⟩ = some (.int .i64 a0_0) ∧ w'.cell? ⟨gb301, 1, none⟩ = some (.slice Ao6 l0_1.length co6) ∧ w'.cell? ⟨gb302, 0, none⟩ = some (.int .i64 a1_0) ∧ w'.cell? ⟨gb302, 1, none⟩ = some (.slice A1_1 l1_1.length c1_1)) (ds := []) #[false, false, false, false, false, false, false, false] (by kernel_rfl) rfl rfl ⟨(blk_cell BK315.out 0).trans rfl, (blk_cell BK315.out 1).trans rfl, (blk_cell BK301.out 0).trans rfl, (blk_cell BK301.out 1).trans rfl, (blk_cell BK302.out 0).trans rfl, (blk_cell BK302.out 1).trans rfl⟩ (fun hHeld => ?_); refine with_tabW zelligeref04_Floor.tab5 zelligeref04_Floor.bits5 (fun HT_ HW_ => ?_)
        generalize wc.drew = w74 at HO_302001 HO_316001 BK301 BK302 BK303 BK304 BK315 HK HB hHeld ⊢
        refine take_ (i := 0) (N := some 38) (v := ?_) (a' := ?_) #[true, false, false, false, false, false, false, false] rfl rfl (take_ofW HT_.out HW_.out (by kernel_rfl)) (fun _ _ _ h => h) (Or.inl ⟨by rfl, ?_⟩) hHeld ?_ ?_
        rotate_left
        · rintro w' ⟨s0, s1, s2, s3, s4, s5⟩
          go_simp
          with_reducible rfl
        rotate_left
        · simp only [Act.put, List.setIfInBounds_toArray, List.set_cons_zero, List.set_cons_succ, i64_w, i32_w]
          rfl
        refine take_ (i := 1) (N := some 39) (v := ?_) (a' := ?_) #[true, true, false, false, false, false, false, false] rfl rfl (take_ofW HT_.out HW_.out (by kernel_rfl)) (fun _ _ _ h => h) (Or.inl ⟨by rfl, ?_⟩) hHeld ?_ ?_
        rotate_left
        · rintro w' ⟨s0, s1, s2, s3, s4, s5⟩
          go_simp
          with_reducible rfl
        rotate_left
        · simp only [Act.put, List.setIfInBounds_toArray, List.set_cons_zero, List.set_cons_succ, i64_w, i32_w]
          rfl
        refine take_ (i := 2) (N := some 40) (v := ?_) (a' := ?_) #[true, true, true, false, false, false, false, false] rfl rfl (take_ofW HT_.out HW_.out (by kernel_rfl)) (fun _ _ _ h => h) (Or.inl ⟨by rfl, ?_⟩) hHeld ?_ ?_
        rotate_left
        · rintro w' ⟨s0, s1, s2, s3, s4, s5⟩
          go_simp
          with_reducible rfl
        rotate_left
        · simp only [Act.put, List.setIfInBounds_toArray, List.set_cons_zero, List.set_cons_succ, i64_w, i32_w]
          rfl
        refine take_ (i := 3) (N := some 41) (v := ?_) (a' := ?_) #[true, true, true, true, false, false, false, false] rfl rfl (take_ofW HT_.out HW_.out (by kernel_rfl)) (fun _ _ _ h => h) (Or.inl ⟨by rfl, ?_⟩) hHeld ?_ ?_
        rotate_left
        · rintro w' ⟨s0, s1, s2, s3, s4, s5⟩
          go_simp
          with_reducible rfl
        rotate_left
        · simp only [Act.put, List.setIfInBounds_toArray, List.set_cons_zero, List.set_cons_succ, i64_w, i32_w]
          rfl
        refine one_ (i := 4) (N := some 42) #[true, true, true, true, true, false, false, false] rfl rfl (one_of HT_.out (by kernel_rfl)) (by decide) (fun K hK => ?_)
        refine goes_ Try.func42 (by kernel_rfl) rfl #[.agg #[.int .i64 t311, .slice Ao29 t312.length co29], .agg #[.int .i64 a1_0, .slice A1_1 l1_1.length c1_1]] (by rfl) rfl rfl (by (try simp only [List.map_toArray, List.map_cons, List.map_nil]); first | done | rfl | (simp only [List.length_drop, List.length_take]; rfl)) ?_
        with_reducible refine (zelligeref04_Mul.calls kj4 t311 _ _ t312 a1_0 _ _ l1_1 t332 t333 _ ?side1 ?side2 ?side3 ?side4 A72.out).mono ?_
        (case side1 => repeat (first | exact (Kd.R_reads' HO_316001.out).2.2 | (with_reducible refine Kd.C_alloc ?_ _) | (with_reducible refine Kd.C_drewN ?_ _) | (with_reducible refine Kd.C_drew ?_)))
        (case side2 => exact (Kd.R_reads' HO_316001.out).2.1)
        (case side3 => exact Kd.C_kept_now HR1_1.out (by repeat (first | (with_reducible first | exact HK.out | apply Kept.alloc | apply Kept.drewN | apply Kept.drew | refine Kept.setCell ?_ (.inr GW301.out) _ | refine Kept.setCell ?_ (.inr GW302.out) _ | refine Kept.setCell ?_ (.inr GW303.out) _ | refine Kept.setCell ?_ (.inr GW304.out) _ | refine Kept.setCell ?_ (.inr GW315.out) _) | exact HK.out)))
        (case side4 => exact HC1_1.out)
        rintro e w75 ⟨v334, rfl, ho0, hb⟩
        refine ⟨_, rfl, ?_⟩
        have n0_ := Aside0.mk (Kd.R_elder' (by (with_reducible repeat (first | apply Kd.R_alloc | apply Kd.R_drewN | apply Kd.R_drew)); exact HO_302001.out) (Kd.R_base ho0) hb)
        have n1_ := Aside0.mk (Kd.R_elder' (by (with_reducible repeat (first | apply Kd.R_alloc | apply Kd.R_drewN | apply Kd.R_drew)); exact HO_316001.out) (Kd.R_base ho0) hb)
        have n2_ := Aside0.mk (Kd.R_lower (Kd.R_new' (Kd.R_new' (Kd.R_newM (M := fun k_ => (P0_1_ k_ ∨ w.heap.size ≤ k_)) ho0 (by first | exact HK.out.1 | exact (show Kept w _ (fun k_ => P0_1_ k_) from by repeat (first | (with_reducible first | exact HK.out | apply Kept.alloc | apply Kept.drewN | apply Kept.drew | refine Kept.setCell ?_ (.inr GW301.out) _ | refine Kept.setCell ?_ (.inr GW302.out) _ | refine Kept.setCell ?_ (.inr GW303.out) _ | refine Kept.setCell ?_ (.inr GW304.out) _ | refine Kept.setCell ?_ (.inr GW315.out) _) | exact HK.out)).1) (fun k_ h_ => .inr h_)) (Kd.R_lt (by (with_reducible repeat (first | apply Kd.R_alloc | apply Kd.R_drewN | apply Kd.R_drew)); exact HO_302001.out))) (Kd.R_lt (by (with_reducible repeat (first | apply Kd.R_alloc | apply Kd.R_drewN | apply Kd.R_drew)); exact HO_316001.out))) (below_size (by repeat (first | (with_reducible first | exact HB.out | apply below_alloc | apply pw_below_drewN | apply below_drew1 | refine below_set ?_ GE301.out | refine below_set ?_ GE302.out | refine below_set ?_ GE303.out | refine below_set ?_ GE304.out | refine below_set ?_ GE315.out) | exact HB.out))))
        have n3_ := Aside0.mk (blk_below (g := gb301) (o := .cells #[.int .i64 a0_0, .slice Ao6 l0_1.length co6] 71 (0, 0)) (by (with_reducible repeat (first | refine blk_drewN ?_ _ | refine blk_drew ?_ | refine blk_alloc ?_ _)); exact BK301.out) hb)
        have n4_ := Aside0.mk (blk_below (g := gb302) (o := .cells #[.int .i64 a1_0, .slice A1_1 l1_1.length c1_1] 71 (0, 0)) (by (with_reducible repeat (first | refine blk_drewN ?_ _ | refine blk_drew ?_ | refine blk_alloc ?_ _)); exact BK302.out) hb)
        have n5_ := Aside0.mk (blk_below (g := gb303) (o := .cells #[.int .i64 0, .slice none 0 0] 71 (0, 0)) (by (with_reducible repeat (first | refine blk_drewN ?_ _ | refine blk_drew ?_ | refine blk_alloc ?_ _)); exact BK303.out) hb)
        have n6_ := Aside0.mk (blk_below (g := gb304) (o := .cells #[.int .i64 0, .slice none 0 0] 71 (0, 0)) (by (with_reducible repeat (first | refine blk_drewN ?_ _ | refine blk_drew ?_ | refine blk_alloc ?_ _)); exact BK304.out) hb)
        have n7_ := Aside0.mk (blk_below (g := gb315) (o := .cells #[.int .i64 t311, .slice Ao29 t312.length co29] 71 (0, 0)) (by (with_reducible repeat (first | refine blk_drewN ?_ _ | refine blk_drew ?_ | refine blk_alloc ?_ _)); exact BK315.out) hb)
        have n8_ := Aside0.mk (Kept.below (S := (fun k_ => P0_1_ k_)) (by repeat (first | (with_reducible first | exact HK.out | apply Kept.alloc | apply Kept.drewN | apply Kept.drew | refine Kept.setCell ?_ (.inr GW301.out) _ | refine Kept.setCell ?_ (.inr GW302.out) _ | refine Kept.setCell ?_ (.inr GW303.out) _ | refine Kept.setCell ?_ (.inr GW304.out) _ | refine Kept.setCell ?_ (.inr GW315.out) _) | exact HK.out)) hb)
        have n9_ := Aside0.mk (below_step (by repeat (first | (with_reducible first | exact HB.out | apply below_alloc | apply pw_below_drewN | apply below_drew1 | refine below_set ?_ GE301.out | refine below_set ?_ GE302.out | refine below_set ?_ GE303.out | refine below_set ?_ GE304.out | refine below_set ?_ GE315.out) | exact HB.out)) hb)
        clear HO_302001
        clear HO_316001
        clear BK301
        clear BK302
        clear BK303
        clear BK304
        clear BK315
        clear HK
        clear HB
        have HO_302001 := n0_
        have HO_316001 := n1_
        have HO335 := n2_
        have BK301 := n3_
        have BK302 := n4_
        have BK303 := n5_
        have BK304 := n6_
        have BK315 := n7_
        have HK := n8_
        have HB := n9_
        clear n0_ n1_ n2_ n3_ n4_ n5_ n6_ n7_ n8_ n9_
        (try clear hb)
        (try clear hb2)
        (try clear hk)
        (try clear hi)
        (try clear ho0)
        obtain ⟨Ao76, co76, eo76⟩ := Kd.R_slice HO335.out
        (first | subst eo76 | (injection eo76 with f1_ f2_ f3_; have f4_ := f1_.symm; have f5_ := f3_.symm; clear f1_ f2_ f3_; subst f4_; subst f5_))
        refine hK.out _ _ ⟨(blk_cell BK315.out 0).trans rfl, (blk_cell BK315.out 1).trans rfl, (blk_cell BK301.out 0).trans rfl, (blk_cell BK301.out 1).trans rfl, (blk_cell BK302.out 0).trans rfl, (blk_cell BK302.out 1).trans rfl⟩ (fun hHeld => ?_)
        clear hK K
        refine norm_ (a' := ?_) ?_ ?_
        rotate_left
        · show Act.put _ (some 42) _ = _
          simp only [Act.put, List.setIfInBounds_toArray, List.set_cons_zero, List.set_cons_succ, i64_w, i32_w]
          rfl
        refine one_ (i := 5) (N := some 43) #[true, true, true, true, true, true, false, false] rfl rfl (one_of HT_.out (by kernel_rfl)) (by decide) (fun K hK => ?_)
        refine goes_ Try.func41 (by kernel_rfl) rfl #[.agg #[.int .i64 a0_0, .slice Ao6 l0_1.length co6], .agg #[.int .i64 t332, .slice Ao76 t333.length co76]] (by rfl) rfl rfl (by (try simp only [List.map_toArray, List.map_cons, List.map_nil]); first | done | rfl | (simp only [List.length_drop, List.length_take]; rfl)) ?_
        with_reducible refine (zelligeref04_Sub.calls kj4 a0_0 (fun k_ => some k_ = (.slice Ao6 l0_1.length co6 : Value).ownBlock) (.slice Ao6 l0_1.length co6) l0_1 t332 (fun k_ => some k_ = (.slice Ao76 t333.length co76 : Value).ownBlock) (.slice Ao76 t333.length co76) t333 t336 t337 w0 _ ?side1 ?side2 ?side3 ?side4 ?side5 A73.out).mono ?_
        (case side1 => repeat (first | (with_reducible first | exact HB.out | apply below_alloc | apply pw_below_drewN | apply below_drew1 | refine below_set ?_ GE301.out | refine below_set ?_ GE302.out | refine below_set ?_ GE303.out | refine below_set ?_ GE304.out | refine below_set ?_ GE315.out) | exact HB.out))
        (case side2 => exact Kd.R_tight rfl HO_302001.out)
        (case side3 => exact fun k_ e_ => (HO_302001.out.1 k_ e_.symm).2)
        (case side4 => exact Kd.R_tight rfl HO335.out)
        (case side5 => exact fun k_ e_ => (HO335.out.1 k_ e_.symm).1.2)
        rintro e w77 ⟨v338, rfl, ho0, hb, hkp⟩
        refine ⟨_, rfl, ?_⟩
        have n0_ := Aside0.mk (Kd.R_mono (ok' := fun k_ => (P0_1_ k_ ∨ w.heap.size ≤ k_) ∧ some k_ ≠ (v338 : Value).ownBlock) (Kd.R_keptB (HO_316001.out) hkp (fun k_ hk_ hs_ => Or.elim hs_ (fun e_ => (hk_.1.2) e_) (fun e_ => (hk_.2) e_))) (fun k_ hk_ => ⟨hk_.1.1.1, fun e_ => Or.elim (ho0.1 k_ e_.symm) (fun hs_ => hk_.2.1 hs_) (fun hn_ => Nat.not_le.2 hk_.2.2 hn_)⟩))
        have n1_ := Aside0.mk (blk_kept (by (with_reducible repeat (first | refine blk_drewN ?_ _ | refine blk_drew ?_ | refine blk_alloc ?_ _)); exact BK301.out) hkp (fun hs_ => Or.elim hs_ (fun e_ => (fun e_ => (Kd.R_ne HO_302001.out BK301.out (by decide)) e_) e_) (fun e_ => (fun e_ => (Kd.R_ne HO335.out BK301.out (by decide)) e_) e_)))
        have n2_ := Aside0.mk (blk_kept (by (with_reducible repeat (first | refine blk_drewN ?_ _ | refine blk_drew ?_ | refine blk_alloc ?_ _)); exact BK302.out) hkp (fun hs_ => Or.elim hs_ (fun e_ => (fun e_ => (Kd.R_ne HO_302001.out BK302.out (by decide)) e_) e_) (fun e_ => (fun e_ => (Kd.R_ne HO335.out BK302.out (by decide)) e_) e_)))
        have n3_ := Aside0.mk (blk_kept (by (with_reducible repeat (first | refine blk_drewN ?_ _ | refine blk_drew ?_ | refine blk_alloc ?_ _)); exact BK303.out) hkp (fun hs_ => Or.elim hs_ (fun e_ => (fun e_ => (Kd.R_ne HO_302001.out BK303.out (by decide)) e_) e_) (fun e_ => (fun e_ => (Kd.R_ne HO335.out BK303.out (by decide)) e_) e_)))
        have n4_ := Aside0.mk (blk_kept (by (with_reducible repeat (first | refine blk_drewN ?_ _ | refine blk_drew ?_ | refine blk_alloc ?_ _)); exact BK304.out) hkp (fun hs_ => Or.elim hs_ (fun e_ => (fun e_ => (Kd.R_ne HO_302001.out BK304.out (by decide)) e_) e_) (fun e_ => (fun e_ => (Kd.R_ne HO335.out BK304.out (by decide)) e_) e_)))
        have n5_ := Aside0.mk (blk_kept (by (with_reducible repeat (first | refine blk_drewN ?_ _ | refine blk_drew ?_ | refine blk_alloc ?_ _)); exact BK315.out) hkp (fun hs_ => Or.elim hs_ (fun e_ => (fun e_ => (Kd.R_ne HO_302001.out BK315.out (by decide)) e_) e_) (fun e_ => (fun e_ => (Kd.R_ne HO335.out BK315.out (by decide)) e_) e_)))
        have n6_ := Aside0.mk (Kd.R_mono (ok' := fun k_ => (P0_1_ k_ ∨ w.heap.size ≤ k_) ∧ some k_ ≠ (.slice Ao29 t312.length co29 : Value).ownBlock) ho0 (fun k_ hk_ => ⟨Or.elim hk_ (fun hs_ => Or.elim hs_ (fun hs_ => (HO_302001.out.1 k_ (hs_).symm).1.1) (fun hs_ => (HO335.out.1 k_ (hs_).symm).1.1.1)) (fun hn_ => (.inr (Nat.le_trans (by first | exact HK.out.1 | exact (show Kept w _ (fun k_ => P0_1_ k_) from by repeat (first | (with_reducible first | exact HK.out | apply Kept.alloc | apply Kept.drewN | apply Kept.drew | refine Kept.setCell ?_ (.inr GW301.out) _ | refine Kept.setCell ?_ (.inr GW302.out) _ | refine Kept.setCell ?_ (.inr GW303.out) _ | refine Kept.setCell ?_ (.inr GW304.out) _ | refine Kept.setCell ?_ (.inr GW315.out) _) | exact HK.out)).1) hn_))), Or.elim hk_ (fun hs_ => Or.elim hs_ (fun hs_ => fun e_ => (((HO_316001.out).1 k_ e_.symm).1.2) hs_) (fun hs_ => fun e_ => (((HO_316001.out).1 k_ e_.symm).2) hs_)) (fun hn_ => (Kd.fresh' (Kd.R_lt (by (with_reducible repeat (first | apply Kd.R_alloc | apply Kd.R_drewN | apply Kd.R_drew)); exact HO_316001.out)) k_ hn_))⟩))
        have n7_ := Aside0.mk (Kept.then_ (S := (fun k_ => P0_1_ k_)) (by repeat (first | (with_reducible first | exact HK.out | apply Kept.alloc | apply Kept.drewN | apply Kept.drew | refine Kept.setCell ?_ (.inr GW301.out) _ | refine Kept.setCell ?_ (.inr GW302.out) _ | refine Kept.setCell ?_ (.inr GW303.out) _ | refine Kept.setCell ?_ (.inr GW304.out) _ | refine Kept.setCell ?_ (.inr GW315.out) _) | exact HK.out)) hkp (fun k_ hs_ => Or.elim hs_ (fun e_ => (fun e_ => (HO_302001.out.1 k_ e_.symm).1.1) e_) (fun e_ => (fun e_ => (HO335.out.1 k_ e_.symm).1.1.1) e_)))
        have n8_ := Aside0.mk (hb)
        clear HO_316001
        clear BK301
        clear BK302
        clear BK303
        clear BK304
        clear BK315
        clear HK
        clear HB
        clear HO335
        clear HO_302001
        have HO_316001 := n0_
        have BK301 := n1_
        have BK302 := n2_
        have BK303 := n3_
        have BK304 := n4_
        have BK315 := n5_
        have HO339 := n6_
        have HK := n7_
        have HB := n8_
        clear n0_ n1_ n2_ n3_ n4_ n5_ n6_ n7_ n8_
        (try clear hb)
        (try clear hkp)
        (try clear ho0)
        obtain ⟨Ao81, co81, eo81⟩ := Kd.R_slice HO339.out
        (first | subst eo81 | (injection eo81 with f1_ f2_ f3_; have f4_ := f1_.symm; have f5_ := f3_.symm; clear f1_ f2_ f3_; subst f4_; subst f5_))
        refine hK.out _ _ ⟨(blk_cell BK315.out 0).trans rfl, (blk_cell BK315.out 1).trans rfl, (blk_cell BK301.out 0).trans rfl, (blk_cell BK301.out 1).trans rfl, (blk_cell BK302.out 0).trans rfl, (blk_cell BK302.out 1).trans rfl⟩ (fun hHeld => ?_)
        clear hK K
        refine norm_ (a' := ?_) ?_ ?_
        rotate_left
        · show Act.put _ (some 43) _ = _
          simp only [Act.put, List.setIfInBounds_toArray, List.set_cons_zero, List.set_cons_succ, i64_w, i32_w]
          rfl
        refine one_ (i := 6) (N := none) #[true, true, true, true, true, true, true, false] rfl rfl (one_of HT_.out (by kernel_rfl)) (by decide) (fun K hK => ?_)
        have hs78 : w77.cell? ⟨gb303, 0, none⟩ = some (.int .i64 0) := (blk_cell BK303.out 0).trans rfl
        have hfs78 := blk_frozen BK303.out 0
        have hns78_0 := NB301_303.out
        have hns78_1 := NB302_303.out
        have hns78_3 := NB304_303.out
        have hns78_4 := NB315_303.out
        have hms78_0 := NB303_301.out
        have hms78_1 := NB303_302.out
        have hms78_3 := NB303_304.out
        have hms78_4 := NB303_315.out
        have hs79 : w77.cell? ⟨gb303, 1, none⟩ = some (.slice none 0 0) := (blk_cell BK303.out 1).trans rfl
        have hfs79 := blk_frozen BK303.out 1
        have hns79_0 := NB301_303.out
        have hns79_1 := NB302_303.out
        have hns79_3 := NB304_303.out
        have hns79_4 := NB315_303.out
        have hms79_0 := NB303_301.out
        have hms79_1 := NB303_302.out
        have hms79_3 := NB303_304.out
        have hms79_4 := NB303_315.out
        refine skip_ (w1 := ?_) (by rfl) rfl ?_ ?_
        rotate_left
        · go_simp
          rfl
        refine hK.out _ _ ⟨((cell_far (p := ⟨gb303, _, none⟩) NB315_303.out _).trans (((cell_far (p := ⟨gb303, _, none⟩) NB315_303.out _).trans (hHeld.1)))), ((cell_far (p := ⟨gb303, _, none⟩) NB315_303.out _).trans (((cell_far (p := ⟨gb303, _, none⟩) NB315_303.out _).trans (hHeld.2.1)))), ((cell_far (p := ⟨gb303, _, none⟩) NB301_303.out _).trans (((cell_far (p := ⟨gb303, _, none⟩) NB301_303.out _).trans (hHeld.2.2.1)))), ((cell_far (p := ⟨gb303, _, none⟩) NB301_303.out _).trans (((cell_far (p := ⟨gb303, _, none⟩) NB301_303.out _).trans (hHeld.2.2.2.1)))), ((cell_far (p := ⟨gb303, _, none⟩) NB302_303.out _).trans (((cell_far (p := ⟨gb303, _, none⟩) NB302_303.out _).trans (hHeld.2.2.2.2.1)))), ((cell_far (p := ⟨gb303, _, none⟩) NB302_303.out _).trans (((cell_far (p := ⟨gb303, _, none⟩) NB302_303.out _).trans (hHeld.2.2.2.2.2))))⟩ (fun hHeld => ?_)
        clear hK K
        refine one_ (i := 7) (N := none) #[true, true, true, true, true, true, true, true] rfl rfl (one_of HT_.out (by kernel_rfl)) (by decide) (fun K hK => ?_)
        have hs80 : w77.cell? ⟨gb304, 0, none⟩ = some (.int .i64 0) := (blk_cell BK304.out 0).trans rfl
        have hfs80 := blk_frozen BK304.out 0
        have hns80_0 := NB301_304.out
        have hns80_1 := NB302_304.out
        have hns80_2 := NB303_304.out
        have hns80_4 := NB315_304.out
        have hms80_0 := NB304_301.out
        have hms80_1 := NB304_302.out
        have hms80_2 := NB304_303.out
        have hms80_4 := NB304_315.out
        have hs82 : w77.cell? ⟨gb304, 1, none⟩ = some (.slice none 0 0) := (blk_cell BK304.out 1).trans rfl
        have hfs82 := blk_frozen BK304.out 1
        have hns82_0 := NB301_304.out
        have hns82_1 := NB302_304.out
        have hns82_2 := NB303_304.out
        have hns82_4 := NB315_304.out
        have hms82_0 := NB304_301.out
        have hms82_1 := NB304_302.out
        have hms82_2 := NB304_303.out
        have hms82_4 := NB304_315.out
        refine skip_ (w1 := ?_) (by rfl) rfl ?_ ?_
        rotate_left
        · go_simp
          rfl
        refine hK.out _ _ ⟨((cell_far (p := ⟨gb304, _, none⟩) NB315_304.out _).trans (((cell_far (p := ⟨gb304, _, none⟩) NB315_304.out _).trans (hHeld.1)))), ((cell_far (p := ⟨gb304, _, none⟩) NB315_304.out _).trans (((cell_far (p := ⟨gb304, _, none⟩) NB315_304.out _).trans (hHeld.2.1)))), ((cell_far (p := ⟨gb304, _, none⟩) NB301_304.out _).trans (((cell_far (p := ⟨gb304, _, none⟩) NB301_304.out _).trans (hHeld.2.2.1)))), ((cell_far (p := ⟨gb304, _, none⟩) NB301_304.out _).trans (((cell_far (p := ⟨gb304, _, none⟩) NB301_304.out _).trans (hHeld.2.2.2.1)))), ((cell_far (p := ⟨gb304, _, none⟩) NB302_304.out _).trans (((cell_far (p := ⟨gb304, _, none⟩) NB302_304.out _).trans (hHeld.2.2.2.2.1)))), ((cell_far (p := ⟨gb304, _, none⟩) NB302_304.out _).trans (((cell_far (p := ⟨gb304, _, none⟩) NB302_304.out _).trans (hHeld.2.2.2.2.2))))⟩ (fun hHeld => ?_)
        clear hK K
        refine done_ (done_of HT_.out (by kernel_rfl)) ?_
        try go_wp2
        refine bodyPost_ret (results_cc rfl _ _ gb303 gb304 71 71 #[.int .i64 t311, .slice Ao29 t312.length co29] #[.int .i64 t336, .slice Ao81 t337.length co81] (0, 0) (0, 0) _ _ rfl (by (with_reducible repeat (first | refine blk_drewN ?_ _ | refine blk_drew ?_ | refine blk_alloc ?_ _)); refine blk_far ?_ NB303_304.out _; (with_reducible repeat (first | refine blk_drewN ?_ _ | refine blk_drew ?_ | refine blk_alloc ?_ _)); refine blk_far ?_ NB303_304.out _; (with_reducible repeat (first | refine blk_drewN ?_ _ | refine blk_drew ?_ | refine blk_alloc ?_ _)); refine blk_put (cs := #[.int .i64 t311, .slice none 0 0]) ?_ 1 _ rfl; (with_reducible repeat (first | refine blk_drewN ?_ _ | refine blk_drew ?_ | refine blk_alloc ?_ _)); refine blk_put (cs := #[.int .i64 0, .slice none 0 0]) ?_ 0 _ rfl; (with_reducible repeat (first | refine blk_drewN ?_ _ | refine blk_drew ?_ | refine blk_alloc ?_ _)); exact BK303.out) Try.underlying71 rfl (by kernel_rfl) rfl (by (with_reducible repeat (first | refine blk_drewN ?_ _ | refine blk_drew ?_ | refine blk_alloc ?_ _)); refine blk_put (cs := #[.int .i64 t336, .slice none 0 0]) ?_ 1 _ rfl; (with_reducible repeat (first | refine blk_drewN ?_ _ | refine blk_drew ?_ | refine blk_alloc ?_ _)); refine blk_put (cs := #[.int .i64 0, .slice none 0 0]) ?_ 0 _ rfl; (with_reducible repeat (first | refine blk_drewN ?_ _ | refine blk_drew ?_ | refine blk_alloc ?_ _)); refine blk_far ?_ NB304_303.out _; (with_reducible repeat (first | refine blk_drewN ?_ _ | refine blk_drew ?_ | refine blk_alloc ?_ _)); refine blk_far ?_ NB304_303.out _; (with_reducible repeat (first | refine blk_drewN ?_ _ | refine blk_drew ?_ | refine blk_alloc ?_ _)); exact BK304.out) Try.underlying71 rfl (by kernel_rfl)) rfl ?_
        exact ⟨_, _, by first | rfl | (simp [errW_none, errW_some] <;> rfl) | (simp [*, errW_none, errW_some] <;> rfl), by (with_reducible repeat (first | apply Kd.R_alloc | apply Kd.R_drewN | apply Kd.R_drew)); exact Kd.R_mono (Kd.R_far (p := ⟨gb304, 1, none⟩) (Kd.R_far (p := ⟨gb304, 0, none⟩) (Kd.R_far (p := ⟨gb303, 1, none⟩) (Kd.R_far (p := ⟨gb303, 0, none⟩) (Kd.R_types (Kd.R_types HO_316001.out BK303.out (by decide)) BK304.out (by decide)) (fun _ hk => hk.1.2) (.int .i64 t311)) (fun _ hk => hk.1.2) (.slice Ao29 t312.length co29)) (fun _ hk => hk.2) (.int .i64 t336)) (fun _ hk => hk.2) (.slice Ao81 t337.length co81)) (fun _ hk => ⟨hk.1.1.1, hk.1.1.2⟩), by (with_reducible repeat (first | apply Kd.R_alloc | apply Kd.R_drewN | apply Kd.R_drew)); exact Kd.R_mono (Kd.R_far (p := ⟨gb304, 1, none⟩) (Kd.R_far (p := ⟨gb304, 0, none⟩) (Kd.R_far (p := ⟨gb303, 1, none⟩) (Kd.R_far (p := ⟨gb303, 0, none⟩) (Kd.R_types (Kd.R_types HO339.out BK303.out (by decide)) BK304.out (by decide)) (fun _ hk => hk.1.2) (.int .i64 t311)) (fun _ hk => hk.1.2) (.slice Ao29 t312.length co29)) (fun _ hk => hk.2) (.int .i64 t336)) (fun _ hk => hk.2) (.slice Ao81 t337.length co81)) (fun _ hk => ⟨hk.1.1.1, hk.1.1.2⟩), by repeat (first | (with_reducible first | exact HB.out | apply below_alloc | apply pw_below_drewN | apply below_drew1 | refine below_set ?_ GE301.out | refine below_set ?_ GE302.out | refine below_set ?_ GE303.out | refine below_set ?_ GE304.out | refine below_set ?_ GE315.out) | exact HB.out), by repeat (first | (with_reducible first | exact HK.out | apply Kept.alloc | apply Kept.drewN | apply Kept.drew | refine Kept.setCell ?_ (.inr GW301.out) _ | refine Kept.setCell ?_ (.inr GW302.out) _ | refine Kept.setCell ?_ (.inr GW303.out) _ | refine Kept.setCell ?_ (.inr GW304.out) _ | refine Kept.setCell ?_ (.inr GW315.out) _) | exact HK.out)⟩

end Go.Proofs.Ytfangodjmppooaa.F
end

section
/- The reference's whole numbers, what the printed functions come to (Add, Sub, Mul, Long, Floor): plain; and Floor's contract of a number just made. -/
namespace Go.Proofs.Ytfangodjmppooaa.Whole
open Go Go.RowKit Go.Proofs.YtfangodjmppooaaW.PrintWords Go.Proofs.YtfangodjmppooaaW.PrintLast Go.Proofs.YtfangodjmppooaaW.PrintMore Go.Proofs.Ytfangodjmppooaa.F Go.Proofs.Ytfangodjmppooaa.Dig
set_option linter.unusedVariables false
theorem make1_p {s : Int} {n : Nat} : zelligeref04_make1.f s (dig n) = some (if n = 0 then 0 else s, dig n) := by
  unfold zelligeref04_make1.f
  by_cases h : n = 0
  · subst h; rw [dig_zero, if_pos (by simp), if_pos rfl]
  · have h1 : (dig n).length ≠ 0 := fun e => h (dig_nil.1 (List.length_eq_zero_iff.1 e))
    rw [if_neg (by omega), if_neg h]
theorem neg_p (n : Int) (l : List Int) : zelligeref04_Neg.f n.sign l = some ((-n).sign, l) := by
  unfold zelligeref04_Neg.f
  rw [Int.sign_neg, w64 (by rw [sign_eq]; omega) (by rw [sign_eq]; omega)]
theorem add_p (n m : Int) (hn : Sm n) (hm : Sm m) {k : Nat} (hk : 50000 ≤ k) : zelligeref04_Add.f k n.sign (dig n.natAbs) m.sign (dig m.natAbs) = some ((n + m).sign, dig (n + m).natAbs) := by
  unfold Sm at hn hm
  unfold zelligeref04_Add.f
  by_cases n0 : n = 0
  · subst n0; rw [Int.sign_zero, if_pos rfl, Int.zero_add]
  have s0 : n.sign ≠ 0 := fun e => n0 (Int.sign_eq_zero_iff_zero.1 e)
  by_cases m0 : m = 0
  · subst m0; rw [if_neg s0, Int.sign_zero, if_pos rfl, Int.add_zero]
  have t0 : m.sign ≠ 0 := fun e => m0 (Int.sign_eq_zero_iff_zero.1 e)
  rw [if_neg s0, if_neg t0]
  by_cases st : n.sign = m.sign
  · rw [if_pos st, add_f n.natAbs m.natAbs (by omega) (by omega) (by omega), Option.bind_some]
    rw [sign_eq, sign_eq] at st
    rw [show n.natAbs + m.natAbs = (n + m).natAbs by omega, show n.sign = (n + m).sign by rw [sign_eq, sign_eq]; omega]
  · rw [if_neg st, cmp_f n.natAbs m.natAbs (by omega) (by omega), Option.bind_some]
    rw [sign_eq, sign_eq] at st
    by_cases hlt : n.natAbs < m.natAbs
    · rw [if_pos hlt, if_neg (by decide), sub_f m.natAbs n.natAbs (by omega) (by omega) (by omega), Option.bind_some, make1_p, Option.bind_some]
      rw [show m.natAbs - n.natAbs = (n + m).natAbs by omega, if_neg (by omega), show m.sign = (n + m).sign by rw [sign_eq, sign_eq]; omega]
    · rw [if_neg hlt, if_pos (by split <;> decide), sub_f n.natAbs m.natAbs (by omega) (by omega) (by omega), Option.bind_some, make1_p, Option.bind_some]
      rw [show n.natAbs - m.natAbs = (n + m).natAbs by omega]
      by_cases he : n.natAbs = m.natAbs
      · rw [if_pos (by omega), show (n + m).sign = 0 by rw [sign_eq]; omega]
      · rw [if_neg (by omega), show n.sign = (n + m).sign by rw [sign_eq, sign_eq]; omega]
theorem sub_p (n m : Int) (hn : Sm n) (hm : Sm m) {k : Nat} (hk : 50000 ≤ k) : zelligeref04_Sub.f k n.sign (dig n.natAbs) m.sign (dig m.natAbs) = some ((n - m).sign, dig (n - m).natAbs) := by
  unfold zelligeref04_Sub.f
  have hm' : Sm (-m) := by unfold Sm; rw [Int.natAbs_neg]; exact hm
  have := add_p n (-m) hn hm' hk
  rw [Int.natAbs_neg, ← Int.sub_eq_add_neg] at this
  rw [neg_p, Option.bind_some, this, Option.bind_some]
theorem mul_p (n m : Int) (hn : Sm n) (hm : Sm m) {k : Nat} (hk : 20000001 ≤ k) : zelligeref04_Mul.f k n.sign (dig n.natAbs) m.sign (dig m.natAbs) = some ((n * m).sign, dig (n * m).natAbs) := by
  unfold Sm at hn hm
  have hs : wrap64 (n.sign * m.sign) = (n * m).sign := by
    rw [Int.sign_mul]
    have h1 : -1 ≤ n.sign ∧ n.sign ≤ 1 := by rw [sign_eq]; omega
    have h2 : -1 ≤ m.sign ∧ m.sign ≤ 1 := by rw [sign_eq]; omega
    have h3 : n.sign = -1 ∨ n.sign = 0 ∨ n.sign = 1 := by omega
    rcases h3 with h3 | h3 | h3 <;> rw [h3] <;> exact w64 (by omega) (by omega)
  unfold zelligeref04_Mul.f
  rw [mul_f n.natAbs m.natAbs (by omega) (by omega) (by omega), Option.bind_some, hs, make1_p, Option.bind_some, Int.natAbs_mul]
  by_cases h0 : n.natAbs * m.natAbs = 0
  · have hz : n * m = 0 := Int.natAbs_eq_zero.1 (by rw [Int.natAbs_mul]; exact h0)
    rw [if_pos h0, hz]; rfl
  · rw [if_neg h0]
theorem wrap_u {x : Int} : IntKind.u64.wrap x = x % 18446744073709551616 := by rw [IntKind.wrap_u64]
theorem long_p (n : Int) (h : -9223372036854775808 ≤ n ∧ n ≤ 9223372036854775807) {k : Nat} (hk : 21 ≤ k) : zelligeref04_Long.f k n = some (n.sign, dig n.natAbs) := by
  unfold zelligeref04_Long.f
  by_cases h0 : n = 0
  · subst h0; rw [if_pos rfl, Int.natAbs_zero, dig_zero]; rfl
  · rw [if_neg h0]
    by_cases h1 : n < 0
    · have e : IntKind.u64.wrap (-IntKind.u64.wrap n) = -n := by rw [wrap_u, wrap_u]; omega
      rw [if_pos h1, e, of_two _ _ (by omega) (by omega) (by omega) (by omega) (by omega), Option.bind_some, Int.sign_eq_neg_one_of_neg h1, show (-n % 4294967296 + 4294967296 * (-n / 4294967296 % 4294967296)).toNat = n.natAbs by clear e; omega]
    · have e : IntKind.u64.wrap n = n := by rw [wrap_u]; omega
      rw [if_neg h1, e, of_two _ _ (by omega) (by omega) (by omega) (by omega) (by omega), Option.bind_some, Int.sign_eq_one_of_pos (by omega), show (n % 4294967296 + 4294967296 * (n / 4294967296 % 4294967296)).toNat = n.natAbs by clear e; omega]
theorem mul_small {a b : Int} {n : Int} (h : a * b = n) (h1 : -9223372036854775808 ≤ n ∧ n ≤ 9223372036854775807) : -9223372036854775808 ≤ a * b ∧ a * b ≤ 9223372036854775807 := by rw [h]; exact h1
theorem sgn_neg {p : Nat} (hp : 0 < p) (q : Nat) : (if q = 0 then 0 else (-(p : Int)).sign) = (-(q : Int)).sign := by
  rw [sign_eq, sign_eq]; split <;> omega
theorem sgn_pos {p q : Nat} (hp : q ≤ p) : (if q = 0 then 0 else ((p : Int)).sign) = ((q : Int)).sign := by
  rw [sign_eq, sign_eq]; split <;> omega
/-- Floor: the quotient below, and the rest. -/
theorem floor_p (n m : Int) (hm : 1 ≤ m ∧ m ≤ 1099511627776) (hn : -1099511627776 ≤ n ∧ n ≤ 1099511627776) : zelligeref04_Floor.f 30000000 n.sign (dig n.natAbs) m.sign (dig m.natAbs) = some ((n / m).sign, dig (n / m).natAbs, (n % m).sign, dig (n % m).natAbs) := by
  have sn : Sm n := Sm.of (by omega) (by omega)
  have sm : Sm m := Sm.of (by omega) (by omega)
  have ln : (dig n.natAbs).length ≤ 3000 := by have := sn; unfold Sm at this; omega
  have lm : (dig m.natAbs).length ≤ 3000 := by have := sm; unfold Sm at this; omega
  have e0 := Int.mul_ediv_add_emod n m
  have e1 := Int.emod_nonneg n (show m ≠ 0 by omega)
  have e2 := Int.emod_lt_of_pos n (show 0 < m by omega)
  have q1 : -1099511627776 ≤ n / m ∧ n / m ≤ 1099511627776 := by
    constructor
    · exact Int.le_ediv_of_mul_le (by omega) (by omega)
    · rcases Int.lt_or_le n 0 with h | h
      · have := Int.ediv_neg_of_neg_of_pos h (show 0 < m by omega); omega
      · have := Int.ediv_le_self m h; omega
  have hrest : n - n / m * m = n % m := by rw [Int.mul_comm]; omega
  have sq : Sm (n / m) := Sm.of (by omega) (by omega)
  have sqm : Sm (n / m * m) := Sm.of (by omega) (by omega)
  have ms : m.sign = 1 := Int.sign_eq_one_of_pos (by omega)
  have hw : wrap64 (n.sign * m.sign) = n.sign := by rw [ms, Int.mul_one]; exact w64 (by rw [sign_eq]; omega) (by rw [sign_eq]; omega)
  have tail : ∀ q : Int, q = n / m → ((zelligeref04_Mul.f 29999999 q.sign (dig q.natAbs) m.sign (dig m.natAbs)).bind fun bt345 => ((zelligeref04_Sub.f 29999999 n.sign (dig n.natAbs) bt345.1 bt345.2).bind fun bt349 => (some (q.sign, dig q.natAbs, bt349.1, bt349.2)))) =
      some ((n / m).sign, dig (n / m).natAbs, (n % m).sign, dig (n % m).natAbs) := by
    rintro q rfl
    rw [mul_p _ _ sq sm (by omega), Option.bind_some, sub_p _ _ sn sqm (by omega), Option.bind_some, hrest]
  unfold zelligeref04_Floor.f
  rw [divmod_f n.natAbs m.natAbs (by omega) ln lm (by omega), Option.bind_some, hw, make1_p, Option.bind_some]
  by_cases h1 : n < 0
  · have ns : n.sign = -1 := Int.sign_eq_neg_one_of_neg h1
    obtain ⟨p, rfl⟩ : ∃ p : Nat, n = -(p : Int) := ⟨n.natAbs, by omega⟩
    obtain ⟨c, rfl⟩ : ∃ c : Nat, m = (c : Int) := ⟨m.toNat, by omega⟩
    rw [if_pos (by rw [ns]; decide), Int.natAbs_neg, Int.natAbs_natCast, Int.natAbs_natCast]
    rw [Int.natAbs_neg, Int.natAbs_natCast, Int.natAbs_natCast] at tail
    have d0 := Nat.div_add_mod p c
    have d1 := Nat.mod_lt p (show 0 < c by omega)
    have d0' : (c : Int) * ((p / c : Nat) : Int) + ((p % c : Nat) : Int) = (p : Int) := by rw [← Int.natCast_mul, ← Int.natCast_add, d0]
    by_cases h2 : p % c = 0
    · have hq : -(p : Int) / (c : Int) = -((p / c : Nat) : Int) := by
        apply Int.ediv_eq_of_eq_mul_left (by omega)
        rw [Int.neg_mul, Int.mul_comm]; omega
      have hs : (if p / c = 0 then 0 else (-(p : Int)).sign) = (-((p / c : Nat) : Int)).sign := sgn_neg (by omega) _
      rw [h2, dig_zero, show (decide ((([] : List Int).length : Int) > 0)) = false from rfl, zelligeref04_Floor.j0, if_neg (by decide), hs]
      have t := tail (-((p / c : Nat) : Int)) hq.symm
      rw [Int.natAbs_neg, Int.natAbs_natCast] at t
      exact t
    · have hl : (dig (p % c)).length ≠ 0 := fun e => h2 (dig_nil.1 (List.length_eq_zero_iff.1 e))
      have hq : -(p : Int) / (c : Int) = -((p / c : Nat) : Int) - 1 := by
        have u1 : (c : Int) * (-((p / c : Nat) : Int) - 1) = -((c : Int) * ((p / c : Nat) : Int)) - c := by rw [Int.mul_sub, Int.mul_neg, Int.mul_one]
        have := Int.ediv_emod_unique (a := -(p : Int)) (b := (c : Int)) (r := (c : Int) - ((p % c : Nat) : Int)) (q := -((p / c : Nat) : Int) - 1) (by omega)
        exact (this.2 ⟨by omega, by omega, by omega⟩).1
      have hs : (if p / c = 0 then 0 else (-(p : Int)).sign) = (-((p / c : Nat) : Int)).sign := sgn_neg (by omega) _
      have b1 : ((p / c : Nat) : Int) ≤ p := by have := Nat.div_le_self p c; omega
      have hsub := sub_p (-((p / c : Nat) : Int)) 1 (Sm.of (by omega) (by omega)) (Sm.of (by omega) (by omega)) (k := 29999999) (by omega)
      rw [Int.natAbs_neg, Int.natAbs_natCast] at hsub
      rw [decide_eq_true (show ((dig (p % c)).length : Int) > 0 by omega), zelligeref04_Floor.j0, if_pos rfl, long_p 1 (by omega) (by omega), Option.bind_some, hs, hsub, Option.bind_some]
      exact tail _ hq.symm
  · obtain ⟨p, rfl⟩ : ∃ p : Nat, n = (p : Int) := ⟨n.toNat, by omega⟩
    obtain ⟨c, rfl⟩ : ∃ c : Nat, m = (c : Int) := ⟨m.toNat, by omega⟩
    have hs : (if p / c = 0 then 0 else ((p : Int)).sign) = (((p / c : Nat) : Int)).sign := sgn_pos (Nat.div_le_self p c)
    rw [if_neg (by rw [sign_eq]; omega), Int.natAbs_natCast, Int.natAbs_natCast, zelligeref04_Floor.j0, if_neg (by decide), hs]
    have t := tail ((p / c : Nat) : Int) (Int.natCast_ediv p c)
    rw [Int.natAbs_natCast, Int.natAbs_natCast, Int.natAbs_natCast] at t
    exact t
/-- A number that was made since: its digits' block is among those of P. -/
structure MI (w0 w : World) (P : Nat → Prop) (v : Value) (n : Int) : Prop where
  out : ∃ (u : Value), v = .agg #[.int .i64 n.sign, u] ∧ Kd.R (Kd.int .i64) 3 w w0.heap.size P u (dig n.natAbs)
theorem MI.ni {w0 w : World} {P : Nat → Prop} {v : Value} {n : Int} (h : MI w0 w P v n) : NI w v n := by
  obtain ⟨u, rfl, hR⟩ := h
  obtain ⟨A, c, rfl, hc, hC⟩ := (RV.of_R hR).form
  exact ⟨A, _, c, rfl, RV.of_R hR⟩
theorem MI.below {w0 w w' : World} {P : Nat → Prop} {v : Value} {n : Int} (h : MI w0 w P v n) (hb : Below w.heap.size w w') : MI w0 w' P v n := by
  obtain ⟨u, rfl, hR⟩ := h
  exact ⟨u, rfl, Kd.R_below hR hb⟩
theorem long_m (n : Int) (h : -9223372036854775808 ≤ n ∧ n ≤ 9223372036854775807) (w : World) :
    Calls Try.prog 32 #[.int .i64 n] w fun e w' => ∃ v, e = .returned v ∧ MI w w' (fun k => w.heap.size ≤ k ∧ k < w'.heap.size) v n ∧ Below w.heap.size w w' :=
  (zelligeref04_Long.calls 100 n _ _ w (long_p n h (by omega))).mono fun e w' ⟨v, he, hR, hb⟩ => ⟨_, he, ⟨v, rfl, Kd.R_mono (Kd.R_bound hR) (fun k hk => ⟨hk.2.1, hk.2.2.1⟩)⟩, hb⟩
/-- Floor of two numbers made one behind the other. -/
theorem floor_m (n m : Int) (hm : 1 ≤ m ∧ m ≤ 1099511627776) (hn : -1099511627776 ≤ n ∧ n ≤ 1099511627776) (w0 w1 w : World) (v u : Value) (hB : Below w0.heap.size w0 w1) (hB' : Below w1.heap.size w1 w) (h : MI w0 w1 (fun k => w0.heap.size ≤ k ∧ k < w1.heap.size) v n) (h' : MI w1 w (fun k => w1.heap.size ≤ k ∧ k < w.heap.size) u m) :
    Calls Try.prog 31 #[v, u] w fun e w' => ∃ r s, e = .returned (.tuple #[r, s]) ∧ NI w' r (n / m) ∧ NI w' s (n % m) ∧ Below w0.heap.size w0 w' := by
  obtain ⟨a, rfl, ha⟩ := h.below hB'
  obtain ⟨b, rfl, hb⟩ := h'
  obtain ⟨A, c, rfl, hc, hC⟩ := Kd.R_reads hb
  refine (zelligeref04_Floor.calls 30000000 n.sign (fun k => w0.heap.size ≤ k ∧ k < w1.heap.size) a (dig n.natAbs) m.sign A c (dig m.natAbs) _ _ _ _ w0 w (below_then hB hB.size hB') ha ?_ hc (floor_p n m hm hn)).mono ?_
  · intro W hK
    have hb2 := Kd.R_step hb (w1 := W) (fun k hk hlt => hK.2 k hlt (fun hk2 => by omega))
    exact (Kd.R_reads' hb2).2.2
  · rintro e w' ⟨v1, v3, he, h1, h3, hbel, _⟩
    have k1 := RV.of_R h1
    have k3 := RV.of_R h3
    obtain ⟨A1, c1, rfl, _, _⟩ := k1.form
    obtain ⟨A3, c3, rfl, _, _⟩ := k3.form
    exact ⟨_, _, he, ⟨A1, _, c1, rfl, k1⟩, ⟨A3, _, c3, rfl, k3⟩, hbel⟩
end Go.Proofs.Ytfangodjmppooaa.Whole
end

section
/- The reference's Can (which points can be), in the print's form. -/
namespace Go.Proofs.Ytfangodjmppooaa.Whole
open Go Go.RowKit Go.Proofs.YtfangodjmppooaaW.PrintWords Go.Proofs.YtfangodjmppooaaW.PrintLast Go.Proofs.YtfangodjmppooaaW.PrintMore Go.Proofs.Ytfangodjmppooaa.F Go.Proofs.Ytfangodjmppooaa.Dig
set_option linter.unusedVariables false
set_option maxHeartbeats 1000000 in
theorem can_no (a b : Int) (ha : (Lit.int .i64 a).wf = true) (ha' : Sm a) (hq : Aside0 (decide (-1099511627776 ≤ a ∧ a ≤ 1099511627776) = false)) (w : World) :
    Calls Try.prog 30 #[.agg #[.int .i64 a, .int .i64 b]] w fun e w' => e = .returned (.bool false) ∧ Below w.heap.size w w' := by
  have HA := Aside0.mk ha
  have HM := Aside0.mk ha'
  clear ha ha'
  go_enter Try.func30, Try.ntmps30
  go_wp2_with fail
  obtain ⟨n0, bw⟩ := one_new w (.cells #[.int .i64 a, .int .i64 b] 23)
  generalize (w.alloc (.cells #[.int .i64 a, .int .i64 b] 23)) = W at n0 bw ⊢
  have Hb := Aside0.mk bw
  have d0 : W.cell? ⟨w.heap.size, 0, none⟩ = some (.int .i64 a) := (blk_cell n0 0).trans rfl
  have d1 : W.cell? ⟨w.heap.size, 1, none⟩ = some (.int .i64 b) := (blk_cell n0 1).trans rfl
  clear n0 bw
  go_wp2_with (first | (go_at_call 32; refine (long_c _ HA.out _).mono ?_; rintro e w1 ⟨v, rfl, hN, hb⟩; have HN := Aside0.mk hN; clear hN; obtain ⟨s1, A1, l1, cc1, rfl⟩ := HN.out.shape; have d0 := pw_cell_below hb d0; have d1 := pw_cell_below hb d1; have Hb := Aside0.mk (bthen hb Hb.out); clear hb) | (go_at_call 38; refine (in_c _ a HM.out _ HN.out).mono ?_; rw [hq.out]; rintro e w1 ⟨rfl, hb⟩; have d0 := pw_cell_below hb d0; have d1 := pw_cell_below hb d1; have Hb := Aside0.mk (bthen hb Hb.out); clear hb))
  go_ret
  exact ⟨rfl, Hb.out⟩
set_option maxHeartbeats 1000000 in
theorem can_yes (a b : Int) (ha : (Lit.int .i64 a).wf = true) (ha' : Sm a) (hb' : (Lit.int .i64 b).wf = true) (hb2 : Sm b) (hq : Aside0 (decide (-1099511627776 ≤ a ∧ a ≤ 1099511627776) = true)) (r : Bool) (hr : Aside0 (decide (-1099511627776 ≤ b ∧ b ≤ 1099511627776) = r)) (w : World) :
    Calls Try.prog 30 #[.agg #[.int .i64 a, .int .i64 b]] w fun e w' => e = .returned (.bool r) ∧ Below w.heap.size w w' := by
  have HA := Aside0.mk ha
  have HM := Aside0.mk ha'
  have HA2 := Aside0.mk hb'
  have HM2 := Aside0.mk hb2
  clear ha ha' hb' hb2
  go_enter Try.func30, Try.ntmps30
  go_wp2_with fail
  obtain ⟨n0, bw⟩ := one_new w (.cells #[.int .i64 a, .int .i64 b] 23)
  generalize (w.alloc (.cells #[.int .i64 a, .int .i64 b] 23)) = W at n0 bw ⊢
  have Hb := Aside0.mk bw
  have d0 : W.cell? ⟨w.heap.size, 0, none⟩ = some (.int .i64 a) := (blk_cell n0 0).trans rfl
  have d1 : W.cell? ⟨w.heap.size, 1, none⟩ = some (.int .i64 b) := (blk_cell n0 1).trans rfl
  clear n0 bw
  go_wp2_with fail
  refine (long_c _ HA.out _).mono ?_
  rintro e w1 ⟨v, rfl, hN, hb⟩
  have HN := Aside0.mk hN; clear hN; obtain ⟨s1, A1, l1, cc1, rfl⟩ := HN.out.shape
  have d0 := pw_cell_below hb d0; have d1 := pw_cell_below hb d1; have Hb := Aside0.mk (bthen hb Hb.out); clear hb
  go_wp2_with fail
  refine (in_c _ a HM.out _ HN.out).mono ?_
  rw [hq.out]
  rintro e w2 ⟨rfl, hb⟩
  have d0 := pw_cell_below hb d0; have d1 := pw_cell_below hb d1; have Hb := Aside0.mk (bthen hb Hb.out); clear hb
  go_wp2_with fail
  refine (long_c _ HA2.out _).mono ?_
  rintro e w3 ⟨v, rfl, hN, hb⟩
  have HN := Aside0.mk hN; clear hN; obtain ⟨s2, A2, l2, cc2, rfl⟩ := HN.out.shape
  have d0 := pw_cell_below hb d0; have d1 := pw_cell_below hb d1; have Hb := Aside0.mk (bthen hb Hb.out); clear hb
  go_wp2_with fail
  refine (in_c _ b HM2.out _ HN.out).mono ?_
  rw [hr.out]
  rintro e w4 ⟨rfl, hb⟩
  have Hb := Aside0.mk (bthen hb Hb.out); clear hb
  go_wp2
  go_ret
  exact ⟨rfl, Hb.out⟩
theorem Sm.i64 {n : Int} (h : -9223372036854775808 ≤ n ∧ n ≤ 9223372036854775807) : Sm n := Sm.of (by omega) (by omega)
theorem wf_of {n : Int} (h : -9223372036854775808 ≤ n ∧ n ≤ 9223372036854775807) : (Lit.int .i64 n).wf = true := WalkArith.wf_i64 (by omega)
end Go.Proofs.Ytfangodjmppooaa.Whole
namespace Go.Proofs.Ytfangodjmppooaa.F
open Go Go.RowKit Go.Proofs.YtfangodjmppooaaW.PrintWords Go.Proofs.YtfangodjmppooaaW.PrintLast Go.Proofs.YtfangodjmppooaaW.PrintMore Go.Proofs.Ytfangodjmppooaa.Whole
/-- Numbers of 64 bits. -/
abbrev I64 (n : Int) : Prop := -9223372036854775808 ≤ n ∧ n ≤ 9223372036854775807
abbrev InC (n : Int) : Prop := -1099511627776 ≤ n ∧ n ≤ 1099511627776
def zelligeref06_Can.f (a0_0 : Int) (a0_1 : Int) : Option Bool := if I64 a0_0 ∧ I64 a0_1 then some (decide (InC a0_0 ∧ InC a0_1)) else none
theorem zelligeref06_Can.calls (a0_0 : Int) (a0_1 : Int) (r : Bool) (w : World) (h : zelligeref06_Can.f a0_0 a0_1 = some r) :
    Calls Try.prog 30 #[.agg #[.int .i64 a0_0, .int .i64 a0_1]] w fun e w' => e = .returned (.bool r) ∧ Below w.heap.size w w' := by
  unfold zelligeref06_Can.f at h
  by_cases hb : I64 a0_0 ∧ I64 a0_1
  · rw [if_pos hb] at h
    obtain rfl := Option.some.inj h
    by_cases h1 : InC a0_0
    · refine can_yes a0_0 a0_1 (wf_of hb.1) (Sm.i64 hb.1) (wf_of hb.2) (Sm.i64 hb.2) ⟨decide_eq_true h1⟩ _ ⟨?_⟩ w
      rw [decide_eq_decide]
      exact ⟨fun h => ⟨h1, h⟩, fun h => h.2⟩
    · rw [show decide (InC a0_0 ∧ InC a0_1) = false from decide_eq_false (fun h => h1 h.1)]
      exact can_no a0_0 a0_1 (wf_of hb.1) (Sm.i64 hb.1) ⟨decide_eq_false h1⟩ w
  · rw [if_neg hb] at h
    cases h
end Go.Proofs.Ytfangodjmppooaa.F
end

section
namespace Go.Proofs.Ytfangodjmppooaa.F
open Go.RowKit Go.Proofs.YtfangodjmppooaaW.PrintWords Go.Proofs.YtfangodjmppooaaW.PrintLast Go.Proofs.YtfangodjmppooaaW.PrintMore
attribute [local go_sem] max2_int min2_int max_two min_two max_three min_three max_four min_four   -- for this text's walks alone
set_option linter.unusedVariables false
set_option linter.unusedSimpArgs false

/-! ### zelligeref06_Torus: function 29 -/
def zelligeref06_Torus.f (a0 : Int) : Option (Bool) := if a0 ≥ 1 then (some (decide (a0 ≤ 1099511627776))) else (some false)
set_option maxHeartbeats 8000000 in
set_option maxRecDepth 100000 in
theorem zelligeref06_Torus.calls (a0 : Int) (r : Bool) (w : World) (h : zelligeref06_Torus.f a0 = some r) :
    Calls Try.prog 29 #[.int .i64 a0] w fun e w' => e = .returned (.bool r) ∧ Drawn0 w w' := by
  have H : (if a0 ≥ 1 then (some (decide (a0 ≤ 1099511627776))) else (some false)) = some r := h
  clear h
  by_cases c2 : a0 ≥ 1
  · rw [if_pos c2] at H
    have c2b0 : decide (1 ≤ a0) = true := decide_eq_true c2
    clear c2
    obtain rfl := Option.some.inj H
    go_enter Try.func29, Try.ntmps29
    go_wp2
    go_ret
    exact ⟨by first | rfl | (simp; done) | (simp [*]; done), by repeat (first | exact Drawn0.refl _ | apply Drawn0.step)⟩
  · rw [if_neg c2] at H
    have c2b0 : decide (1 ≤ a0) = false := decide_eq_false c2
    clear c2
    obtain rfl := Option.some.inj H
    go_enter Try.func29, Try.ntmps29
    go_wp2
    go_ret
    exact ⟨by first | rfl | (simp; done) | (simp [*]; done), by repeat (first | exact Drawn0.refl _ | apply Drawn0.step)⟩

end Go.Proofs.Ytfangodjmppooaa.F
end

section
/- The reference's Home (a point in the first square), in the print's form. -/
namespace Go.Proofs.Ytfangodjmppooaa.Whole
open Go Go.RowKit Go.Proofs.YtfangodjmppooaaW.PrintWords Go.Proofs.YtfangodjmppooaaW.PrintLast Go.Proofs.YtfangodjmppooaaW.PrintMore Go.Proofs.Ytfangodjmppooaa.F Go.Proofs.Ytfangodjmppooaa.Dig
set_option linter.unusedVariables false
theorem far_two {W : World} {b g t : Nat} {cs : Array Value} {u v : Value} (h : W.heap[b]? = some (.cells cs t (0, 0))) (hne : b ≠ g) : ((W.setCell ⟨g, 0, none⟩ u).setCell ⟨g, 1, none⟩ v).heap[b]? = some (.cells cs t (0, 0)) := blk_far (p := ⟨g, 1, none⟩) (blk_far (p := ⟨g, 0, none⟩) h (by simp only []; first | exact hne | exact hne.symm) _) (by simp only []; first | exact hne | exact hne.symm) _
theorem torus_is (s : Int) : zelligeref06_Torus.f s = some (decide (1 ≤ s ∧ s ≤ 1099511627776)) := by
  unfold zelligeref06_Torus.f
  by_cases h : s ≥ 1
  · rw [if_pos h]
    congr 1
    rw [decide_eq_decide]
    exact ⟨fun k => ⟨h, k⟩, fun k => k.2⟩
  · rw [if_neg h, decide_eq_false (fun k => h k.1)]
/-- A box that holds the number n. -/
structure BX (w wx : World) (v : Value) (n : Int) : Prop where
  out : ∃ (g : Nat) (s : Int) (A : Option Addr) (l c : Nat), v = .pointer (some ⟨g, 0, none⟩) ∧ w.heap.size + 1 + 1 < g ∧ wx.heap[g]? = some (.cells #[.int .i64 s, .slice A l c] 71 (0, 0)) ∧ NI wx (.agg #[.int .i64 s, .slice A l c]) n
theorem BX.below {w wx wy : World} {v : Value} {n : Int} (h : BX w wx v n) (hb : Below wx.heap.size wx wy) : BX w wy v n := by
  obtain ⟨g, s, A, l, c, rfl, h1, h2, h3⟩ := h
  exact ⟨g, s, A, l, c, rfl, h1, blk_below h2 hb, h3.below hb⟩
/-- What stands behind the test: the point, the results' places. -/
structure HS (w : World) (x y : Int) (wx : World) : Prop where
  p : wx.heap[w.heap.size]? = some (.cells #[.int .i64 x, .int .i64 y] 23 (0, 0))
  r : wx.heap[w.heap.size + 1]? = some (.cells #[.int .i64 0, .int .i64 0] 23 (0, 0))
  o : wx.heap[w.heap.size + 1 + 1]? = some (.cells #[.int .i64 0, .int .i64 0] 52 (0, 0))
  b : Below w.heap.size w wx
theorem HS.below {w wx wy : World} {x y : Int} (h : HS w x y wx) (hb : Below wx.heap.size wx wy) : HS w x y wy :=
  ⟨blk_below h.p hb, blk_below h.r hb, blk_below h.o hb, bthen hb h.b⟩
theorem HS.cells {w wx : World} {x y : Int} (h : HS w x y wx) : wx.cell? ⟨w.heap.size, 0, none⟩ = some (.int .i64 x) ∧ wx.cell? ⟨w.heap.size, 1, none⟩ = some (.int .i64 y) := ⟨(blk_cell h.p 0).trans rfl, (blk_cell h.p 1).trans rfl⟩
theorem HS.put {w wx : World} {x y : Int} (h : HS w x y wx) (a b c d : Value) :
    ((((wx.setCell ⟨w.heap.size + 1, 0, none⟩ a).setCell ⟨w.heap.size + 1, 1, none⟩ b).setCell ⟨w.heap.size + 1 + 1, 0, none⟩ c).setCell ⟨w.heap.size + 1 + 1, 1, none⟩ d).heap[w.heap.size + 1]? = some (.cells #[a, b] 23 (0, 0)) ∧
    ((((wx.setCell ⟨w.heap.size + 1, 0, none⟩ a).setCell ⟨w.heap.size + 1, 1, none⟩ b).setCell ⟨w.heap.size + 1 + 1, 0, none⟩ c).setCell ⟨w.heap.size + 1 + 1, 1, none⟩ d).heap[w.heap.size + 1 + 1]? = some (.cells #[c, d] 52 (0, 0)) ∧
    Below w.heap.size w ((((wx.setCell ⟨w.heap.size + 1, 0, none⟩ a).setCell ⟨w.heap.size + 1, 1, none⟩ b).setCell ⟨w.heap.size + 1 + 1, 0, none⟩ c).setCell ⟨w.heap.size + 1 + 1, 1, none⟩ d) := by
  refine ⟨?_, ?_, below_set2 (below_set2 h.b (by omega) _ _ _ _) (by omega) _ _ _ _⟩
  · refine far_two ?_ (by omega)
    exact blk_put (cs := #[a, .int .i64 0]) (blk_put (cs := #[.int .i64 0, .int .i64 0]) h.r 0 _ rfl) 1 _ rfl
  · refine blk_put (cs := #[c, .int .i64 0]) (blk_put (cs := #[.int .i64 0, .int .i64 0]) ?_ 0 _ rfl) 1 _ rfl
    exact far_two h.o (by omega)
theorem HS.rest {w wx : World} {x y : Int} (h : HS w x y wx) : (wx.cell? ⟨w.heap.size + 1, 0, none⟩ = some (.int .i64 0) ∧ wx.cell? ⟨w.heap.size + 1, 1, none⟩ = some (.int .i64 0) ∧ wx.cell? ⟨w.heap.size + 1 + 1, 0, none⟩ = some (.int .i64 0) ∧ wx.cell? ⟨w.heap.size + 1 + 1, 1, none⟩ = some (.int .i64 0)) ∧
    (wx.frozen? ⟨w.heap.size + 1, 0, none⟩ = false ∧ wx.frozen? ⟨w.heap.size + 1, 1, none⟩ = false ∧ wx.frozen? ⟨w.heap.size + 1 + 1, 0, none⟩ = false ∧ wx.frozen? ⟨w.heap.size + 1 + 1, 1, none⟩ = false) :=
  ⟨⟨(blk_cell h.r 0).trans rfl, (blk_cell h.r 1).trans rfl, (blk_cell h.o 0).trans rfl, (blk_cell h.o 1).trans rfl⟩, blk_frozen h.r 0, blk_frozen h.r 1, blk_frozen h.o 0, blk_frozen h.o 1⟩
theorem BX.two {w wx : World} {s t : Int} {A B : Option Addr} {l c m d : Nat} {n k : Int} (hz : w.heap.size + 1 + 1 < wx.heap.size) (h : NI wx (.agg #[.int .i64 s, .slice A l c]) n) (h' : NI wx (.agg #[.int .i64 t, .slice B m d]) k) :
    BX w ((wx.alloc (.cells #[.int .i64 s, .slice A l c] 71)).alloc (.cells #[.int .i64 t, .slice B m d] 71)) (.pointer (some ⟨wx.heap.size, 0, none⟩)) n ∧
    BX w ((wx.alloc (.cells #[.int .i64 s, .slice A l c] 71)).alloc (.cells #[.int .i64 t, .slice B m d] 71)) (.pointer (some ⟨wx.heap.size + 1, 0, none⟩)) k := by
  obtain ⟨n0, n1, bw, _⟩ := two_new wx (.cells #[.int .i64 s, .slice A l c] 71) (.cells #[.int .i64 t, .slice B m d] 71)
  exact ⟨⟨_, s, A, l, c, rfl, hz, n0, h.below bw⟩, ⟨_, t, B, m, d, rfl, by omega, n1, h'.below bw⟩⟩
theorem two_below (w : World) (o0 o1 : Obj) : Below w.heap.size w ((w.alloc o0).alloc o1) := (two_new w o0 o1).2.2.1
/-- A box, its place known. -/
structure BC (w wx : World) (g : Nat) (s : Int) (A : Option Addr) (l c : Nat) (n : Int) : Prop where
  z : w.heap.size + 1 + 1 < g
  h : wx.heap[g]? = some (.cells #[.int .i64 s, .slice A l c] 71 (0, 0))
  k : NI wx (.agg #[.int .i64 s, .slice A l c]) n
theorem BC.below {w wx wy : World} {g : Nat} {s : Int} {A : Option Addr} {l c : Nat} {n : Int} (h : BC w wx g s A l c n) (hb : Below wx.heap.size wx wy) : BC w wy g s A l c n := ⟨h.z, blk_below h.h hb, h.k.below hb⟩
theorem BC.cells {w wx : World} {g : Nat} {s : Int} {A : Option Addr} {l c : Nat} {n : Int} (h : BC w wx g s A l c n) : wx.cell? ⟨g, 0, none⟩ = some (.int .i64 s) ∧ wx.cell? ⟨g, 1, none⟩ = some (.slice A l c) := ⟨(blk_cell h.h 0).trans rfl, (blk_cell h.h 1).trans rfl⟩
structure H1 (w : World) (x y n m : Int) (a b : Value) (wx : World) : Prop where
  s : Aside0 (HS w x y wx)
  i : Aside0 (BX w wx a n)
  k : Aside0 (BX w wx b m)
structure H2 (w : World) (x y : Int) (g1 : Nat) (s1 : Int) (A1 : Option Addr) (l1 c1 : Nat) (n : Int) (g2 : Nat) (s2 : Int) (A2 : Option Addr) (l2 c2 : Nat) (m : Int) (n' m' : Int) (a b : Value) (wx : World) : Prop where
  s : Aside0 (HS w x y wx)
  u : Aside0 (BC w wx g1 s1 A1 l1 c1 n)
  v : Aside0 (BC w wx g2 s2 A2 l2 c2 m)
  i : Aside0 (BX w wx a n')
  k : Aside0 (BX w wx b m')
set_option maxHeartbeats 4000000 in
theorem home_walk (x y sd : Int) (Hx : Aside0 (I64 x)) (Hy : Aside0 (I64 y)) (Hsd : Aside0 (I64 sd)) (t c : Bool) (ht : Aside0 (zelligeref06_Torus.f sd = some t)) (hc : Aside0 (zelligeref06_Can.f x y = some c))
    (hl : Aside0 ((t && c) = true → (1 ≤ sd ∧ sd ≤ 1099511627776) ∧ (-1099511627776 ≤ x ∧ x ≤ 1099511627776) ∧ (-1099511627776 ≤ y ∧ y ≤ 1099511627776) ∧ I64 (x / sd) ∧ I64 (x % sd) ∧ I64 (y / sd) ∧ I64 (y % sd)))
    (v : Value) (hr : Aside0 ((if (t && c) = true then Value.tuple #[.agg #[.int .i64 (x % sd), .int .i64 (y % sd)], .agg #[.int .i64 (x / sd), .int .i64 (y / sd)], .bool true] else Value.tuple #[.agg #[.int .i64 0, .int .i64 0], .agg #[.int .i64 0, .int .i64 0], .bool false]) = v)) (w : World) :
    Calls Try.prog 20 #[.agg #[.int .i64 x, .int .i64 y], .int .i64 sd] w fun e w' => e = .returned v ∧ Below w.heap.size w w' := by
  go_enter Try.func20, Try.ntmps20
  go_wp2_with fail
  obtain ⟨n0, n1, n2, bw, nw⟩ := three_new w (.cells #[.int .i64 x, .int .i64 y] 23) (.cells #[.int .i64 0, .int .i64 0] 23) (.cells #[.int .i64 0, .int .i64 0] 52)
  generalize (((w.alloc (.cells #[.int .i64 x, .int .i64 y] 23)).alloc (.cells #[.int .i64 0, .int .i64 0] 23)).alloc (.cells #[.int .i64 0, .int .i64 0] 52)) = W at n0 n1 n2 bw nw ⊢
  have S := Aside0.mk (HS.mk n0 n1 n2 bw)
  clear n0 n1 n2 bw nw
  cases t
  · have hr := hr.out; subst hr
    obtain ⟨d0, d1⟩ := S.out.cells
    go_wp2_with (go_at_call 29; refine (zelligeref06_Torus.calls _ _ _ ht.out).mono ?_; rintro e v1 ⟨rfl, hb⟩; have hb := hb.below; have S := Aside0.mk (S.out.below hb); clear hb d0 d1; obtain ⟨d0, d1⟩ := S.out.cells; obtain ⟨⟨r0, r1, o0, o1⟩, rf0, rf1, of0, of1⟩ := S.out.rest)
    obtain ⟨h1, h2, h3⟩ := S.out.put (.int .i64 0) (.int .i64 0) (.int .i64 0) (.int .i64 0)
    refine bodyPost_ret (results_list (rs := [.cell 4 23, .cell 5 52, .tmp 6]) rfl (by simp) (.cell (w.heap.size + 1) 23 #[.int .i64 0, .int .i64 0] (0, 0) _ rfl h1 Try.underlying23 rfl (by kernel_rfl) (.cell (w.heap.size + 1 + 1) 52 #[.int .i64 0, .int .i64 0] (0, 0) _ rfl h2 Try.underlying52 rfl (by kernel_rfl) (.tmp .nil)))) rfl ?_
    exact ⟨rfl, h3⟩
  cases c
  · have hr := hr.out; subst hr
    obtain ⟨d0, d1⟩ := S.out.cells
    go_wp2_with (first | (go_at_call 29; refine (zelligeref06_Torus.calls _ _ _ ht.out).mono ?_; rintro e v1 ⟨rfl, hb⟩; have hb := hb.below; have S := Aside0.mk (S.out.below hb); clear hb d0 d1; obtain ⟨d0, d1⟩ := S.out.cells; obtain ⟨⟨r0, r1, o0, o1⟩, rf0, rf1, of0, of1⟩ := S.out.rest) | (go_at_call 30; refine (zelligeref06_Can.calls _ _ _ _ hc.out).mono ?_; rintro e v2 ⟨rfl, hb⟩; clear r0 r1 o0 o1 rf0 rf1 of0 of1; have S := Aside0.mk (S.out.below hb); clear hb d0 d1; obtain ⟨d0, d1⟩ := S.out.cells; obtain ⟨⟨r0, r1, o0, o1⟩, rf0, rf1, of0, of1⟩ := S.out.rest))
    obtain ⟨h1, h2, h3⟩ := S.out.put (.int .i64 0) (.int .i64 0) (.int .i64 0) (.int .i64 0)
    refine bodyPost_ret (results_list (rs := [.cell 4 23, .cell 5 52, .tmp 6]) rfl (by simp) (.cell (w.heap.size + 1) 23 #[.int .i64 0, .int .i64 0] (0, 0) _ rfl h1 Try.underlying23 rfl (by kernel_rfl) (.cell (w.heap.size + 1 + 1) 52 #[.int .i64 0, .int .i64 0] (0, 0) _ rfl h2 Try.underlying52 rfl (by kernel_rfl) (.tmp .nil)))) rfl ?_
    exact ⟨rfl, h3⟩
  have hl := hl.out rfl; have hr := hr.out; subst hr
  obtain ⟨l1, l2, l3, l4, l5, l6, l7⟩ := hl
  have L1 := Aside0.mk l1; have L2 := Aside0.mk l2; have L3 := Aside0.mk l3; have L4 := Aside0.mk l4; have L5 := Aside0.mk l5; have L6 := Aside0.mk l6; have L7 := Aside0.mk l7; clear l1 l2 l3 l4 l5 l6 l7
  obtain ⟨d0, d1⟩ := S.out.cells
  go_upto_region 3 with (first | (go_at_call 29; refine (zelligeref06_Torus.calls _ _ _ ht.out).mono ?_; rintro e v1 ⟨rfl, hb⟩; have hb := hb.below; have S := Aside0.mk (S.out.below hb); clear hb d0 d1; obtain ⟨d0, d1⟩ := S.out.cells; obtain ⟨⟨r0, r1, o0, o1⟩, rf0, rf1, of0, of1⟩ := S.out.rest) | (go_at_call 30; refine (zelligeref06_Can.calls _ _ _ _ hc.out).mono ?_; rintro e v2 ⟨rfl, hb⟩; clear r0 r1 o0 o1 rf0 rf1 of0 of1; have S := Aside0.mk (S.out.below hb); clear hb d0 d1; obtain ⟨d0, d1⟩ := S.out.cells; obtain ⟨⟨r0, r1, o0, o1⟩, rf0, rf1, of0, of1⟩ := S.out.rest))
  clear r0 r1 o0 o1 rf0 rf1 of0 of1
  go_cut [7, 8] (fun a b wx => H1 w x y (x / sd) (x % sd) a b wx)
  case first =>
    go_wp2_with fail
    refine (long_m x Hx.out _).mono ?_
    have S0 := S
    rintro e w1 ⟨u1, rfl, m1, hb⟩
    have M1 := Aside0.mk m1; have B1 := Aside0.mk hb; have S := Aside0.mk (S.out.below hb); clear m1 hb d0 d1
    go_wp2_with fail
    refine (long_m sd Hsd.out _).mono ?_
    rintro e w2 ⟨u2, rfl, m2, hb⟩
    have M2 := Aside0.mk m2; have B2 := Aside0.mk hb; have S := Aside0.mk (S.out.below hb); clear m2 hb
    go_wp2_with fail
    refine (floor_m x sd L1.out L2.out _ _ _ _ _ B1.out B2.out M1.out M2.out).mono ?_
    rintro e w3 ⟨u3, u4, rfl, n3, n4, hb⟩
    obtain ⟨s3, A3, l3, c3, rfl⟩ := n3.shape
    obtain ⟨s4, A4, l4, c4, rfl⟩ := n4.shape
    have N3 := Aside0.mk n3; have N4 := Aside0.mk n4; clear n3 n4 S; have S := Aside0.mk (S0.out.below hb); clear S0 hb
    go_wp2_with fail
    go_meet
    obtain ⟨b1, b2⟩ := BX.two (w := w) (blk_lt S.out.o) N3.out N4.out
    exact ⟨⟨S.out.below (two_below _ _ _)⟩, ⟨b1⟩, ⟨b2⟩⟩
  case rest =>
  obtain ⟨S, P1, P2⟩ := hcut
  obtain ⟨g1, s1, A1, l1, c1, rfl, z1, h1, k1⟩ := P1.out
  obtain ⟨g2, s2, A2, l2, c2, rfl, z2, h2, k2⟩ := P2.out
  have I1 := Aside0.mk (BC.mk z1 h1 k1); have K1 := Aside0.mk (BC.mk z2 h2 k2)
  clear P1 P2 z1 z2 h1 h2 k1 k2
  clear d0 d1
  obtain ⟨d0, d1⟩ := S.out.cells
  go_upto_region 4 with fail
  go_cut [9, 10] (fun a b wx => H2 w x y g1 s1 A1 l1 c1 (x / sd) g2 s2 A2 l2 c2 (x % sd) (y / sd) (y % sd) a b wx)
  case first =>
    go_wp2_with fail
    refine (long_m y Hy.out _).mono ?_
    have S0 := S; have I0 := I1; have K0 := K1
    rintro e w1 ⟨u1, rfl, m1, hb⟩
    have M1 := Aside0.mk m1; have B1 := Aside0.mk hb; have S := Aside0.mk (S.out.below hb); clear m1 hb d0 d1
    go_wp2_with fail
    refine (long_m sd Hsd.out _).mono ?_
    rintro e w2 ⟨u2, rfl, m2, hb⟩
    have M2 := Aside0.mk m2; have B2 := Aside0.mk hb; clear m2 hb
    go_wp2_with fail
    refine (floor_m y sd L1.out L3.out _ _ _ _ _ B1.out B2.out M1.out M2.out).mono ?_
    rintro e w3 ⟨u3, u4, rfl, n3, n4, hb⟩
    obtain ⟨s3, A3, l3, c3, rfl⟩ := n3.shape
    obtain ⟨s4, A4, l4, c4, rfl⟩ := n4.shape
    have N3 := Aside0.mk n3; have N4 := Aside0.mk n4; clear n3 n4 S; have S := Aside0.mk (S0.out.below hb); have I := Aside0.mk (I0.out.below hb); have K := Aside0.mk (K0.out.below hb); clear S0 I0 K0 I1 K1 hb
    go_wp2_with fail
    go_meet
    obtain ⟨b1, b2⟩ := BX.two (w := w) (blk_lt S.out.o) N3.out N4.out
    exact ⟨⟨S.out.below (two_below _ _ _)⟩, ⟨I.out.below (two_below _ _ _)⟩, ⟨K.out.below (two_below _ _ _)⟩, ⟨b1⟩, ⟨b2⟩⟩
  case rest =>
  clear I1 K1
  obtain ⟨S, Q1, Q2, P3, P4⟩ := hcut
  obtain ⟨g3, s3, A3, l3, c3, rfl, z3, h3, k3⟩ := P3.out
  obtain ⟨g4, s4, A4, l4, c4, rfl, z4, h4, k4⟩ := P4.out
  have Q3 := Aside0.mk (BC.mk z3 h3 k3); have Q4 := Aside0.mk (BC.mk z4 h4 k4)
  clear P3 P4 z3 z4 h3 h4 k3 k4 d0 d1
  obtain ⟨e20, e21⟩ := Q2.out.cells
  go_wp2_with fail
  refine (small_c _ (x % sd) L5.out _ Q2.out.k).mono ?_
  rintro e w1 ⟨rfl, hb⟩
  have S := Aside0.mk (S.out.below hb); have Q1 := Aside0.mk (Q1.out.below hb); have Q3 := Aside0.mk (Q3.out.below hb); have Q4 := Aside0.mk (Q4.out.below hb); clear hb Q2 e20 e21
  obtain ⟨e40, e41⟩ := Q4.out.cells
  go_wp2_with fail
  refine (small_c _ (y % sd) L7.out _ Q4.out.k).mono ?_
  rintro e w2 ⟨rfl, hb⟩
  have S := Aside0.mk (S.out.below hb); have Q1 := Aside0.mk (Q1.out.below hb); have Q3 := Aside0.mk (Q3.out.below hb); clear hb Q4 e40 e41
  obtain ⟨e10, e11⟩ := Q1.out.cells
  go_wp2_with fail
  refine (small_c _ (x / sd) L4.out _ Q1.out.k).mono ?_
  rintro e w3 ⟨rfl, hb⟩
  have S := Aside0.mk (S.out.below hb); have Q3 := Aside0.mk (Q3.out.below hb); clear hb Q1 e10 e11
  obtain ⟨e30, e31⟩ := Q3.out.cells
  go_wp2_with fail
  refine (small_c _ (y / sd) L6.out _ Q3.out.k).mono ?_
  rintro e w4 ⟨rfl, hb⟩
  have S := Aside0.mk (S.out.below hb); clear hb Q3 e30 e31
  obtain ⟨⟨r0, r1, o0, o1⟩, rf0, rf1, of0, of1⟩ := S.out.rest
  go_wp2
  obtain ⟨h1, h2, h3⟩ := S.out.put (.int .i64 (x % sd)) (.int .i64 (y % sd)) (.int .i64 (x / sd)) (.int .i64 (y / sd))
  refine bodyPost_ret (results_list (rs := [.cell 4 23, .cell 5 52, .tmp 6]) rfl (by simp) (.cell (w.heap.size + 1) 23 #[.int .i64 (x % sd), .int .i64 (y % sd)] (0, 0) _ rfl h1 Try.underlying23 rfl (by kernel_rfl) (.cell (w.heap.size + 1 + 1) 52 #[.int .i64 (x / sd), .int .i64 (y / sd)] (0, 0) _ rfl h2 Try.underlying52 rfl (by kernel_rfl) (.tmp .nil)))) rfl ?_
  exact ⟨rfl, h3⟩
end Go.Proofs.Ytfangodjmppooaa.Whole
namespace Go.Proofs.Ytfangodjmppooaa.F
open Go Go.RowKit Go.Proofs.YtfangodjmppooaaW.PrintWords Go.Proofs.YtfangodjmppooaaW.PrintLast Go.Proofs.YtfangodjmppooaaW.PrintMore Go.Proofs.Ytfangodjmppooaa.Whole
/-- What has a place in the first square: the side, the point. -/
abbrev HomeOk (x y s : Int) : Prop := (1 ≤ s ∧ s ≤ 1099511627776) ∧ (InC x ∧ InC y)
def zelligeref06_Home.f (a0_0 : Int) (a0_1 : Int) (a1 : Int) : Option (Int × Int × Int × Int × Bool) :=
  if I64 a0_0 ∧ I64 a0_1 ∧ I64 a1 then some (if HomeOk a0_0 a0_1 a1 then (a0_0 % a1, a0_1 % a1, a0_0 / a1, a0_1 / a1, true) else (0, 0, 0, 0, false)) else none
theorem divs {n m : Int} (hm : 1 ≤ m ∧ m ≤ 1099511627776) (hn : InC n) : (-1099511627776 ≤ n / m ∧ n / m ≤ 1099511627776) ∧ 0 ≤ n % m ∧ n % m < m := by
  refine ⟨⟨Int.le_ediv_of_mul_le (by omega) (by omega), ?_⟩, Int.emod_nonneg n (by omega), Int.emod_lt_of_pos n (by omega)⟩
  rcases Int.lt_or_le n 0 with h | h
  · have := Int.ediv_neg_of_neg_of_pos h (show 0 < m by omega); omega
  · have := Int.ediv_le_self m h; omega
theorem zelligeref06_Home.calls (a0_0 : Int) (a0_1 : Int) (a1 : Int) (r1 r2 r3 r4 : Int) (r5 : Bool) (w : World) (h : zelligeref06_Home.f a0_0 a0_1 a1 = some (r1, r2, r3, r4, r5)) :
    Calls Try.prog 20 #[.agg #[.int .i64 a0_0, .int .i64 a0_1], .int .i64 a1] w fun e w' => e = .returned (.tuple #[.agg #[.int .i64 r1, .int .i64 r2], .agg #[.int .i64 r3, .int .i64 r4], .bool r5]) ∧ Below w.heap.size w w' := by
  unfold zelligeref06_Home.f at h
  by_cases hb : I64 a0_0 ∧ I64 a0_1 ∧ I64 a1
  · rw [if_pos hb] at h
    have h := Option.some.inj h
    obtain ⟨b1, b2, b3⟩ := hb
    have hcan : zelligeref06_Can.f a0_0 a0_1 = some (decide (InC a0_0 ∧ InC a0_1)) := if_pos ⟨b1, b2⟩
    refine home_walk a0_0 a0_1 a1 ⟨b1⟩ ⟨b2⟩ ⟨b3⟩ _ _ ⟨torus_is a1⟩ ⟨hcan⟩ ⟨?_⟩ _ ⟨?_⟩ w
    · intro hk
      simp only [Bool.and_eq_true, decide_eq_true_eq] at hk
      obtain ⟨h1, h2, h3⟩ := hk
      have d1 := divs h1 h2
      have d2 := divs h1 h3
      exact ⟨h1, h2, h3, ⟨by omega, by omega⟩, ⟨by omega, by omega⟩, ⟨by omega, by omega⟩, ⟨by omega, by omega⟩⟩
    · by_cases ok : HomeOk a0_0 a0_1 a1
      · rw [if_pos ok] at h
        injection h with h1 h
        injection h with h2 h
        injection h with h3 h
        injection h with h4 h5
        subst h1 h2 h3 h4 h5
        rw [if_pos]
        rw [decide_eq_true ok.1, decide_eq_true ok.2]
        rfl
      · rw [if_neg ok] at h
        injection h with h1 h
        injection h with h2 h
        injection h with h3 h
        injection h with h4 h5
        subst h1 h2 h3 h4 h5
        rw [if_neg]
        intro hk
        simp only [Bool.and_eq_true, decide_eq_true_eq] at hk
        exact ok ⟨hk.1, hk.2⟩
  · rw [if_neg hb] at h
    cases h
end Go.Proofs.Ytfangodjmppooaa.F
end

section
namespace Go.Proofs.Ytfangodjmppooaa.F
open Go.RowKit Go.Proofs.YtfangodjmppooaaW.PrintWords Go.Proofs.YtfangodjmppooaaW.PrintLast Go.Proofs.YtfangodjmppooaaW.PrintMore
attribute [local go_sem] max2_int min2_int max_two min_two max_three min_three max_four min_four   -- for this text's walks alone
set_option linter.unusedVariables false
set_option linter.unusedSimpArgs false

/-! ### zelligeref15_Cell: function 10 -/
mutual
def zelligeref15_Cell.l0 : Nat → Int → Int → Int → Int → Int → Int → Option (Int × Int)
  | 0, _, _, _, _, _, _ => none
  | k + 1, x1, x2, x11, x12, x357000, x357001 => if (wrap64 ((wrap64 (x11 + 1)) * x1)) ≤ (wrap64 (x357000 * x2)) then (zelligeref15_Cell.l0 k x1 x2 (wrap64 (x11 + 1)) x12 x357000 x357001) else (zelligeref15_Cell.l1 k x1 x2 x11 x12 x357000 x357001)
def zelligeref15_Cell.l1 : Nat → Int → Int → Int → Int → Int → Int → Option (Int × Int)
  | 0, _, _, _, _, _, _ => none
  | k + 1, x1, x2, x11, x12, x357000, x357001 => if (wrap64 ((wrap64 (x12 + 1)) * x1)) ≤ (wrap64 (x357001 * x2)) then (zelligeref15_Cell.l1 k x1 x2 x11 (wrap64 (x12 + 1)) x357000 x357001) else (some (x11, x12))
end
def zelligeref15_Cell.f (k : Nat) (a0_0 : Int) (a0_1 : Int) (a1 : Int) (a2 : Int) : Option (Int × Int) := (zelligeref06_Home.f a0_0 a0_1 a1).bind fun bt351 => (if bt351.2.2.2.2 = true then (zelligeref15_Cell.l0 k a1 a2 0 0 bt351.1 bt351.2.1) else (some ((-1), (-1))))
theorem zelligeref15_Cell.mono_l : ∀ k, (∀ y0 y1 y2 y3 y4 y5, LeO (zelligeref15_Cell.l0 k y0 y1 y2 y3 y4 y5) (zelligeref15_Cell.l0 (k + 1) y0 y1 y2 y3 y4 y5)) ∧ (∀ y0 y1 y2 y3 y4 y5, LeO (zelligeref15_Cell.l1 k y0 y1 y2 y3 y4 y5) (zelligeref15_Cell.l1 (k + 1) y0 y1 y2 y3 y4 y5))
  | 0 => ⟨fun _ _ _ _ _ _ r h => by simp [zelligeref15_Cell.l0] at h, fun _ _ _ _ _ _ r h => by simp [zelligeref15_Cell.l1] at h⟩
  | k + 1 => by
    obtain ⟨ih0, ih1⟩ := zelligeref15_Cell.mono_l k
    refine ⟨?_, ?_⟩
    · intro y0 y1 y2 y3 y4 y5
      unfold zelligeref15_Cell.l0
      repeat' first
      | (with_reducible exact ih0 _ _ _ _ _ _)
      | (with_reducible exact ih1 _ _ _ _ _ _)
      | (with_reducible exact LeO.refl _)
      | (with_reducible exact LeO.none _)
      | (with_reducible refine LeO.ite ?_ ?_)
      | (with_reducible refine LeO.bind ?_ (fun _ => ?_))
      | exact ih0 _ _ _ _ _ _
      | exact ih1 _ _ _ _ _ _
      | exact LeO.none _
      | refine LeO.ite ?_ ?_
      | refine LeO.bind ?_ (fun _ => ?_)
    · intro y0 y1 y2 y3 y4 y5
      unfold zelligeref15_Cell.l1
      repeat' first
      | (with_reducible exact ih0 _ _ _ _ _ _)
      | (with_reducible exact ih1 _ _ _ _ _ _)
      | (with_reducible exact LeO.refl _)
      | (with_reducible exact LeO.none _)
      | (with_reducible refine LeO.ite ?_ ?_)
      | (with_reducible refine LeO.bind ?_ (fun _ => ?_))
      | exact ih0 _ _ _ _ _ _
      | exact ih1 _ _ _ _ _ _
      | exact LeO.none _
      | refine LeO.ite ?_ ?_
      | refine LeO.bind ?_ (fun _ => ?_)
theorem zelligeref15_Cell.mono : ∀ a0 a1 a2 a3 k, LeO (zelligeref15_Cell.f k a0 a1 a2 a3) (zelligeref15_Cell.f (k + 1) a0 a1 a2 a3) := by
  intro a0 a1 a2 a3 k
  obtain ⟨ih0, ih1⟩ := zelligeref15_Cell.mono_l k
  unfold zelligeref15_Cell.f
  repeat' first
      | (with_reducible exact ih0 _ _ _ _ _ _)
      | (with_reducible exact ih1 _ _ _ _ _ _)
      | (with_reducible exact LeO.refl _)
      | (with_reducible exact LeO.none _)
      | (with_reducible refine LeO.ite ?_ ?_)
      | (with_reducible refine LeO.bind ?_ (fun _ => ?_))
      | exact ih0 _ _ _ _ _ _
      | exact ih1 _ _ _ _ _ _
      | exact LeO.none _
      | refine LeO.ite ?_ ?_
      | refine LeO.bind ?_ (fun _ => ?_)
set_option maxHeartbeats 8000000 in
set_option maxRecDepth 100000 in
theorem zelligeref15_Cell.calls (k : Nat) (a0_0 : Int) (a0_1 : Int) (a1 : Int) (a2 : Int) (r1 : Int) (r2 : Int) (w : World) (h : zelligeref15_Cell.f k a0_0 a0_1 a1 a2 = some (r1, r2)) :
    Calls Try.prog 10 #[.agg #[.int .i64 a0_0, .int .i64 a0_1], .int .i64 a1, .int .i64 a2] w fun e w' => e = .returned (.tuple #[.int .i64 r1, .int .i64 r2]) ∧ Below w.heap.size w w' := by
  have hu23 := Try.underlying23
  have hu52 := Try.underlying52
  have HB := Aside0.mk (Below.refl w.heap.size w)
  have H : ((zelligeref06_Home.f a0_0 a0_1 a1).bind fun bt351 => (if bt351.2.2.2.2 = true then (zelligeref15_Cell.l0 k a1 a2 0 0 bt351.1 bt351.2.1) else (some ((-1), (-1))))) = some (r1, r2) := h
  clear h
  replace H := Option.bind_eq_some_iff.mp H
  obtain ⟨⟨t351, t352, t353, t354, t355⟩, A40, H⟩ := H
  replace H : (if t355 = true then (zelligeref15_Cell.l0 k a1 a2 0 0 t351 t352) else (some ((-1), (-1)))) = some (r1, r2) := H
  have A4 := Aside0.mk A40
  clear A40
  by_cases c5 : t355 = true
  · subst c5
    have H1 : (zelligeref15_Cell.l0 k a1 a2 0 0 t351 t352) = some (r1, r2) := by rw [if_pos rfl] at H; exact H
    clear H
    have H := H1
    clear H1
    have H' := Aside0.mk H
    clear H
    go_enter Try.func10, Try.ntmps10
    go_wp2_with (first | ((with_reducible refine gate_dst (N := 3) rfl ?_); refine box_event ?hg (N := 3) ?hd (cs := #[.int .i64 a0_0, .int .i64 a0_1]) (t := 23) ?hr ?_; (case hd => rfl); (case hg => rfl); (case hr => first | (go_simp; done) | (go_simp; rfl)); intro gb350 hg w6 hbox hb; have n0_ := Aside0.mk (below_step (by repeat (first | (with_reducible first | exact HB.out | apply below_alloc | apply pw_below_drewN | apply below_drew1) | exact HB.out)) hb); have n1_ := Aside0.mk (hbox); have n2_ := Aside0.mk ((by rw [hg]; exact (below_size (by repeat (first | (with_reducible first | exact HB.out | apply below_alloc | apply pw_below_drewN | apply below_drew1) | exact HB.out))) : w.heap.size ≤ gb350)); have n3_ := Aside0.mk ((by rw [hg]; exact (below_size (by repeat (first | (with_reducible first | exact HB.out | apply below_alloc | apply pw_below_drewN | apply below_drew1) | exact HB.out))) : w.heap.size ≤ gb350)); clear HB; have HB := n0_; have BK350 := n1_; have GW350 := n2_; have GE350 := n3_; clear n0_ n1_ n2_ n3_; clear hb hbox hg; have hcz7_0 : w6.cell? ⟨gb350, 0, none⟩ = some (.int .i64 a0_0) := (blk_cell BK350.out 0).trans rfl; have hcz7_1 : w6.cell? ⟨gb350, 1, none⟩ = some (.int .i64 a0_1) := (blk_cell BK350.out 1).trans rfl; have hfz7_0 := blk_frozen BK350.out 0; have hfz7_1 := blk_frozen BK350.out 1) | ((with_reducible refine gate_callee (f := 20) rfl ?_); refine goesL_ (some 16) rfl rfl Try.func20 (by kernel_rfl) rfl #[.agg #[.int .i64 a0_0, .int .i64 a0_1], .int .i64 a1] rfl (by (try simp only [List.map_toArray, List.map_cons, List.map_nil]); first | done | rfl | (simp only [List.length_drop, List.length_take]; rfl)) ?_; (with_reducible refine (zelligeref06_Home.calls a0_0 a0_1 a1 t351 t352 t353 t354 true _ A4.out).mono ?_); rintro e w8 ⟨rfl, hb⟩; refine ⟨_, rfl, ?_⟩; have n0_ := Aside0.mk (blk_below (g := gb350) (o := .cells #[.int .i64 a0_0, .int .i64 a0_1] 23 (0, 0)) (by (with_reducible repeat (first | refine blk_drewN ?_ _ | refine blk_drew ?_ | refine blk_alloc ?_ _)); exact BK350.out) hb); have n1_ := Aside0.mk (below_step (by repeat (first | (with_reducible first | exact HB.out | apply below_alloc | apply pw_below_drewN | apply below_drew1 | refine below_set ?_ GE350.out) | exact HB.out)) hb); clear BK350; clear HB; have BK350 := n0_; have HB := n1_; clear n0_ n1_; (try clear hb); (try clear hb2); (try clear hk); (try clear hi)) | ((with_reducible refine gate_dst (N := 8) rfl ?_); refine box_event ?hg (N := 8) ?hd (cs := #[.int .i64 0, .int .i64 0]) (t := 23) ?hr ?_; (case hd => rfl); (case hg => rfl); (case hr => first | (go_simp; done) | (go_simp; rfl)); intro gb356 hg w9 hbox hb; have n0_ := Aside0.mk (blk_below (g := gb350) (o := .cells #[.int .i64 a0_0, .int .i64 a0_1] 23 (0, 0)) (by (with_reducible repeat (first | refine blk_drewN ?_ _ | refine blk_drew ?_ | refine blk_alloc ?_ _)); exact BK350.out) hb); have n1_ := Aside0.mk (below_step (by repeat (first | (with_reducible first | exact HB.out | apply below_alloc | apply pw_below_drewN | apply below_drew1 | refine below_set ?_ GE350.out) | exact HB.out)) hb); have n2_ := Aside0.mk (hbox); have n3_ := Aside0.mk ((by rw [hg]; exact (below_size (by repeat (first | (with_reducible first | exact HB.out | apply below_alloc | apply pw_below_drewN | apply below_drew1 | refine below_set ?_ GE350.out) | exact HB.out))) : w.heap.size ≤ gb356)); have n4_ := Aside0.mk ((by rw [hg]; exact (below_size (by repeat (first | (with_reducible first | exact HB.out | apply below_alloc | apply pw_below_drewN | apply below_drew1 | refine below_set ?_ GE350.out) | exact HB.out))) : w.heap.size ≤ gb356)); have n5_ := Aside0.mk ((by rw [hg]; exact Nat.ne_of_lt (blk_lt (g := gb350) (o := .cells #[.int .i64 a0_0, .int .i64 a0_1] 23 (0, 0)) (by (with_reducible repeat (first | refine blk_drewN ?_ _ | refine blk_drew ?_ | refine blk_alloc ?_ _)); exact BK350.out)) : gb350 ≠ gb356)); have n6_ := Aside0.mk ((by rw [hg]; exact Nat.ne_of_gt (blk_lt (g := gb350) (o := .cells #[.int .i64 a0_0, .int .i64 a0_1] 23 (0, 0)) (by (with_reducible repeat (first | refine blk_drewN ?_ _ | refine blk_drew ?_ | refine blk_alloc ?_ _)); exact BK350.out)) : gb356 ≠ gb350)); clear BK350; clear HB; have BK350 := n0_; have HB := n1_; have BK356 := n2_; have GW356 := n3_; have GE356 := n4_; have NB350_356 := n5_; have NB356_350 := n6_; clear n0_ n1_ n2_ n3_ n4_ n5_ n6_; clear hb hbox hg) | ((with_reducible refine gate_dst (N := 9) rfl ?_); refine box_event ?hg (N := 9) ?hd (cs := #[.int .i64 0, .int .i64 0]) (t := 52) ?hr ?_; (case hd => rfl); (case hg => rfl); (case hr => first | (go_simp; done) | (go_simp; rfl)); intro gb357 hg w10 hbox hb; have n0_ := Aside0.mk (blk_below (g := gb350) (o := .cells #[.int .i64 a0_0, .int .i64 a0_1] 23 (0, 0)) (by (with_reducible repeat (first | refine blk_drewN ?_ _ | refine blk_drew ?_ | refine blk_alloc ?_ _)); exact BK350.out) hb); have n1_ := Aside0.mk (blk_below (g := gb356) (o := .cells #[.int .i64 0, .int .i64 0] 23 (0, 0)) (by (with_reducible repeat (first | refine blk_drewN ?_ _ | refine blk_drew ?_ | refine blk_alloc ?_ _)); exact BK356.out) hb); have n2_ := Aside0.mk (below_step (by repeat (first | (with_reducible first | exact HB.out | apply below_alloc | apply pw_below_drewN | apply below_drew1 | refine below_set ?_ GE350.out | refine below_set ?_ GE356.out) | exact HB.out)) hb); have n3_ := Aside0.mk (hbox); have n4_ := Aside0.mk ((by rw [hg]; exact (below_size (by repeat (first | (with_reducible first | exact HB.out | apply below_alloc | apply pw_below_drewN | apply below_drew1 | refine below_set ?_ GE350.out | refine below_set ?_ GE356.out) | exact HB.out))) : w.heap.size ≤ gb357)); have n5_ := Aside0.mk ((by rw [hg]; exact (below_size (by repeat (first | (with_reducible first | exact HB.out | apply below_alloc | apply pw_below_drewN | apply below_drew1 | refine below_set ?_ GE350.out | refine below_set ?_ GE356.out) | exact HB.out))) : w.heap.size ≤ gb357)); have n6_ := Aside0.mk ((by rw [hg]; exact Nat.ne_of_lt (blk_lt (g := gb350) (o := .cells #[.int .i64 a0_0, .int .i64 a0_1] 23 (0, 0)) (by (with_reducible repeat (first | refine blk_drewN ?_ _ | refine blk_drew ?_ | refine blk_alloc ?_ _)); exact BK350.out)) : gb350 ≠ gb357)); have n7_ := Aside0.mk ((by rw [hg]; exact Nat.ne_of_gt (blk_lt (g := gb350) (o := .cells #[.int .i64 a0_0, .int .i64 a0_1] 23 (0, 0)) (by (with_reducible repeat (first | refine blk_drewN ?_ _ | refine blk_drew ?_ | refine blk_alloc ?_ _)); exact BK350.out)) : gb357 ≠ gb350)); have n8_ := Aside0.mk ((by rw [hg]; exact Nat.ne_of_lt (blk_lt (g := gb356) (o := .cells #[.int .i64 0, .int .i64 0] 23 (0, 0)) (by (with_reducible repeat (first | refine blk_drewN ?_ _ | refine blk_drew ?_ | refine blk_alloc ?_ _)); exact BK356.out)) : gb356 ≠ gb357)); have n9_ := Aside0.mk ((by rw [hg]; exact Nat.ne_of_gt (blk_lt (g := gb356) (o := .cells #[.int .i64 0, .int .i64 0] 23 (0, 0)) (by (with_reducible repeat (first | refine blk_drewN ?_ _ | refine blk_drew ?_ | refine blk_alloc ?_ _)); exact BK356.out)) : gb357 ≠ gb356)); clear BK350; clear BK356; clear HB; have BK350 := n0_; have BK356 := n1_; have HB := n2_; have BK357 := n3_; have GW357 := n4_; have GE357 := n5_; have NB350_357 := n6_; have NB357_350 := n7_; have NB356_357 := n8_; have NB357_356 := n9_; clear n0_ n1_ n2_ n3_ n4_ n5_ n6_ n7_ n8_ n9_; clear hb hbox hg; have hnb11 := NB356_350.out; have hnc11 := NB350_356.out; have hnb12 := NB356_357.out; have hnc12 := NB357_356.out; have hcz13_0 : w10.cell? ⟨gb356, 0, none⟩ = some (.int .i64 0) := (blk_cell BK356.out 0).trans rfl; have hcz13_1 : w10.cell? ⟨gb356, 1, none⟩ = some (.int .i64 0) := (blk_cell BK356.out 1).trans rfl; have hfz13_0 := blk_frozen BK356.out 0; have hfz13_1 := blk_frozen BK356.out 1; have hnb14 := NB357_350.out; have hnc14 := NB350_357.out; have hcz15_0 : w10.cell? ⟨gb357, 0, none⟩ = some (.int .i64 0) := (blk_cell BK357.out 0).trans rfl; have hcz15_1 : w10.cell? ⟨gb357, 1, none⟩ = some (.int .i64 0) := (blk_cell BK357.out 1).trans rfl; have hfz15_0 := blk_frozen BK357.out 0; have hfz15_1 := blk_frozen BK357.out 1))
    go_loopg [11] k (fun kq v11 w' => ∃ (x11_1 : Int), v11 = .int .i64 x11_1 ∧ Aside0 (zelligeref15_Cell.l0 kq a1 a2 x11_1 0 t351 t352 = some (r1, r2)) ∧ Aside0 (kq ≤ k) ∧ Aside0 (w'.heap[gb350]? = some (.cells #[.int .i64 a0_0, .int .i64 a0_1] 23 (0, 0))) ∧ Aside0 (w'.heap[gb356]? = some (.cells #[.int .i64 t351, .int .i64 t352] 23 (0, 0))) ∧ Aside0 (w'.heap[gb357]? = some (.cells #[.int .i64 t353, .int .i64 t354] 52 (0, 0))) ∧ Aside0 (Below w.heap.size w w'))
    case atStart => exact ⟨(0), (by first | rfl | (simp; done) | (simp [*]; done)), H', ⟨Nat.le_refl _⟩, ⟨by (with_reducible repeat (first | refine blk_drewN ?_ _ | refine blk_drew ?_ | refine blk_alloc ?_ _)); refine blk_far ?_ NB350_357.out _; (with_reducible repeat (first | refine blk_drewN ?_ _ | refine blk_drew ?_ | refine blk_alloc ?_ _)); refine blk_far ?_ NB350_357.out _; (with_reducible repeat (first | refine blk_drewN ?_ _ | refine blk_drew ?_ | refine blk_alloc ?_ _)); refine blk_far ?_ NB350_356.out _; (with_reducible repeat (first | refine blk_drewN ?_ _ | refine blk_drew ?_ | refine blk_alloc ?_ _)); refine blk_far ?_ NB350_356.out _; (with_reducible repeat (first | refine blk_drewN ?_ _ | refine blk_drew ?_ | refine blk_alloc ?_ _)); exact BK350.out⟩, ⟨by (with_reducible repeat (first | refine blk_drewN ?_ _ | refine blk_drew ?_ | refine blk_alloc ?_ _)); refine blk_far ?_ NB356_357.out _; (with_reducible repeat (first | refine blk_drewN ?_ _ | refine blk_drew ?_ | refine blk_alloc ?_ _)); refine blk_far ?_ NB356_357.out _; (with_reducible repeat (first | refine blk_drewN ?_ _ | refine blk_drew ?_ | refine blk_alloc ?_ _)); refine blk_put (cs := #[.int .i64 t351, .int .i64 0]) ?_ 1 _ rfl; (with_reducible repeat (first | refine blk_drewN ?_ _ | refine blk_drew ?_ | refine blk_alloc ?_ _)); refine blk_put (cs := #[.int .i64 0, .int .i64 0]) ?_ 0 _ rfl; (with_reducible repeat (first | refine blk_drewN ?_ _ | refine blk_drew ?_ | refine blk_alloc ?_ _)); exact BK356.out⟩, ⟨by (with_reducible repeat (first | refine blk_drewN ?_ _ | refine blk_drew ?_ | refine blk_alloc ?_ _)); refine blk_put (cs := #[.int .i64 t353, .int .i64 0]) ?_ 1 _ rfl; (with_reducible repeat (first | refine blk_drewN ?_ _ | refine blk_drew ?_ | refine blk_alloc ?_ _)); refine blk_put (cs := #[.int .i64 0, .int .i64 0]) ?_ 0 _ rfl; (with_reducible repeat (first | refine blk_drewN ?_ _ | refine blk_drew ?_ | refine blk_alloc ?_ _)); refine blk_far ?_ NB357_356.out _; (with_reducible repeat (first | refine blk_drewN ?_ _ | refine blk_drew ?_ | refine blk_alloc ?_ _)); refine blk_far ?_ NB357_356.out _; (with_reducible repeat (first | refine blk_drewN ?_ _ | refine blk_drew ?_ | refine blk_alloc ?_ _)); exact BK357.out⟩, ⟨by repeat (first | (with_reducible first | exact HB.out | apply below_alloc | apply pw_below_drewN | apply below_drew1 | refine below_set ?_ GE350.out | refine below_set ?_ GE356.out | refine below_set ?_ GE357.out) | exact HB.out)⟩⟩
    case round =>
      clear H'
      try clear c1
      try clear c2
      try clear p2
      try clear c5
      try clear c10
      try clear c11
      try clear c12
      try clear c14
      try clear hcz13_0
      try clear hcz13_1
      try clear hcz15_0
      try clear hcz15_1
      try clear hcz7_0
      try clear hcz7_1
      try clear hfz13_0
      try clear hfz13_1
      try clear hfz15_0
      try clear hfz15_1
      try clear hfz7_0
      try clear hfz7_1
      obtain ⟨x11_1, rfl, HA, HK1, BK350, BK356, BK357, HB⟩ := hrel
      cases gk with
      | zero => exact absurd HA.out (by simp [zelligeref15_Cell.l0])
      | succ k1 =>
        have H := HA.out
        clear HA
        simp only [zelligeref15_Cell.l0] at H
        by_cases c16 : (wrap64 ((wrap64 (x11_1 + 1)) * a1)) ≤ (wrap64 (t351 * a2))
        · rw [if_pos c16] at H
          have c16b0 : decide ((wrap64 ((wrap64 (x11_1 + 1)) * a1)) ≤ (wrap64 (t351 * a2))) = true := decide_eq_true c16
          clear c16
          have H' := Aside0.mk H
          clear H
          have hnb17 := NB356_350.out
          have hnc17 := NB350_356.out
          have hnb18 := NB356_357.out
          have hnc18 := NB357_356.out
          have hcz19_0 : wr.cell? ⟨gb356, 0, none⟩ = some (.int .i64 t351) := (blk_cell BK356.out 0).trans rfl
          have hcz19_1 : wr.cell? ⟨gb356, 1, none⟩ = some (.int .i64 t352) := (blk_cell BK356.out 1).trans rfl
          have hfz19_0 := blk_frozen BK356.out 0
          have hfz19_1 := blk_frozen BK356.out 1
          go_wp2
          go_roundg k1
          case measure => have := HK1.out; omega
          case rel => exact ⟨(wrap64 (x11_1 + 1)), (by first | rfl | (simp; done) | (simp [*]; done)), H', ⟨by have := HK1.out; omega⟩, ⟨by (with_reducible repeat (first | refine blk_drewN ?_ _ | refine blk_drew ?_ | refine blk_alloc ?_ _)); exact BK350.out⟩, ⟨by (with_reducible repeat (first | refine blk_drewN ?_ _ | refine blk_drew ?_ | refine blk_alloc ?_ _)); exact BK356.out⟩, ⟨by (with_reducible repeat (first | refine blk_drewN ?_ _ | refine blk_drew ?_ | refine blk_alloc ?_ _)); exact BK357.out⟩, ⟨by repeat (first | (with_reducible first | exact HB.out | apply below_alloc | apply pw_below_drewN | apply below_drew1 | refine below_set ?_ GE350.out | refine below_set ?_ GE356.out | refine below_set ?_ GE357.out) | exact HB.out)⟩⟩
        · rw [if_neg c16] at H
          have c16b0 : decide ((wrap64 ((wrap64 (x11_1 + 1)) * a1)) ≤ (wrap64 (t351 * a2))) = false := decide_eq_false c16
          clear c16
          have H' := Aside0.mk H
          clear H
          have hnb20 := NB356_350.out
          have hnc20 := NB350_356.out
          have hnb21 := NB356_357.out
          have hnc21 := NB357_356.out
          have hcz22_0 : wr.cell? ⟨gb356, 0, none⟩ = some (.int .i64 t351) := (blk_cell BK356.out 0).trans rfl
          have hcz22_1 : wr.cell? ⟨gb356, 1, none⟩ = some (.int .i64 t352) := (blk_cell BK356.out 1).trans rfl
          have hfz22_0 := blk_frozen BK356.out 0
          have hfz22_1 := blk_frozen BK356.out 1
          go_wp2
          go_loopg [12] k1 (fun kq v12 w' => ∃ (x12_2 : Int), v12 = .int .i64 x12_2 ∧ Aside0 (zelligeref15_Cell.l1 kq a1 a2 x11_1 x12_2 t351 t352 = some (r1, r2)) ∧ Aside0 (kq ≤ k1) ∧ Aside0 (w'.heap[gb350]? = some (.cells #[.int .i64 a0_0, .int .i64 a0_1] 23 (0, 0))) ∧ Aside0 (w'.heap[gb356]? = some (.cells #[.int .i64 t351, .int .i64 t352] 23 (0, 0))) ∧ Aside0 (w'.heap[gb357]? = some (.cells #[.int .i64 t353, .int .i64 t354] 52 (0, 0))) ∧ Aside0 (Below w.heap.size w w'))
          case atStart => exact ⟨(0), (by first | rfl | (simp; done) | (simp [*]; done)), H', ⟨Nat.le_refl _⟩, ⟨by (with_reducible repeat (first | refine blk_drewN ?_ _ | refine blk_drew ?_ | refine blk_alloc ?_ _)); exact BK350.out⟩, ⟨by (with_reducible repeat (first | refine blk_drewN ?_ _ | refine blk_drew ?_ | refine blk_alloc ?_ _)); exact BK356.out⟩, ⟨by (with_reducible repeat (first | refine blk_drewN ?_ _ | refine blk_drew ?_ | refine blk_alloc ?_ _)); exact BK357.out⟩, ⟨by repeat (first | (with_reducible first | exact HB.out | apply below_alloc | apply pw_below_drewN | apply below_drew1 | refine below_set ?_ GE350.out | refine below_set ?_ GE356.out | refine below_set ?_ GE357.out) | exact HB.out)⟩⟩
          case round =>
            clear H'
            try clear c1
            try clear c2
            try clear p2
            try clear c5
            try clear p6
            try clear c10
            try clear c11
            try clear c12
            try clear c14
            try clear c16
            try clear c16b0
            try clear c17
            try clear c18
            try clear c20
            try clear c21
            try clear hcz13_0
            try clear hcz13_1
            try clear hcz15_0
            try clear hcz15_1
            try clear hcz19_0
            try clear hcz19_1
            try clear hcz22_0
            try clear hcz22_1
            try clear hcz7_0
            try clear hcz7_1
            try clear hfz13_0
            try clear hfz13_1
            try clear hfz15_0
            try clear hfz15_1
            try clear hfz19_0
            try clear hfz19_1
            try clear hfz22_0
            try clear hfz22_1
            try clear hfz7_0
            try clear hfz7_1
            try clear p2
            obtain ⟨x12_2, rfl, HA, HK2, BK350, BK356, BK357, HB⟩ := hrel
            cases gk with
            | zero => exact absurd HA.out (by simp [zelligeref15_Cell.l1])
            | succ k2 =>
              have H := HA.out
              clear HA
              simp only [zelligeref15_Cell.l1] at H
              by_cases c23 : (wrap64 ((wrap64 (x12_2 + 1)) * a1)) ≤ (wrap64 (t352 * a2))
              · rw [if_pos c23] at H
                have c23b0 : decide ((wrap64 ((wrap64 (x12_2 + 1)) * a1)) ≤ (wrap64 (t352 * a2))) = true := decide_eq_true c23
                clear c23
                have H' := Aside0.mk H
                clear H
                have hnb24 := NB356_350.out
                have hnc24 := NB350_356.out
                have hnb25 := NB356_357.out
                have hnc25 := NB357_356.out
                have hcz26_0 : wr.cell? ⟨gb356, 0, none⟩ = some (.int .i64 t351) := (blk_cell BK356.out 0).trans rfl
                have hcz26_1 : wr.cell? ⟨gb356, 1, none⟩ = some (.int .i64 t352) := (blk_cell BK356.out 1).trans rfl
                have hfz26_0 := blk_frozen BK356.out 0
                have hfz26_1 := blk_frozen BK356.out 1
                go_wp2
                go_roundg k2
                case measure => have := HK1.out; have := HK2.out; omega
                case rel => exact ⟨(wrap64 (x12_2 + 1)), (by first | rfl | (simp; done) | (simp [*]; done)), H', ⟨by have := HK1.out; have := HK2.out; omega⟩, ⟨by (with_reducible repeat (first | refine blk_drewN ?_ _ | refine blk_drew ?_ | refine blk_alloc ?_ _)); exact BK350.out⟩, ⟨by (with_reducible repeat (first | refine blk_drewN ?_ _ | refine blk_drew ?_ | refine blk_alloc ?_ _)); exact BK356.out⟩, ⟨by (with_reducible repeat (first | refine blk_drewN ?_ _ | refine blk_drew ?_ | refine blk_alloc ?_ _)); exact BK357.out⟩, ⟨by repeat (first | (with_reducible first | exact HB.out | apply below_alloc | apply pw_below_drewN | apply below_drew1 | refine below_set ?_ GE350.out | refine below_set ?_ GE356.out | refine below_set ?_ GE357.out) | exact HB.out)⟩⟩
              · rw [if_neg c23] at H
                have c23b0 : decide ((wrap64 ((wrap64 (x12_2 + 1)) * a1)) ≤ (wrap64 (t352 * a2))) = false := decide_eq_false c23
                clear c23
                simp only [Option.some.injEq, Prod.mk.injEq] at H
                obtain ⟨rfl, rfl⟩ := H
                have hnb27 := NB356_350.out
                have hnc27 := NB350_356.out
                have hnb28 := NB356_357.out
                have hnc28 := NB357_356.out
                have hcz29_0 : wr.cell? ⟨gb356, 0, none⟩ = some (.int .i64 t351) := (blk_cell BK356.out 0).trans rfl
                have hcz29_1 : wr.cell? ⟨gb356, 1, none⟩ = some (.int .i64 t352) := (blk_cell BK356.out 1).trans rfl
                have hfz29_0 := blk_frozen BK356.out 0
                have hfz29_1 := blk_frozen BK356.out 1
                go_wp2
                go_ret2
                exact ⟨by first | rfl | (simp [errW_none, errW_some] <;> rfl) | (simp [*, errW_none, errW_some] <;> rfl), by repeat (first | (with_reducible first | exact HB.out | apply below_alloc | apply pw_below_drewN | apply below_drew1 | refine below_set ?_ GE350.out | refine below_set ?_ GE356.out | refine below_set ?_ GE357.out) | exact HB.out)⟩
  · replace c5 := Bool.eq_false_iff.mpr c5
    subst c5
    have H1 : (some ((-1), (-1))) = some (r1, r2) := by rw [if_neg (show ¬ (false = true) by decide)] at H; exact H
    clear H
    have H := H1
    clear H1
    simp only [Option.some.injEq, Prod.mk.injEq] at H
    obtain ⟨rfl, rfl⟩ := H
    go_enter Try.func10, Try.ntmps10
    go_wp2_with (first | ((with_reducible refine gate_dst (N := 3) rfl ?_); refine box_event ?hg (N := 3) ?hd (cs := #[.int .i64 a0_0, .int .i64 a0_1]) (t := 23) ?hr ?_; (case hd => rfl); (case hg => rfl); (case hr => first | (go_simp; done) | (go_simp; rfl)); intro gb350 hg w30 hbox hb; have n0_ := Aside0.mk (below_step (by repeat (first | (with_reducible first | exact HB.out | apply below_alloc | apply pw_below_drewN | apply below_drew1) | exact HB.out)) hb); have n1_ := Aside0.mk (hbox); have n2_ := Aside0.mk ((by rw [hg]; exact (below_size (by repeat (first | (with_reducible first | exact HB.out | apply below_alloc | apply pw_below_drewN | apply below_drew1) | exact HB.out))) : w.heap.size ≤ gb350)); have n3_ := Aside0.mk ((by rw [hg]; exact (below_size (by repeat (first | (with_reducible first | exact HB.out | apply below_alloc | apply pw_below_drewN | apply below_drew1) | exact HB.out))) : w.heap.size ≤ gb350)); clear HB; have HB := n0_; have BK350 := n1_; have GW350 := n2_; have GE350 := n3_; clear n0_ n1_ n2_ n3_; clear hb hbox hg; have hcz31_0 : w30.cell? ⟨gb350, 0, none⟩ = some (.int .i64 a0_0) := (blk_cell BK350.out 0).trans rfl; have hcz31_1 : w30.cell? ⟨gb350, 1, none⟩ = some (.int .i64 a0_1) := (blk_cell BK350.out 1).trans rfl; have hfz31_0 := blk_frozen BK350.out 0; have hfz31_1 := blk_frozen BK350.out 1) | ((with_reducible refine gate_callee (f := 20) rfl ?_); refine goesL_ (some 16) rfl rfl Try.func20 (by kernel_rfl) rfl #[.agg #[.int .i64 a0_0, .int .i64 a0_1], .int .i64 a1] rfl (by (try simp only [List.map_toArray, List.map_cons, List.map_nil]); first | done | rfl | (simp only [List.length_drop, List.length_take]; rfl)) ?_; (with_reducible refine (zelligeref06_Home.calls a0_0 a0_1 a1 t351 t352 t353 t354 false _ A4.out).mono ?_); rintro e w32 ⟨rfl, hb⟩; refine ⟨_, rfl, ?_⟩; have n0_ := Aside0.mk (blk_below (g := gb350) (o := .cells #[.int .i64 a0_0, .int .i64 a0_1] 23 (0, 0)) (by (with_reducible repeat (first | refine blk_drewN ?_ _ | refine blk_drew ?_ | refine blk_alloc ?_ _)); exact BK350.out) hb); have n1_ := Aside0.mk (below_step (by repeat (first | (with_reducible first | exact HB.out | apply below_alloc | apply pw_below_drewN | apply below_drew1 | refine below_set ?_ GE350.out) | exact HB.out)) hb); clear BK350; clear HB; have BK350 := n0_; have HB := n1_; clear n0_ n1_; (try clear hb); (try clear hb2); (try clear hk); (try clear hi)) | ((with_reducible refine gate_dst (N := 8) rfl ?_); refine box_event ?hg (N := 8) ?hd (cs := #[.int .i64 0, .int .i64 0]) (t := 23) ?hr ?_; (case hd => rfl); (case hg => rfl); (case hr => first | (go_simp; done) | (go_simp; rfl)); intro gb356 hg w33 hbox hb; have n0_ := Aside0.mk (blk_below (g := gb350) (o := .cells #[.int .i64 a0_0, .int .i64 a0_1] 23 (0, 0)) (by (with_reducible repeat (first | refine blk_drewN ?_ _ | refine blk_drew ?_ | refine blk_alloc ?_ _)); exact BK350.out) hb); have n1_ := Aside0.mk (below_step (by repeat (first | (with_reducible first | exact HB.out | apply below_alloc | apply pw_below_drewN | apply below_drew1 | refine below_set ?_ GE350.out) | exact HB.out)) hb); have n2_ := Aside0.mk (hbox); have n3_ := Aside0.mk ((by rw [hg]; exact (below_size (by repeat (first | (with_reducible first | exact HB.out | apply below_alloc | apply pw_below_drewN | apply below_drew1 | refine below_set ?_ GE350.out) | exact HB.out))) : w.heap.size ≤ gb356)); have n4_ := Aside0.mk ((by rw [hg]; exact (below_size (by repeat (first | (with_reducible first | exact HB.out | apply below_alloc | apply pw_below_drewN | apply below_drew1 | refine below_set ?_ GE350.out) | exact HB.out))) : w.heap.size ≤ gb356)); have n5_ := Aside0.mk ((by rw [hg]; exact Nat.ne_of_lt (blk_lt (g := gb350) (o := .cells #[.int .i64 a0_0, .int .i64 a0_1] 23 (0, 0)) (by (with_reducible repeat (first | refine blk_drewN ?_ _ | refine blk_drew ?_ | refine blk_alloc ?_ _)); exact BK350.out)) : gb350 ≠ gb356)); have n6_ := Aside0.mk ((by rw [hg]; exact Nat.ne_of_gt (blk_lt (g := gb350) (o := .cells #[.int .i64 a0_0, .int .i64 a0_1] 23 (0, 0)) (by (with_reducible repeat (first | refine blk_drewN ?_ _ | refine blk_drew ?_ | refine blk_alloc ?_ _)); exact BK350.out)) : gb356 ≠ gb350)); clear BK350; clear HB; have BK350 := n0_; have HB := n1_; have BK356 := n2_; have GW356 := n3_; have GE356 := n4_; have NB350_356 := n5_; have NB356_350 := n6_; clear n0_ n1_ n2_ n3_ n4_ n5_ n6_; clear hb hbox hg) | ((with_reducible refine gate_dst (N := 9) rfl ?_); refine box_event ?hg (N := 9) ?hd (cs := #[.int .i64 0, .int .i64 0]) (t := 52) ?hr ?_; (case hd => rfl); (case hg => rfl); (case hr => first | (go_simp; done) | (go_simp; rfl)); intro gb357 hg w34 hbox hb; have n0_ := Aside0.mk (blk_below (g := gb350) (o := .cells #[.int .i64 a0_0, .int .i64 a0_1] 23 (0, 0)) (by (with_reducible repeat (first | refine blk_drewN ?_ _ | refine blk_drew ?_ | refine blk_alloc ?_ _)); exact BK350.out) hb); have n1_ := Aside0.mk (blk_below (g := gb356) (o := .cells #[.int .i64 0, .int .i64 0] 23 (0, 0)) (by (with_reducible repeat (first | refine blk_drewN ?_ _ | refine blk_drew ?_ | refine blk_alloc ?_ _)); exact BK356.out) hb); have n2_ := Aside0.mk (below_step (by repeat (first | (with_reducible first | exact HB.out | apply below_alloc | apply pw_below_drewN | apply below_drew1 | refine below_set ?_ GE350.out | refine below_set ?_ GE356.out) | exact HB.out)) hb); have n3_ := Aside0.mk (hbox); have n4_ := Aside0.mk ((by rw [hg]; exact (below_size (by repeat (first | (with_reducible first | exact HB.out | apply below_alloc | apply pw_below_drewN | apply below_drew1 | refine below_set ?_ GE350.out | refine below_set ?_ GE356.out) | exact HB.out))) : w.heap.size ≤ gb357)); have n5_ := Aside0.mk ((by rw [hg]; exact (below_size (by repeat (first | (with_reducible first | exact HB.out | apply below_alloc | apply pw_below_drewN | apply below_drew1 | refine below_set ?_ GE350.out | refine below_set ?_ GE356.out) | exact HB.out))) : w.heap.size ≤ gb357)); have n6_ := Aside0.mk ((by rw [hg]; exact Nat.ne_of_lt (blk_lt (g := gb350) (o := .cells #[.int .i64 a0_0, .int .i64 a0_1] 23 (0, 0)) (by (with_reducible repeat (first | refine blk_drewN ?_ _ | refine blk_drew ?_ | refine blk_alloc ?_ _)); exact BK350.out)) : gb350 ≠ gb357)); have n7_ := Aside0.mk ((by rw [hg]; exact Nat.ne_of_gt (blk_lt (g := gb350) (o := .cells #[.int .i64 a0_0, .int .i64 a0_1] 23 (0, 0)) (by (with_reducible repeat (first | refine blk_drewN ?_ _ | refine blk_drew ?_ | refine blk_alloc ?_ _)); exact BK350.out)) : gb357 ≠ gb350)); have n8_ := Aside0.mk ((by rw [hg]; exact Nat.ne_of_lt (blk_lt (g := gb356) (o := .cells #[.int .i64 0, .int .i64 0] 23 (0, 0)) (by (with_reducible repeat (first | refine blk_drewN ?_ _ | refine blk_drew ?_ | refine blk_alloc ?_ _)); exact BK356.out)) : gb356 ≠ gb357)); have n9_ := Aside0.mk ((by rw [hg]; exact Nat.ne_of_gt (blk_lt (g := gb356) (o := .cells #[.int .i64 0, .int .i64 0] 23 (0, 0)) (by (with_reducible repeat (first | refine blk_drewN ?_ _ | refine blk_drew ?_ | refine blk_alloc ?_ _)); exact BK356.out)) : gb357 ≠ gb356)); clear BK350; clear BK356; clear HB; have BK350 := n0_; have BK356 := n1_; have HB := n2_; have BK357 := n3_; have GW357 := n4_; have GE357 := n5_; have NB350_357 := n6_; have NB357_350 := n7_; have NB356_357 := n8_; have NB357_356 := n9_; clear n0_ n1_ n2_ n3_ n4_ n5_ n6_ n7_ n8_ n9_; clear hb hbox hg; have hnb35 := NB356_350.out; have hnc35 := NB350_356.out; have hnb36 := NB356_357.out; have hnc36 := NB357_356.out; have hcz37_0 : w34.cell? ⟨gb356, 0, none⟩ = some (.int .i64 0) := (blk_cell BK356.out 0).trans rfl; have hcz37_1 : w34.cell? ⟨gb356, 1, none⟩ = some (.int .i64 0) := (blk_cell BK356.out 1).trans rfl; have hfz37_0 := blk_frozen BK356.out 0; have hfz37_1 := blk_frozen BK356.out 1; have hnb38 := NB357_350.out; have hnc38 := NB350_357.out; have hcz39_0 : w34.cell? ⟨gb357, 0, none⟩ = some (.int .i64 0) := (blk_cell BK357.out 0).trans rfl; have hcz39_1 : w34.cell? ⟨gb357, 1, none⟩ = some (.int .i64 0) := (blk_cell BK357.out 1).trans rfl; have hfz39_0 := blk_frozen BK357.out 0; have hfz39_1 := blk_frozen BK357.out 1))
    go_ret2
    exact ⟨by first | rfl | (simp [errW_none, errW_some] <;> rfl) | (simp [*, errW_none, errW_some] <;> rfl), by repeat (first | (with_reducible first | exact HB.out | apply below_alloc | apply pw_below_drewN | apply below_drew1 | refine below_set ?_ GE350.out | refine below_set ?_ GE356.out | refine below_set ?_ GE357.out) | exact HB.out)⟩

end Go.Proofs.Ytfangodjmppooaa.F
end

section
namespace Go.Proofs.Ytfangodjmppooaa.F
open Go.RowKit Go.Proofs.YtfangodjmppooaaW.PrintWords Go.Proofs.YtfangodjmppooaaW.PrintLast Go.Proofs.YtfangodjmppooaaW.PrintMore
attribute [local go_sem] max2_int min2_int max_two min_two max_three min_three max_four min_four   -- for this text's walks alone
set_option linter.unusedVariables false
set_option linter.unusedSimpArgs false

/-! ### zelligelaw15_good: function 7 -/
def zelligelaw15_good.f (a0 : Int) : Option (Int) := if a0 < 1 then (some 10) else (if a0 > 17179869184 then (some 10) else (some a0))
set_option maxHeartbeats 8000000 in
set_option maxRecDepth 100000 in
theorem zelligelaw15_good.calls (a0 : Int) (r : Int) (w : World) (h : zelligelaw15_good.f a0 = some r) :
    Calls Try.prog 7 #[.int .i64 a0] w fun e w' => e = .returned (.int .i64 r) ∧ Drawn0 w w' := by
  have H : (if a0 < 1 then (some 10) else (if a0 > 17179869184 then (some 10) else (some a0))) = some r := h
  clear h
  by_cases c2 : a0 < 1
  · rw [if_pos c2] at H
    have c2b0 : decide (a0 < 1) = true := decide_eq_true c2
    clear c2
    obtain rfl := Option.some.inj H
    go_enter Try.func7, Try.ntmps7
    go_wp2
    go_ret
    exact ⟨by first | rfl | (simp; done) | (simp [*]; done), by repeat (first | exact Drawn0.refl _ | apply Drawn0.step)⟩
  · rw [if_neg c2] at H
    have c2b0 : decide (a0 < 1) = false := decide_eq_false c2
    clear c2
    by_cases c3 : a0 > 17179869184
    · rw [if_pos c3] at H
      have c3b0 : decide (17179869184 < a0) = true := decide_eq_true c3
      clear c3
      obtain rfl := Option.some.inj H
      go_enter Try.func7, Try.ntmps7
      go_wp2
      go_ret
      exact ⟨by first | rfl | (simp; done) | (simp [*]; done), by repeat (first | exact Drawn0.refl _ | apply Drawn0.step)⟩
    · rw [if_neg c3] at H
      have c3b0 : decide (17179869184 < a0) = false := decide_eq_false c3
      clear c3
      obtain rfl := Option.some.inj H
      go_enter Try.func7, Try.ntmps7
      go_wp2
      go_ret
      exact ⟨by first | rfl | (simp; done) | (simp [*]; done), by repeat (first | exact Drawn0.refl _ | apply Drawn0.step)⟩

end Go.Proofs.Ytfangodjmppooaa.F
end

section
/- BucketCells: walked by hand (printed by gen_cells.py). -/
namespace Go.Proofs.Ytfangodjmppooaa.Rd
open Go Go.RowKit Go.Proofs.YtfangodjmppooaaW.PrintWords Go.Proofs.YtfangodjmppooaaW.PrintLast Go.Proofs.YtfangodjmppooaaW.PrintMore Go.Proofs.Ytfangodjmppooaa.F
set_option linter.unusedVariables false
set_option linter.unusedSimpArgs false
theorem w64p {x : Int} (h : -9000000000000000000 ≤ x ∧ x ≤ 9000000000000000000) : wrap64 x = x := by unfold wrap64; omega
theorem l1_p (side n x q1 q2 : Int) (hs : 1 ≤ side) (hs2 : side ≤ 17179869184) (hn : 1 ≤ n) (hn2 : n ≤ 64) (h0 : 0 ≤ q2) (h1 : q2 < side) (d : Nat) : ∀ (y : Int) (k : Nat), 0 ≤ y → q2 * n / side - y = d → d + 1 ≤ k → zelligeref15_Cell.l1 k side n x y q1 q2 = some (x, q2 * n / side) := by
  have m0 : 0 ≤ q2 * n := Int.mul_nonneg h0 (by omega)
  have m1 : q2 * n ≤ 17179869184 * 64 := Int.mul_le_mul (by omega) (by omega) (by omega) (by omega)
  induction d with
  | zero =>
    intro y k hy hd hk
    obtain ⟨k, rfl⟩ : ∃ j, k = j + 1 := ⟨k - 1, by omega⟩
    have hle : q2 * n / side ≤ q2 * n := Int.ediv_le_self _ m0
    have hno : ¬ (y + 1) * side ≤ q2 * n := fun h => by
      have := (Int.le_ediv_iff_mul_le (show 0 < side by omega)).2 h
      omega
    unfold zelligeref15_Cell.l1
    have e : y = q2 * n / side := by omega
    have b1 : (y + 1) * side ≤ (q2 * n) + side := by
      rw [Int.add_mul, Int.one_mul, e]
      have := Int.ediv_mul_le (q2 * n) (show side ≠ 0 by omega)
      omega
    have b2 : 0 ≤ (y + 1) * side := Int.mul_nonneg (by omega) (by omega)
    rw [w64p (x := y + 1) (by omega), w64p (x := (y + 1) * side) (by omega), w64p (x := q2 * n) (by omega), if_neg hno, ← e]
  | succ d ih =>
    intro y k hy hd hk
    obtain ⟨k, rfl⟩ : ∃ j, k = j + 1 := ⟨k - 1, by omega⟩
    have hle : q2 * n / side ≤ q2 * n := Int.ediv_le_self _ m0
    have hyes : (y + 1) * side ≤ q2 * n := (Int.le_ediv_iff_mul_le (show 0 < side by omega)).1 (by omega)
    have b2 : 0 ≤ (y + 1) * side := Int.mul_nonneg (by omega) (by omega)
    unfold zelligeref15_Cell.l1
    rw [w64p (x := y + 1) (by omega), w64p (x := (y + 1) * side) (by omega), w64p (x := q2 * n) (by omega), if_pos hyes]
    exact ih (y + 1) k (by omega) (by omega) (by omega)
theorem l0_p (side n q1 q2 : Int) (hs : 1 ≤ side) (hs2 : side ≤ 17179869184) (hn : 1 ≤ n) (hn2 : n ≤ 64) (h0 : 0 ≤ q1) (h1 : q1 < side) (h2 : 0 ≤ q2) (h3 : q2 < side) (d : Nat) : ∀ (x : Int) (k : Nat), 0 ≤ x → q1 * n / side - x = d → d + 100 ≤ k → zelligeref15_Cell.l0 k side n x 0 q1 q2 = some (q1 * n / side, q2 * n / side) := by
  have m0 : 0 ≤ q1 * n := Int.mul_nonneg h0 (by omega)
  have m1 : q1 * n ≤ 17179869184 * 64 := Int.mul_le_mul (by omega) (by omega) (by omega) (by omega)
  have p0 : 0 ≤ q2 * n := Int.mul_nonneg h2 (by omega)
  have z0 : 0 ≤ q2 * n / side := Int.ediv_nonneg p0 (by omega)
  have z1 : q2 * n / side ≤ n := by
    have h4 : q2 * n ≤ side * n := Int.mul_le_mul_of_nonneg_right (by omega) (by omega)
    have h5 := Int.ediv_le_ediv (show 0 < side by omega) h4
    rw [Int.mul_ediv_cancel_left _ (show side ≠ 0 by omega)] at h5
    exact h5
  induction d with
  | zero =>
    intro x k hx hd hk
    obtain ⟨k, rfl⟩ : ∃ j, k = j + 1 := ⟨k - 1, by omega⟩
    have hle : q1 * n / side ≤ q1 * n := Int.ediv_le_self _ m0
    have hno : ¬ (x + 1) * side ≤ q1 * n := fun h => by
      have := (Int.le_ediv_iff_mul_le (show 0 < side by omega)).2 h
      omega
    have e : x = q1 * n / side := by omega
    have b1 : (x + 1) * side ≤ (q1 * n) + side := by
      rw [Int.add_mul, Int.one_mul, e]
      have := Int.ediv_mul_le (q1 * n) (show side ≠ 0 by omega)
      omega
    have b2 : 0 ≤ (x + 1) * side := Int.mul_nonneg (by omega) (by omega)
    unfold zelligeref15_Cell.l0
    rw [w64p (x := x + 1) (by omega), w64p (x := (x + 1) * side) (by omega), w64p (x := q1 * n) (by omega), if_neg hno, ← e]
    exact l1_p side n x q1 q2 hs hs2 hn hn2 h2 h3 (q2 * n / side).toNat 0 k (by omega) (by omega) (by omega)
  | succ d ih =>
    intro x k hx hd hk
    obtain ⟨k, rfl⟩ : ∃ j, k = j + 1 := ⟨k - 1, by omega⟩
    have hle : q1 * n / side ≤ q1 * n := Int.ediv_le_self _ m0
    have hyes : (x + 1) * side ≤ q1 * n := (Int.le_ediv_iff_mul_le (show 0 < side by omega)).1 (by omega)
    have b2 : 0 ≤ (x + 1) * side := Int.mul_nonneg (by omega) (by omega)
    unfold zelligeref15_Cell.l0
    rw [w64p (x := x + 1) (by omega), w64p (x := (x + 1) * side) (by omega), w64p (x := q1 * n) (by omega), if_pos hyes]
    exact ih (x + 1) k (by omega) (by omega) (by omega)
/-- Both cells of a point, on plain numbers. -/
theorem cell_both (px py side n : Int) (hx : I64 px) (hy : I64 py) (hs : 1 ≤ side) (hs2 : side ≤ 17179869184) (hn : 1 ≤ n) (hn2 : n ≤ 64) : ∃ q1 q2 r1 r2 ok, lift_Home.f 20 px py side = some (q1, q2, r1, r2, ok) ∧ (ok = true → 0 ≤ q1 ∧ q1 < side ∧ 0 ≤ q2 ∧ q2 < side ∧ side ≤ 100000000000) ∧
    zelligeref15_Cell.f 200 px py side n = some (if ok = true then q1 * n / side else -1, if ok = true then q2 * n / side else -1) := by
  have h := LiftH.lhome_f px py side (k := 20) (by decide)
  have hr : zelligeref06_Home.f px py side = some (if HomeOk px py side then (px % side, py % side, px / side, py / side, true) else (0, 0, 0, 0, false)) := by
    unfold zelligeref06_Home.f
    rw [if_pos ⟨hx, hy, by constructor <;> omega⟩]
  by_cases c : HomeOk px py side
  · rw [if_pos (show LiftH.HomeOk px py side from c)] at h
    rw [if_pos c] at hr
    have e1 := Int.emod_nonneg px (show side ≠ 0 by omega)
    have e2 := Int.emod_lt_of_pos px (show 0 < side by omega)
    have e3 := Int.emod_nonneg py (show side ≠ 0 by omega)
    have e4 := Int.emod_lt_of_pos py (show 0 < side by omega)
    refine ⟨_, _, _, _, _, h, fun _ => ⟨e1, e2, e3, e4, by omega⟩, ?_⟩
    unfold zelligeref15_Cell.f
    rw [hr, Option.bind_some, if_pos rfl, if_pos rfl, if_pos rfl]
    have z0 : 0 ≤ px % side * n / side := Int.ediv_nonneg (Int.mul_nonneg e1 (by omega)) (by omega)
    have z1 : px % side * n / side ≤ n := by
      have h4 : px % side * n ≤ side * n := Int.mul_le_mul_of_nonneg_right (by omega) (by omega)
      have h5 := Int.ediv_le_ediv (show 0 < side by omega) h4
      rw [Int.mul_ediv_cancel_left _ (show side ≠ 0 by omega)] at h5
      exact h5
    exact l0_p side n (px % side) (py % side) hs hs2 hn hn2 e1 e2 e3 e4 (px % side * n / side).toNat 0 200 (by omega) (by omega) (by omega)
  · rw [if_neg (show ¬ LiftH.HomeOk px py side from c)] at h
    rw [if_neg c] at hr
    refine ⟨_, _, _, _, _, h, (fun e => by cases e), ?_⟩
    unfold zelligeref15_Cell.f
    rw [hr, Option.bind_some, if_neg (by decide)]
    rfl
set_option maxHeartbeats 8000000 in
set_option maxRecDepth 100000 in
theorem cells_walk (side0 nn px py side n X Y : Int) (m : Nat) (ok : Bool) (w : World) (hg : zelligelaw15_good.f side0 = some side) (hnn : 0 ≤ nn ∧ nn ≤ 255) (hn : 1 + nn % 64 = n) (h1 : 1 ≤ side) (h2 : side ≤ 17179869184) (hm : (m : Int) = n * n)
    (hr : zelligeref15_Cell.f 200 px py side n = some (X, Y)) (HC : ∀ (g : Nat) (v : Value) (W : World), W.heap[g]? = some (.cells #[.int .i64 side, .int .i64 n, v, .int .i64 0] 48 (0, 0)) → CellAt (.pointer (some ⟨g, 0, none⟩)) px py X Y ok W) :
    Calls Try.prog 3 #[.int .i64 side0, .int .u8 nn, .agg #[.int .i64 px, .int .i64 py]] w fun e w' => e = .returned (.bool true) ∧ Below w.heap.size w w' := by
  have HB := Aside0.mk (below_alloc (Below.refl w.heap.size w) (.cells #[.int .i64 px, .int .i64 py] 23))
  have HP := Aside0.mk (blk_new w (.cells #[.int .i64 px, .int .i64 py] 23))
  have HG := Aside0.mk hg
  have HR := Aside0.mk hr
  have HX := Aside0.mk HC
  have hn3 : 1 ≤ n := by omega
  have hn4 : n ≤ 64 := by omega
  have HM := Aside0.mk (And.intro (And.intro h1 h2) (And.intro (And.intro hn3 hn4) hm))
  have HN := Aside0.mk hn
  clear hg hr HC hm hn
  go_enter Try.func3, Try.ntmps3
  go_wp2_with (first | (with_reducible go_at_call 7; with_reducible refine (zelligelaw15_good.calls side0 side _ HG.out).mono ?_; rintro e w1 ⟨rfl, ⟨nd, hw1⟩⟩; have HB1 : Aside0 (Below w.heap.size w w1) := ⟨by subst hw1; exact pw_below_drewN HB.out nd⟩; have HP1 : Aside0 (w1.heap[w.heap.size]? = some (.cells #[.int .i64 px, .int .i64 py] 23 (0, 0))) := ⟨by subst hw1; exact blk_drewN HP.out nd⟩; clear hw1 HB HP) | fail)
  rw [HN.out]
  obtain ⟨b5, e5⟩ : ∃ b, b = w.heap.size := ⟨_, rfl⟩
  have HB5 : Aside0 (Below b5 w w1) := ⟨by rw [e5]; exact HB1.out⟩
  rw [← e5] at HP1 ⊢
  clear e5
  refine start_ (n := 10) (S := fun w' => Below w1.heap.size w1 w') (ds := []) #[false, false, false, false, false, false, false, false, false, false] (by kernel_rfl) rfl rfl (below_drew (Below.refl _ _)) (fun hHeld => ?_)
  refine pure_ (i := 0) (N := some 19) (v := ?_) (a' := ?_) #[true, false, false, false, false, false, false, false, false, false] rfl rfl (by kernel_rfl) (fun _ _ _ h => h) (Or.inl ⟨by rfl, ?_⟩) ?_ ?_
  rotate_left
  · intro w'
    go_simp
    with_reducible rfl
  rotate_left
  · simp only [Act.put, List.setIfInBounds_toArray, List.set_cons_zero, List.set_cons_succ, i64_w, i32_w]
    rfl
  refine pure_ (i := 1) (N := some 20) (v := ?_) (a' := ?_) #[true, true, false, false, false, false, false, false, false, false] rfl rfl (by kernel_rfl) (fun _ _ _ h => h) (Or.inl ⟨by rfl, ?_⟩) ?_ ?_
  rotate_left
  · intro w'
    go_simp
    with_reducible rfl
  rotate_left
  · simp only [Act.put, List.setIfInBounds_toArray, List.set_cons_zero, List.set_cons_succ, i64_w, i32_w]
    rfl
  refine take_ (i := 3) (N := some 22) (v := ?_) (a' := ?_) #[true, true, false, true, false, false, false, false, false, false] rfl rfl (by kernel_rfl) (fun _ _ _ h => h) (Or.inl ⟨by rfl, ?_⟩) hHeld ?_ ?_
  rotate_left
  · intro w' s0
    have z0 := (blk_cell (blk_below HP1.out s0) 0).trans rfl
    have z1 := (blk_cell (blk_below HP1.out s0) 1).trans rfl
    go_simp
    with_reducible rfl
  rotate_left
  · simp only [Act.put, List.setIfInBounds_toArray, List.set_cons_zero, List.set_cons_succ, i64_w, i32_w]
    rfl
  have s1 := hHeld
  clear hHeld
  generalize w1.drew = w2 at s1 ⊢
  refine one_ (i := 2) (N := some 21) #[true, true, true, true, false, false, false, false, false, false] rfl rfl (by kernel_rfl) (by decide) (fun K hK => ?_)
  refine goes_ Try.func8 (by kernel_rfl) rfl #[.int .i64 side, .int .i64 n] (by rfl) rfl rfl (by (try simp only [List.map_toArray, List.map_cons, List.map_nil]); first | done | rfl) ?_
  with_reducible refine (new_some side n m _ HM.out.1.1 HM.out.1.2 HM.out.2.1.1 HM.out.2.1.2 HM.out.2.2).mono ?_
  rintro e w3 ⟨rfl, hw3⟩
  have sz : (w2.alloc (.cells (nils m) 57)).heap.size = w2.heap.size + 1 := World.size_alloc _ _
  have hgg := blk_new (w2.alloc (.cells (nils m) 57)) (.cells #[.int .i64 side, .int .i64 n, .slice (some ⟨w2.heap.size, 0, none⟩) m m, .int .i64 0] 48)
  have hb1 := below_alloc (below_alloc (Below.refl w2.heap.size w2) (.cells (nils m) 57)) (.cells #[.int .i64 side, .int .i64 n, .slice (some ⟨w2.heap.size, 0, none⟩) m m, .int .i64 0] 48)
  rw [sz] at hgg
  rw [← hw3] at hgg hb1
  clear hw3 sz
  have s3 := below_then s1 s1.size hb1
  have hcc := HX.out _ _ _ hgg
  refine ⟨_, rfl, ?_⟩
  refine hK.out _ _ s3 (fun hHeld => ?_)
  clear hK K hHeld
  refine norm_ (a' := ?_) ?_ ?_
  rotate_left
  · show Act.put _ (some 21) _ = _
    simp only [Act.put, List.setIfInBounds_toArray, List.set_cons_zero, List.set_cons_succ, i64_w, i32_w]
    rfl
  obtain ⟨g, eg⟩ : ∃ g, g = w2.heap.size + 1 := ⟨_, rfl⟩
  rw [← eg] at hcc ⊢
  clear eg hgg hb1
  refine one_ (i := 4) (N := some 23) #[true, true, true, true, true, false, false, false, false, false] rfl rfl (by kernel_rfl) (by decide) (fun K hK => ?_)
  refine goes_ Try.func9 (by kernel_rfl) rfl #[.pointer (some ⟨g, 0, none⟩), .agg #[.int .i64 px, .int .i64 py]] (by rfl) rfl rfl (by (try simp only [List.map_toArray, List.map_cons, List.map_nil]); first | done | rfl) ?_
  with_reducible refine (Cell_at _ px py X Y ok _ hcc).mono ?_
  rintro e w4 ⟨rfl, hb4⟩
  have s4 := below_then s3 s3.size hb4
  refine ⟨_, rfl, ?_⟩
  refine hK.out _ _ s4 (fun hHeld => ?_)
  clear hK K hHeld hcc
  refine norm_ (a' := ?_) ?_ ?_
  rotate_left
  · show Act.put _ (some 23) _ = _
    simp only [Act.put, List.setIfInBounds_toArray, List.set_cons_zero, List.set_cons_succ, i64_w, i32_w]
    rfl
  refine pure_ (i := 5) (N := some 18) (v := ?_) (a' := ?_) #[true, true, true, true, true, true, false, false, false, false] rfl rfl (by kernel_rfl) (fun _ _ _ h => h) (Or.inl ⟨by rfl, ?_⟩) ?_ ?_
  rotate_left
  · intro w'
    go_simp
    with_reducible rfl
  rotate_left
  · simp only [Act.put, List.setIfInBounds_toArray, List.set_cons_zero, List.set_cons_succ, i64_w, i32_w]
    rfl
  refine pure_ (i := 6) (N := some 24) (v := ?_) (a' := ?_) #[true, true, true, true, true, true, true, false, false, false] rfl rfl (by kernel_rfl) (fun _ _ _ h => h) (Or.inl ⟨by rfl, ?_⟩) ?_ ?_
  rotate_left
  · intro w'
    go_simp
    with_reducible rfl
  rotate_left
  · simp only [Act.put, List.setIfInBounds_toArray, List.set_cons_zero, List.set_cons_succ, i64_w, i32_w]
    rfl
  refine pure_ (i := 7) (N := some 25) (v := ?_) (a' := ?_) #[true, true, true, true, true, true, true, true, false, false] rfl rfl (by kernel_rfl) (fun _ _ _ h => h) (Or.inl ⟨by rfl, ?_⟩) ?_ ?_
  rotate_left
  · intro w'
    go_simp
    with_reducible rfl
  rotate_left
  · simp only [Act.put, List.setIfInBounds_toArray, List.set_cons_zero, List.set_cons_succ, i64_w, i32_w]
    rfl
  refine pure_ (i := 8) (N := some 8) (v := ?_) (a' := ?_) #[true, true, true, true, true, true, true, true, true, false] rfl rfl (by kernel_rfl) (fun _ _ _ h => h) (Or.inl ⟨by rfl, ?_⟩) ?_ ?_
  rotate_left
  · intro w'
    go_simp
    with_reducible rfl
  rotate_left
  · simp only [Act.put, List.setIfInBounds_toArray, List.set_cons_zero, List.set_cons_succ, i64_w, i32_w]
    rfl
  refine pure_ (i := 9) (N := some 9) (v := ?_) (a' := ?_) #[true, true, true, true, true, true, true, true, true, true] rfl rfl (by kernel_rfl) (fun _ _ _ h => h) (Or.inl ⟨by rfl, ?_⟩) ?_ ?_
  rotate_left
  · intro w'
    go_simp
    with_reducible rfl
  rotate_left
  · simp only [Act.put, List.setIfInBounds_toArray, List.set_cons_zero, List.set_cons_succ, i64_w, i32_w]
    rfl
  refine done_ (by kernel_rfl) ?_
  have HB4 : Aside0 (Below w.heap.size w w4) := ⟨below_then HB1.out HB1.out.size s4⟩
  have p0 : w4.cell? ⟨b5, 0, none⟩ = some (.int .i64 px) := (blk_cell (blk_below HP1.out s4) 0).trans rfl
  have p1 : w4.cell? ⟨b5, 1, none⟩ = some (.int .i64 py) := (blk_cell (blk_below HP1.out s4) 1).trans rfl
  clear s1 s3 s4 HB5 HB1 HP1
  go_wp2_with (first | (with_reducible go_at_call 10; with_reducible refine (zelligeref15_Cell.calls 200 px py side n X Y _ HR.out).mono ?_; rintro e w5 ⟨rfl, hb⟩; have HB6 := Aside0.mk (below_step HB4.out hb); clear hb HB4 p0 p1) | (with_reducible go_at_call 11; with_reducible refine (lives_c _).mono ?_; rintro e w7 ⟨rfl, hb⟩; have HB7 := Aside0.mk (below_step HB6.out hb); clear hb) | fail)
  go_ret
  exact ⟨rfl, HB7.out⟩
theorem cells_calls (side nn px py : Int) (w : World) (hs : (Lit.int .i64 side).wf = true) (hn : (Lit.int .u8 nn).wf = true) (hx : (Lit.int .i64 px).wf = true) (hy : (Lit.int .i64 py).wf = true) :
    Calls Try.prog 3 #[.int .i64 side, .int .u8 nn, .agg #[.int .i64 px, .int .i64 py]] w fun e w' => e = .returned (.bool true) ∧ Below w.heap.size w w' := by
  have bn := bounds_u8 hn
  have bx := bounds_i64 hx
  have bY := bounds_i64 hy
  obtain ⟨n, hnn⟩ : ∃ n, 1 + nn % 64 = n := ⟨_, rfl⟩
  obtain ⟨s, hgs, s1, s2⟩ : ∃ s, zelligelaw15_good.f side = some s ∧ 1 ≤ s ∧ s ≤ 17179869184 := by
    unfold zelligelaw15_good.f
    by_cases c1 : side < 1
    · exact ⟨10, if_pos c1, by omega, by omega⟩
    · by_cases c2 : side > 17179869184
      · exact ⟨10, by rw [if_neg c1, if_pos c2], by omega, by omega⟩
      · exact ⟨side, by rw [if_neg c1, if_neg c2], by omega, by omega⟩
  obtain ⟨q1, q2, r1, r2, ok, hh, hq, hr⟩ := cell_both px py s n ⟨by omega, by omega⟩ ⟨by omega, by omega⟩ s1 s2 (by omega) (by omega)
  have m0 : 0 ≤ n * n := Int.mul_nonneg (by omega) (by omega)
  exact cells_walk side nn px py s n _ _ (n * n).toNat ok w hgs bn hnn s1 s2 (by omega) hr (fun g v W hg => CellAt.grid 20 g s n px py q1 q2 r1 r2 ok W v 0 s1 (by omega) (by omega) hq hg hh)
end Go.Proofs.Ytfangodjmppooaa.Rd
end
