/- PredWhere: own texts in one (part 6 of 6): contracts of the functions that the law reaches. -/
import Derived.Test.YtmeckkckjikjiaaBPredWheree

section
namespace Go.Proofs.Ytmeckkckjikjiaa.F
open Go.RowKit Go.Proofs.YtmeckkckjikjiaaW.PrintWords Go.Proofs.YtmeckkckjikjiaaW.PrintLast Go.Proofs.YtmeckkckjikjiaaW.PrintMore
attribute [local go_sem] max2_int min2_int max_two min_two max_three min_three max_four min_four
set_option linter.unusedVariables false
set_option linter.unusedSimpArgs false
def zelligeref07_Area.f (k : Nat) (a0_0 : Int) (a0_1 : Int) (a1_0 : Int) (a1_1 : Int) (a2_0 : Int) (a2_1 : Int) : Option (Int × List Int) := (zelligeref07_diff.f k a0_0 a1_0).bind fun bt464 => ((zelligeref07_diff.f k a0_1 a2_1).bind fun bt468 => ((zelligeref04_Mul.f k bt464.1 bt464.2 bt468.1 bt468.2).bind fun bt472 => ((zelligeref07_diff.f k a0_1 a1_1).bind fun bt476 => ((zelligeref07_diff.f k a0_0 a2_0).bind fun bt480 => ((zelligeref04_Mul.f k bt476.1 bt476.2 bt480.1 bt480.2).bind fun bt484 => ((zelligeref04_Sub.f k bt472.1 bt472.2 bt484.1 bt484.2).bind fun bt488 => (some (bt488.1, bt488.2))))))))
theorem zelligeref07_Area.mono : ∀ a0 a1 a2 a3 a4 a5 k, LeO (zelligeref07_Area.f k a0 a1 a2 a3 a4 a5) (zelligeref07_Area.f (k + 1) a0 a1 a2 a3 a4 a5) := by
 intro a0 a1 a2 a3 a4 a5 k
 unfold zelligeref07_Area.f
 repeat' first
   | (with_reducible exact zelligeref04_Mul.mono _ _ _ _ _)
   | (with_reducible exact zelligeref04_Sub.mono _ _ _ _ _)
   | (with_reducible exact zelligeref07_diff.mono _ _ _)
   | (with_reducible exact LeO.refl _)
   | (with_reducible exact LeO.none _)
   | (with_reducible refine LeO.ite ?_ ?_)
   | (with_reducible refine LeO.bind ?_ (fun _ => ?_))
   | exact zelligeref04_Mul.mono _ _ _ _ _
   | exact zelligeref04_Sub.mono _ _ _ _ _
   | exact zelligeref07_diff.mono _ _ _
   | exact LeO.none _
   | refine LeO.ite ?_ ?_
   | refine LeO.bind ?_ (fun _ => ?_)
def zelligeref07_Area.T1 : Bool × List (List Nat × List Nat) := (true, [([], []), ([0], [0]), ([], []), ([2], [2]), ([1, 3], [1, 3]), ([], []), ([5], [5]), ([], []), ([7], [7]), ([6, 8, 4], [6, 8]), ([4, 9, 9], [4, 9]), ([], []), ([11], [11]), ([], []), ([13], [13]), ([12, 14, 10], [12, 14]), ([], []), ([16], [16]), ([], []), ([18], [18]), ([17, 19, 15], [17, 19]), ([15, 20, 20], [15, 20]), ([10, 21, 21], [10, 21]), ([22, 22, 0, 1, 2, 3, 4, 5, 6, 7, 8, 9, 10, 11, 12, 13, 14, 15, 16, 17, 18, 19, 20, 21, 22], [22])])
def zelligeref07_Area.B1 : List Nat := [0, 1, 0, 4, 15, 0, 32, 0, 128, 511, 1023, 0, 2048, 0, 8192, 32767, 0, 65536, 0, 262144, 1048575, 2097151, 4194303, 8388607]
theorem zelligeref07_Area.tab1 : rtab .any (opsOf Try.f20 1) = zelligeref07_Area.T1 := by kernel_rfl
theorem zelligeref07_Area.bits1 : waitsOk zelligeref07_Area.T1.2 zelligeref07_Area.B1 = true := by kernel_rfl
set_option maxHeartbeats 8000000 in
set_option maxRecDepth 100000 in
theorem zelligeref07_Area.calls (k : Nat) (a0_0 : Int) (a0_1 : Int) (a1_0 : Int) (a1_1 : Int) (a2_0 : Int) (a2_1 : Int) (r1 : Int) (r2 : List Int) (w : World) (h : zelligeref07_Area.f k a0_0 a0_1 a1_0 a1_1 a2_0 a2_1 = some (r1, r2)) :
  Calls Try.prog 20 #[.agg #[.int .i64 a0_0, .int .i64 a0_1], .agg #[.int .i64 a1_0, .int .i64 a1_1], .agg #[.int .i64 a2_0, .int .i64 a2_1]] w fun e w' => ∃ v1_ : Value, e = .returned (.agg #[.int .i64 r1, v1_]) ∧ Kd.R (Kd.int .i64) 3 w' w.heap.size (fun _ => True) v1_ r2 ∧ Below w.heap.size w w' := by
 have hu23 := Try.underlying23
 have hu33 := Try.underlying33
 have HB := Aside0.mk (Below.refl w.heap.size w)
 have H : ((zelligeref07_diff.f k a0_0 a1_0).bind fun bt464 => ((zelligeref07_diff.f k a0_1 a2_1).bind fun bt468 => ((zelligeref04_Mul.f k bt464.1 bt464.2 bt468.1 bt468.2).bind fun bt472 => ((zelligeref07_diff.f k a0_1 a1_1).bind fun bt476 => ((zelligeref07_diff.f k a0_0 a2_0).bind fun bt480 => ((zelligeref04_Mul.f k bt476.1 bt476.2 bt480.1 bt480.2).bind fun bt484 => ((zelligeref04_Sub.f k bt472.1 bt472.2 bt484.1 bt484.2).bind fun bt488 => (some (bt488.1, bt488.2))))))))) = some (r1, r2) := h
 clear h
 replace H := Option.bind_eq_some_iff.mp H
 obtain ⟨⟨t464, t465⟩, A40, H⟩ := H
 replace H : ((zelligeref07_diff.f k a0_1 a2_1).bind fun bt468 => ((zelligeref04_Mul.f k t464 t465 bt468.1 bt468.2).bind fun bt472 => ((zelligeref07_diff.f k a0_1 a1_1).bind fun bt476 => ((zelligeref07_diff.f k a0_0 a2_0).bind fun bt480 => ((zelligeref04_Mul.f k bt476.1 bt476.2 bt480.1 bt480.2).bind fun bt484 => ((zelligeref04_Sub.f k bt472.1 bt472.2 bt484.1 bt484.2).bind fun bt488 => (some (bt488.1, bt488.2)))))))) = some (r1, r2) := H
 have A4 := Aside0.mk A40
 clear A40
 replace H := Option.bind_eq_some_iff.mp H
 obtain ⟨⟨t468, t469⟩, A50, H⟩ := H
 replace H : ((zelligeref04_Mul.f k t464 t465 t468 t469).bind fun bt472 => ((zelligeref07_diff.f k a0_1 a1_1).bind fun bt476 => ((zelligeref07_diff.f k a0_0 a2_0).bind fun bt480 => ((zelligeref04_Mul.f k bt476.1 bt476.2 bt480.1 bt480.2).bind fun bt484 => ((zelligeref04_Sub.f k bt472.1 bt472.2 bt484.1 bt484.2).bind fun bt488 => (some (bt488.1, bt488.2))))))) = some (r1, r2) := H
 have A5 := Aside0.mk A50
 clear A50
 replace H := Option.bind_eq_some_iff.mp H
 obtain ⟨⟨t472, t473⟩, A60, H⟩ := H
 replace H : ((zelligeref07_diff.f k a0_1 a1_1).bind fun bt476 => ((zelligeref07_diff.f k a0_0 a2_0).bind fun bt480 => ((zelligeref04_Mul.f k bt476.1 bt476.2 bt480.1 bt480.2).bind fun bt484 => ((zelligeref04_Sub.f k t472 t473 bt484.1 bt484.2).bind fun bt488 => (some (bt488.1, bt488.2)))))) = some (r1, r2) := H
 have A6 := Aside0.mk A60
 clear A60
 replace H := Option.bind_eq_some_iff.mp H
 obtain ⟨⟨t476, t477⟩, A70, H⟩ := H
 replace H : ((zelligeref07_diff.f k a0_0 a2_0).bind fun bt480 => ((zelligeref04_Mul.f k t476 t477 bt480.1 bt480.2).bind fun bt484 => ((zelligeref04_Sub.f k t472 t473 bt484.1 bt484.2).bind fun bt488 => (some (bt488.1, bt488.2))))) = some (r1, r2) := H
 have A7 := Aside0.mk A70
 clear A70
 replace H := Option.bind_eq_some_iff.mp H
 obtain ⟨⟨t480, t481⟩, A80, H⟩ := H
 replace H : ((zelligeref04_Mul.f k t476 t477 t480 t481).bind fun bt484 => ((zelligeref04_Sub.f k t472 t473 bt484.1 bt484.2).bind fun bt488 => (some (bt488.1, bt488.2)))) = some (r1, r2) := H
 have A8 := Aside0.mk A80
 clear A80
 replace H := Option.bind_eq_some_iff.mp H
 obtain ⟨⟨t484, t485⟩, A90, H⟩ := H
 replace H : ((zelligeref04_Sub.f k t472 t473 t484 t485).bind fun bt488 => (some (bt488.1, bt488.2))) = some (r1, r2) := H
 have A9 := Aside0.mk A90
 clear A90
 replace H := Option.bind_eq_some_iff.mp H
 obtain ⟨⟨t488, t489⟩, A100, H⟩ := H
 replace H : (some (t488, t489)) = some (r1, r2) := H
 have A10 := Aside0.mk A100
 clear A100
 simp only [Option.some.injEq, Prod.mk.injEq] at H
 obtain ⟨rfl, rfl⟩ := H
 go_enter Try.func20, Try.ntmps20
 try go_wp2_with (first | ((with_reducible refine gate_dst (N := 3) rfl ?_); refine box_event ?hg (N := 3) ?hd (cs := #[.int .i64 a0_0, .int .i64 a0_1]) (t := 23) ?hr ?_; (case hd => rfl); (case hg => rfl); (case hr => first | (go_simp; done) | (go_simp; rfl)); intro gb460 hg w11 hbox hb; have n0_ := Aside0.mk (below_step (bw HB.out) hb); have n1_ := Aside0.mk (hbox); have n2_ := Aside0.mk ((by rw [hg]; exact (below_size (bw HB.out)) : w.heap.size ≤ gb460)); have n3_ := Aside0.mk ((by rw [hg]; exact (below_size (bw HB.out)) : w.heap.size ≤ gb460)); clear HB; have HB := n0_; have BK460 := n1_; have GW460 := n2_; have GE460 := n3_; clear n0_ n1_ n2_ n3_; clear hb hbox hg) | ((with_reducible refine gate_dst (N := 4) rfl ?_); refine box_event ?hg (N := 4) ?hd (cs := #[.int .i64 a1_0, .int .i64 a1_1]) (t := 23) ?hr ?_; (case hd => rfl); (case hg => rfl); (case hr => first | (go_simp; done) | (go_simp; rfl)); intro gb461 hg w12 hbox hb; have n0_ := Aside0.mk (blk_below (g := gb460) (o := .cells #[.int .i64 a0_0, .int .i64 a0_1] 23 (0, 0)) (bk BK460.out) hb); have n1_ := Aside0.mk (below_step (by repeat (first | (with_reducible first | exact HB.out | apply below_alloc | apply pw_below_drewN | apply below_drew1 | refine below_set ?_ GE460.out) | exact HB.out)) hb); have n2_ := Aside0.mk (hbox); have n3_ := Aside0.mk ((by rw [hg]; exact (below_size (by repeat (first | (with_reducible first | exact HB.out | apply below_alloc | apply pw_below_drewN | apply below_drew1 | refine below_set ?_ GE460.out) | exact HB.out))) : w.heap.size ≤ gb461)); have n4_ := Aside0.mk ((by rw [hg]; exact (below_size (by repeat (first | (with_reducible first | exact HB.out | apply below_alloc | apply pw_below_drewN | apply below_drew1 | refine below_set ?_ GE460.out) | exact HB.out))) : w.heap.size ≤ gb461)); have n5_ := Aside0.mk ((by rw [hg]; exact Nat.ne_of_lt (blk_lt (g := gb460) (o := .cells #[.int .i64 a0_0, .int .i64 a0_1] 23 (0, 0)) (bk BK460.out)) : gb460 ≠ gb461)); have n6_ := Aside0.mk ((by rw [hg]; exact Nat.ne_of_gt (blk_lt (g := gb460) (o := .cells #[.int .i64 a0_0, .int .i64 a0_1] 23 (0, 0)) (bk BK460.out)) : gb461 ≠ gb460)); clear BK460; clear HB; have BK460 := n0_; have HB := n1_; have BK461 := n2_; have GW461 := n3_; have GE461 := n4_; have NB460_461 := n5_; have NB461_460 := n6_; clear n0_ n1_ n2_ n3_ n4_ n5_ n6_; clear hb hbox hg) | ((with_reducible refine gate_dst (N := 5) rfl ?_); refine box_event ?hg (N := 5) ?hd (cs := #[.int .i64 a2_0, .int .i64 a2_1]) (t := 23) ?hr ?_; (case hd => rfl); (case hg => rfl); (case hr => first | (go_simp; done) | (go_simp; rfl)); intro gb462 hg w13 hbox hb; have n0_ := Aside0.mk (blk_below (g := gb460) (o := .cells #[.int .i64 a0_0, .int .i64 a0_1] 23 (0, 0)) (bk BK460.out) hb); have n1_ := Aside0.mk (blk_below (g := gb461) (o := .cells #[.int .i64 a1_0, .int .i64 a1_1] 23 (0, 0)) (bk BK461.out) hb); have n2_ := Aside0.mk (below_step (by repeat (first | (with_reducible first | exact HB.out | apply below_alloc | apply pw_below_drewN | apply below_drew1 | refine below_set ?_ GE460.out | refine below_set ?_ GE461.out) | exact HB.out)) hb); have n3_ := Aside0.mk (hbox); have n4_ := Aside0.mk ((by rw [hg]; exact (below_size (by repeat (first | (with_reducible first | exact HB.out | apply below_alloc | apply pw_below_drewN | apply below_drew1 | refine below_set ?_ GE460.out | refine below_set ?_ GE461.out) | exact HB.out))) : w.heap.size ≤ gb462)); have n5_ := Aside0.mk ((by rw [hg]; exact (below_size (by repeat (first | (with_reducible first | exact HB.out | apply below_alloc | apply pw_below_drewN | apply below_drew1 | refine below_set ?_ GE460.out | refine below_set ?_ GE461.out) | exact HB.out))) : w.heap.size ≤ gb462)); have n6_ := Aside0.mk ((by rw [hg]; exact Nat.ne_of_lt (blk_lt (g := gb460) (o := .cells #[.int .i64 a0_0, .int .i64 a0_1] 23 (0, 0)) (bk BK460.out)) : gb460 ≠ gb462)); have n7_ := Aside0.mk ((by rw [hg]; exact Nat.ne_of_gt (blk_lt (g := gb460) (o := .cells #[.int .i64 a0_0, .int .i64 a0_1] 23 (0, 0)) (bk BK460.out)) : gb462 ≠ gb460)); have n8_ := Aside0.mk ((by rw [hg]; exact Nat.ne_of_lt (blk_lt (g := gb461) (o := .cells #[.int .i64 a1_0, .int .i64 a1_1] 23 (0, 0)) (bk BK461.out)) : gb461 ≠ gb462)); have n9_ := Aside0.mk ((by rw [hg]; exact Nat.ne_of_gt (blk_lt (g := gb461) (o := .cells #[.int .i64 a1_0, .int .i64 a1_1] 23 (0, 0)) (bk BK461.out)) : gb462 ≠ gb461)); clear BK460; clear BK461; clear HB; have BK460 := n0_; have BK461 := n1_; have HB := n2_; have BK462 := n3_; have GW462 := n4_; have GE462 := n5_; have NB460_462 := n6_; have NB462_460 := n7_; have NB461_462 := n8_; have NB462_461 := n9_; clear n0_ n1_ n2_ n3_ n4_ n5_ n6_ n7_ n8_ n9_; clear hb hbox hg) | ((with_reducible refine gate_dst (N := 6) rfl ?_); refine box_event ?hg (N := 6) ?hd (cs := #[.int .i64 0, .slice none 0 0]) (t := 33) ?hr ?_; (case hd => rfl); (case hg => rfl); (case hr => first | (go_simp; done) | (go_simp; rfl)); intro gb463 hg w14 hbox hb; have n0_ := Aside0.mk (blk_below (g := gb460) (o := .cells #[.int .i64 a0_0, .int .i64 a0_1] 23 (0, 0)) (bk BK460.out) hb); have n1_ := Aside0.mk (blk_below (g := gb461) (o := .cells #[.int .i64 a1_0, .int .i64 a1_1] 23 (0, 0)) (bk BK461.out) hb); have n2_ := Aside0.mk (blk_below (g := gb462) (o := .cells #[.int .i64 a2_0, .int .i64 a2_1] 23 (0, 0)) (bk BK462.out) hb); have n3_ := Aside0.mk (below_step (by repeat (first | (with_reducible first | exact HB.out | apply below_alloc | apply pw_below_drewN | apply below_drew1 | refine below_set ?_ GE460.out | refine below_set ?_ GE461.out | refine below_set ?_ GE462.out) | exact HB.out)) hb); have n4_ := Aside0.mk (hbox); have n5_ := Aside0.mk ((by rw [hg]; exact (below_size (by repeat (first | (with_reducible first | exact HB.out | apply below_alloc | apply pw_below_drewN | apply below_drew1 | refine below_set ?_ GE460.out | refine below_set ?_ GE461.out | refine below_set ?_ GE462.out) | exact HB.out))) : w.heap.size ≤ gb463)); have n6_ := Aside0.mk ((by rw [hg]; exact (below_size (by repeat (first | (with_reducible first | exact HB.out | apply below_alloc | apply pw_below_drewN | apply below_drew1 | refine below_set ?_ GE460.out | refine below_set ?_ GE461.out | refine below_set ?_ GE462.out) | exact HB.out))) : w.heap.size ≤ gb463)); have n7_ := Aside0.mk ((by rw [hg]; exact Nat.ne_of_lt (blk_lt (g := gb460) (o := .cells #[.int .i64 a0_0, .int .i64 a0_1] 23 (0, 0)) (bk BK460.out)) : gb460 ≠ gb463)); have n8_ := Aside0.mk ((by rw [hg]; exact Nat.ne_of_gt (blk_lt (g := gb460) (o := .cells #[.int .i64 a0_0, .int .i64 a0_1] 23 (0, 0)) (bk BK460.out)) : gb463 ≠ gb460)); have n9_ := Aside0.mk ((by rw [hg]; exact Nat.ne_of_lt (blk_lt (g := gb461) (o := .cells #[.int .i64 a1_0, .int .i64 a1_1] 23 (0, 0)) (bk BK461.out)) : gb461 ≠ gb463)); have n10_ := Aside0.mk ((by rw [hg]; exact Nat.ne_of_gt (blk_lt (g := gb461) (o := .cells #[.int .i64 a1_0, .int .i64 a1_1] 23 (0, 0)) (bk BK461.out)) : gb463 ≠ gb461)); have n11_ := Aside0.mk ((by rw [hg]; exact Nat.ne_of_lt (blk_lt (g := gb462) (o := .cells #[.int .i64 a2_0, .int .i64 a2_1] 23 (0, 0)) (bk BK462.out)) : gb462 ≠ gb463)); have n12_ := Aside0.mk ((by rw [hg]; exact Nat.ne_of_gt (blk_lt (g := gb462) (o := .cells #[.int .i64 a2_0, .int .i64 a2_1] 23 (0, 0)) (bk BK462.out)) : gb463 ≠ gb462)); clear BK460; clear BK461; clear BK462; clear HB; have BK460 := n0_; have BK461 := n1_; have BK462 := n2_; have HB := n3_; have BK463 := n4_; have GW463 := n5_; have GE463 := n6_; have NB460_463 := n7_; have NB463_460 := n8_; have NB461_463 := n9_; have NB463_461 := n10_; have NB462_463 := n11_; have NB463_462 := n12_; clear n0_ n1_ n2_ n3_ n4_ n5_ n6_ n7_ n8_ n9_ n10_ n11_ n12_; clear hb hbox hg))
 have n0_ := Aside0.mk (blk_drew BK460.out)
 have n1_ := Aside0.mk (blk_drew BK461.out)
 have n2_ := Aside0.mk (blk_drew BK462.out)
 have n3_ := Aside0.mk (blk_drew BK463.out)
 have n4_ := Aside0.mk (below_drew1 HB.out)
 clear BK460
 clear BK461
 clear BK462
 clear BK463
 clear HB
 have BK460 := n0_
 have BK461 := n1_
 have BK462 := n2_
 have BK463 := n3_
 have HB := n4_
 clear n0_ n1_ n2_ n3_ n4_
 refine start_ (n := 24) (S := fun w' => w'.cell? ⟨gb460, 0, none⟩ = some (.int .i64 a0_0) ∧ w'.cell? ⟨gb460, 1, none⟩ = some (.int .i64 a0_1) ∧ w'.cell? ⟨gb461, 0, none⟩ = some (.int .i64 a1_0) ∧ w'.cell? ⟨gb461, 1, none⟩ = some (.int .i64 a1_1) ∧ w'.cell? ⟨gb462, 0, none⟩ = some (.int .i64 a2_0) ∧ w'.cell? ⟨gb462, 1, none⟩ = some (.int .i64 a2_1)) (ds := []) #[false, false, false, false, false, false, false, false, false, false, false, false, false, false, false, false, false, false, false, false, false, false, false, false] (by kernel_rfl) rfl rfl ⟨(blk_cell BK460.out 0).trans rfl, (blk_cell BK460.out 1).trans rfl, (blk_cell BK461.out 0).trans rfl, (blk_cell BK461.out 1).trans rfl, (blk_cell BK462.out 0).trans rfl, (blk_cell BK462.out 1).trans rfl⟩ (fun hHeld => ?_); refine with_tabW zelligeref07_Area.tab1 zelligeref07_Area.bits1 (fun HT_ HW_ => ?_)
 generalize w14.drew = w15 at BK460 BK461 BK462 BK463 HB hHeld ⊢
 refine pure_ (i := 0) (N := some 7) (v := ?_) (a' := ?_) #[true, false, false, false, false, false, false, false, false, false, false, false, false, false, false, false, false, false, false, false, false, false, false, false] rfl rfl (any_of HT_.out (by kernel_rfl)) (fun _ _ _ h => h) (Or.inl ⟨by rfl, ?_⟩) ?_ ?_
 rotate_left
 ·intro w'
  go_simp
  with_reducible rfl
 rotate_left
 ·simp only [Act.put, List.setIfInBounds_toArray, List.set_cons_zero, List.set_cons_succ, i64_w, i32_w]
  rfl
 refine pure_ (i := 2) (N := some 9) (v := ?_) (a' := ?_) #[true, false, true, false, false, false, false, false, false, false, false, false, false, false, false, false, false, false, false, false, false, false, false, false] rfl rfl (any_of HT_.out (by kernel_rfl)) (fun _ _ _ h => h) (Or.inl ⟨by rfl, ?_⟩) ?_ ?_
 rotate_left
 ·intro w'
  go_simp
  with_reducible rfl
 rotate_left
 ·simp only [Act.put, List.setIfInBounds_toArray, List.set_cons_zero, List.set_cons_succ, i64_w, i32_w]
  rfl
 refine pure_ (i := 5) (N := some 12) (v := ?_) (a' := ?_) #[true, false, true, false, false, true, false, false, false, false, false, false, false, false, false, false, false, false, false, false, false, false, false, false] rfl rfl (any_of HT_.out (by kernel_rfl)) (fun _ _ _ h => h) (Or.inl ⟨by rfl, ?_⟩) ?_ ?_
 rotate_left
 ·intro w'
  go_simp
  with_reducible rfl
 rotate_left
 ·simp only [Act.put, List.setIfInBounds_toArray, List.set_cons_zero, List.set_cons_succ, i64_w, i32_w]
  rfl
 refine pure_ (i := 7) (N := some 14) (v := ?_) (a' := ?_) #[true, false, true, false, false, true, false, true, false, false, false, false, false, false, false, false, false, false, false, false, false, false, false, false] rfl rfl (any_of HT_.out (by kernel_rfl)) (fun _ _ _ h => h) (Or.inl ⟨by rfl, ?_⟩) ?_ ?_
 rotate_left
 ·intro w'
  go_simp
  with_reducible rfl
 rotate_left
 ·simp only [Act.put, List.setIfInBounds_toArray, List.set_cons_zero, List.set_cons_succ, i64_w, i32_w]
  rfl
 refine pure_ (i := 11) (N := some 18) (v := ?_) (a' := ?_) #[true, false, true, false, false, true, false, true, false, false, false, true, false, false, false, false, false, false, false, false, false, false, false, false] rfl rfl (any_of HT_.out (by kernel_rfl)) (fun _ _ _ h => h) (Or.inl ⟨by rfl, ?_⟩) ?_ ?_
 rotate_left
 ·intro w'
  go_simp
  with_reducible rfl
 rotate_left
 ·simp only [Act.put, List.setIfInBounds_toArray, List.set_cons_zero, List.set_cons_succ, i64_w, i32_w]
  rfl
 refine pure_ (i := 13) (N := some 20) (v := ?_) (a' := ?_) #[true, false, true, false, false, true, false, true, false, false, false, true, false, true, false, false, false, false, false, false, false, false, false, false] rfl rfl (any_of HT_.out (by kernel_rfl)) (fun _ _ _ h => h) (Or.inl ⟨by rfl, ?_⟩) ?_ ?_
 rotate_left
 ·intro w'
  go_simp
  with_reducible rfl
 rotate_left
 ·simp only [Act.put, List.setIfInBounds_toArray, List.set_cons_zero, List.set_cons_succ, i64_w, i32_w]
  rfl
 refine pure_ (i := 16) (N := some 23) (v := ?_) (a' := ?_) #[true, false, true, false, false, true, false, true, false, false, false, true, false, true, false, false, true, false, false, false, false, false, false, false] rfl rfl (any_of HT_.out (by kernel_rfl)) (fun _ _ _ h => h) (Or.inl ⟨by rfl, ?_⟩) ?_ ?_
 rotate_left
 ·intro w'
  go_simp
  with_reducible rfl
 rotate_left
 ·simp only [Act.put, List.setIfInBounds_toArray, List.set_cons_zero, List.set_cons_succ, i64_w, i32_w]
  rfl
 refine pure_ (i := 18) (N := some 25) (v := ?_) (a' := ?_) #[true, false, true, false, false, true, false, true, false, false, false, true, false, true, false, false, true, false, true, false, false, false, false, false] rfl rfl (any_of HT_.out (by kernel_rfl)) (fun _ _ _ h => h) (Or.inl ⟨by rfl, ?_⟩) ?_ ?_
 rotate_left
 ·intro w'
  go_simp
  with_reducible rfl
 rotate_left
 ·simp only [Act.put, List.setIfInBounds_toArray, List.set_cons_zero, List.set_cons_succ, i64_w, i32_w]
  rfl
 refine take_ (i := 1) (N := some 8) (v := ?_) (a' := ?_) #[true, true, true, false, false, true, false, true, false, false, false, true, false, true, false, false, true, false, true, false, false, false, false, false] rfl rfl (take_ofW HT_.out HW_.out (by kernel_rfl)) (fun _ _ _ h => h) (Or.inl ⟨by rfl, ?_⟩) hHeld ?_ ?_
 rotate_left
 ·rintro w' ⟨s0, s1, s2, s3, s4, s5⟩
  go_simp
  with_reducible rfl
 rotate_left
 ·simp only [Act.put, List.setIfInBounds_toArray, List.set_cons_zero, List.set_cons_succ, i64_w, i32_w]
  rfl
 refine take_ (i := 3) (N := some 10) (v := ?_) (a' := ?_) #[true, true, true, true, false, true, false, true, false, false, false, true, false, true, false, false, true, false, true, false, false, false, false, false] rfl rfl (take_ofW HT_.out HW_.out (by kernel_rfl)) (fun _ _ _ h => h) (Or.inl ⟨by rfl, ?_⟩) hHeld ?_ ?_
 rotate_left
 ·rintro w' ⟨s0, s1, s2, s3, s4, s5⟩
  go_simp
  with_reducible rfl
 rotate_left
 ·simp only [Act.put, List.setIfInBounds_toArray, List.set_cons_zero, List.set_cons_succ, i64_w, i32_w]
  rfl
 refine take_ (i := 6) (N := some 13) (v := ?_) (a' := ?_) #[true, true, true, true, false, true, true, true, false, false, false, true, false, true, false, false, true, false, true, false, false, false, false, false] rfl rfl (take_ofW HT_.out HW_.out (by kernel_rfl)) (fun _ _ _ h => h) (Or.inl ⟨by rfl, ?_⟩) hHeld ?_ ?_
 rotate_left
 ·rintro w' ⟨s0, s1, s2, s3, s4, s5⟩
  go_simp
  with_reducible rfl
 rotate_left
 ·simp only [Act.put, List.setIfInBounds_toArray, List.set_cons_zero, List.set_cons_succ, i64_w, i32_w]
  rfl
 refine take_ (i := 8) (N := some 15) (v := ?_) (a' := ?_) #[true, true, true, true, false, true, true, true, true, false, false, true, false, true, false, false, true, false, true, false, false, false, false, false] rfl rfl (take_ofW HT_.out HW_.out (by kernel_rfl)) (fun _ _ _ h => h) (Or.inl ⟨by rfl, ?_⟩) hHeld ?_ ?_
 rotate_left
 ·rintro w' ⟨s0, s1, s2, s3, s4, s5⟩
  go_simp
  with_reducible rfl
 rotate_left
 ·simp only [Act.put, List.setIfInBounds_toArray, List.set_cons_zero, List.set_cons_succ, i64_w, i32_w]
  rfl
 refine take_ (i := 12) (N := some 19) (v := ?_) (a' := ?_) #[true, true, true, true, false, true, true, true, true, false, false, true, true, true, false, false, true, false, true, false, false, false, false, false] rfl rfl (take_ofW HT_.out HW_.out (by kernel_rfl)) (fun _ _ _ h => h) (Or.inl ⟨by rfl, ?_⟩) hHeld ?_ ?_
 rotate_left
 ·rintro w' ⟨s0, s1, s2, s3, s4, s5⟩
  go_simp
  with_reducible rfl
 rotate_left
 ·simp only [Act.put, List.setIfInBounds_toArray, List.set_cons_zero, List.set_cons_succ, i64_w, i32_w]
  rfl
 refine take_ (i := 14) (N := some 21) (v := ?_) (a' := ?_) #[true, true, true, true, false, true, true, true, true, false, false, true, true, true, true, false, true, false, true, false, false, false, false, false] rfl rfl (take_ofW HT_.out HW_.out (by kernel_rfl)) (fun _ _ _ h => h) (Or.inl ⟨by rfl, ?_⟩) hHeld ?_ ?_
 rotate_left
 ·rintro w' ⟨s0, s1, s2, s3, s4, s5⟩
  go_simp
  with_reducible rfl
 rotate_left
 ·simp only [Act.put, List.setIfInBounds_toArray, List.set_cons_zero, List.set_cons_succ, i64_w, i32_w]
  rfl
 refine take_ (i := 17) (N := some 24) (v := ?_) (a' := ?_) #[true, true, true, true, false, true, true, true, true, false, false, true, true, true, true, false, true, true, true, false, false, false, false, false] rfl rfl (take_ofW HT_.out HW_.out (by kernel_rfl)) (fun _ _ _ h => h) (Or.inl ⟨by rfl, ?_⟩) hHeld ?_ ?_
 rotate_left
 ·rintro w' ⟨s0, s1, s2, s3, s4, s5⟩
  go_simp
  with_reducible rfl
 rotate_left
 ·simp only [Act.put, List.setIfInBounds_toArray, List.set_cons_zero, List.set_cons_succ, i64_w, i32_w]
  rfl
 refine take_ (i := 19) (N := some 26) (v := ?_) (a' := ?_) #[true, true, true, true, false, true, true, true, true, false, false, true, true, true, true, false, true, true, true, true, false, false, false, false] rfl rfl (take_ofW HT_.out HW_.out (by kernel_rfl)) (fun _ _ _ h => h) (Or.inl ⟨by rfl, ?_⟩) hHeld ?_ ?_
 rotate_left
 ·rintro w' ⟨s0, s1, s2, s3, s4, s5⟩
  go_simp
  with_reducible rfl
 rotate_left
 ·simp only [Act.put, List.setIfInBounds_toArray, List.set_cons_zero, List.set_cons_succ, i64_w, i32_w]
  rfl
 refine one_ (i := 4) (N := some 11) #[true, true, true, true, true, true, true, true, true, false, false, true, true, true, true, false, true, true, true, true, false, false, false, false] rfl rfl (one_of HT_.out (by kernel_rfl)) (by decide) (fun K hK => ?_)
 refine goes_ Try.func34 (by kernel_rfl) rfl #[.int .i64 a0_0, .int .i64 a1_0] (by rfl) rfl rfl (by (try simp only [List.map_toArray, List.map_cons, List.map_nil]); first | done | rfl | (simp only [List.length_drop, List.length_take]; rfl)) ?_
 with_reducible refine (zelligeref07_diff.calls k a0_0 a1_0 t464 t465 _ A4.out).mono ?_
 rintro e w16 ⟨v466, rfl, ho0, hb⟩
 refine ⟨_, rfl, ?_⟩
 have n0_ := Aside0.mk (Kd.R_lower ho0 (below_size (by repeat (first | (with_reducible first | exact HB.out | apply below_alloc | apply pw_below_drewN | apply below_drew1 | refine below_set ?_ GE460.out | refine below_set ?_ GE461.out | refine below_set ?_ GE462.out | refine below_set ?_ GE463.out) | exact HB.out))))
 have n1_ := Aside0.mk (blk_below (g := gb460) (o := .cells #[.int .i64 a0_0, .int .i64 a0_1] 23 (0, 0)) (bk BK460.out) hb)
 have n2_ := Aside0.mk (blk_below (g := gb461) (o := .cells #[.int .i64 a1_0, .int .i64 a1_1] 23 (0, 0)) (bk BK461.out) hb)
 have n3_ := Aside0.mk (blk_below (g := gb462) (o := .cells #[.int .i64 a2_0, .int .i64 a2_1] 23 (0, 0)) (bk BK462.out) hb)
 have n4_ := Aside0.mk (blk_below (g := gb463) (o := .cells #[.int .i64 0, .slice none 0 0] 33 (0, 0)) (bk BK463.out) hb)
 have n5_ := Aside0.mk (below_step (by repeat (first | (with_reducible first | exact HB.out | apply below_alloc | apply pw_below_drewN | apply below_drew1 | refine below_set ?_ GE460.out | refine below_set ?_ GE461.out | refine below_set ?_ GE462.out | refine below_set ?_ GE463.out) | exact HB.out)) hb)
 clear BK460
 clear BK461
 clear BK462
 clear BK463
 clear HB
 have HO467 := n0_
 have BK460 := n1_
 have BK461 := n2_
 have BK462 := n3_
 have BK463 := n4_
 have HB := n5_
 clear n0_ n1_ n2_ n3_ n4_ n5_
 (try clear hb)
 (try clear hb2)
 (try clear hk)
 (try clear hi)
 (try clear ho0)
 refine hK.out _ _ ⟨(blk_cell BK460.out 0).trans rfl, (blk_cell BK460.out 1).trans rfl, (blk_cell BK461.out 0).trans rfl, (blk_cell BK461.out 1).trans rfl, (blk_cell BK462.out 0).trans rfl, (blk_cell BK462.out 1).trans rfl⟩ (fun hHeld => ?_)
 clear hK K
 refine norm_ (a' := ?_) ?_ ?_
 rotate_left
 ·show Act.put _ (some 11) _ = _
  simp only [Act.put, List.setIfInBounds_toArray, List.set_cons_zero, List.set_cons_succ, i64_w, i32_w]
  rfl
 refine one_ (i := 9) (N := some 16) #[true, true, true, true, true, true, true, true, true, true, false, true, true, true, true, false, true, true, true, true, false, false, false, false] rfl rfl (one_of HT_.out (by kernel_rfl)) (by decide) (fun K hK => ?_)
 refine goes_ Try.func34 (by kernel_rfl) rfl #[.int .i64 a0_1, .int .i64 a2_1] (by rfl) rfl rfl (by (try simp only [List.map_toArray, List.map_cons, List.map_nil]); first | done | rfl | (simp only [List.length_drop, List.length_take]; rfl)) ?_
 with_reducible refine (zelligeref07_diff.calls k a0_1 a2_1 t468 t469 _ A5.out).mono ?_
 rintro e w17 ⟨v470, rfl, ho0, hb⟩
 refine ⟨_, rfl, ?_⟩
 have n0_ := Aside0.mk (Kd.R_elder' (by (with_reducible repeat (first | apply Kd.R_alloc | apply Kd.R_drewN | apply Kd.R_drew)); exact HO467.out) (Kd.R_base ho0) hb)
 have n1_ := Aside0.mk (Kd.R_lower (Kd.R_new' ho0 (Kd.R_lt (by (with_reducible repeat (first | apply Kd.R_alloc | apply Kd.R_drewN | apply Kd.R_drew)); exact HO467.out))) (below_size (by repeat (first | (with_reducible first | exact HB.out | apply below_alloc | apply pw_below_drewN | apply below_drew1 | refine below_set ?_ GE460.out | refine below_set ?_ GE461.out | refine below_set ?_ GE462.out | refine below_set ?_ GE463.out) | exact HB.out))))
 have n2_ := Aside0.mk (blk_below (g := gb460) (o := .cells #[.int .i64 a0_0, .int .i64 a0_1] 23 (0, 0)) (bk BK460.out) hb)
 have n3_ := Aside0.mk (blk_below (g := gb461) (o := .cells #[.int .i64 a1_0, .int .i64 a1_1] 23 (0, 0)) (bk BK461.out) hb)
 have n4_ := Aside0.mk (blk_below (g := gb462) (o := .cells #[.int .i64 a2_0, .int .i64 a2_1] 23 (0, 0)) (bk BK462.out) hb)
 have n5_ := Aside0.mk (blk_below (g := gb463) (o := .cells #[.int .i64 0, .slice none 0 0] 33 (0, 0)) (bk BK463.out) hb)
 have n6_ := Aside0.mk (below_step (by repeat (first | (with_reducible first | exact HB.out | apply below_alloc | apply pw_below_drewN | apply below_drew1 | refine below_set ?_ GE460.out | refine below_set ?_ GE461.out | refine below_set ?_ GE462.out | refine below_set ?_ GE463.out) | exact HB.out)) hb)
 clear HO467
 clear BK460
 clear BK461
 clear BK462
 clear BK463
 clear HB
 have HO467 := n0_
 have HO471 := n1_
 have BK460 := n2_
 have BK461 := n3_
 have BK462 := n4_
 have BK463 := n5_
 have HB := n6_
 clear n0_ n1_ n2_ n3_ n4_ n5_ n6_
 (try clear hb)
 (try clear hb2)
 (try clear hk)
 (try clear hi)
 (try clear ho0)
 obtain ⟨Ao18, co18, eo18⟩ := Kd.R_slice HO467.out
 (first | subst eo18 | (injection eo18 with f1_ f2_ f3_; have f4_ := f1_.symm; have f5_ := f3_.symm; clear f1_ f2_ f3_; subst f4_; subst f5_))
 obtain ⟨Ao19, co19, eo19⟩ := Kd.R_slice HO471.out
 (first | subst eo19 | (injection eo19 with f1_ f2_ f3_; have f4_ := f1_.symm; have f5_ := f3_.symm; clear f1_ f2_ f3_; subst f4_; subst f5_))
 refine hK.out _ _ ⟨(blk_cell BK460.out 0).trans rfl, (blk_cell BK460.out 1).trans rfl, (blk_cell BK461.out 0).trans rfl, (blk_cell BK461.out 1).trans rfl, (blk_cell BK462.out 0).trans rfl, (blk_cell BK462.out 1).trans rfl⟩ (fun hHeld => ?_)
 clear hK K
 refine norm_ (a' := ?_) ?_ ?_
 rotate_left
 ·show Act.put _ (some 16) _ = _
  simp only [Act.put, List.setIfInBounds_toArray, List.set_cons_zero, List.set_cons_succ, i64_w, i32_w]
  rfl
 refine one_ (i := 10) (N := some 17) #[true, true, true, true, true, true, true, true, true, true, true, true, true, true, true, false, true, true, true, true, false, false, false, false] rfl rfl (one_of HT_.out (by kernel_rfl)) (by decide) (fun K hK => ?_)
 refine goes_ Try.func35 (by kernel_rfl) rfl #[.agg #[.int .i64 t464, .slice Ao18 t465.length co18], .agg #[.int .i64 t468, .slice Ao19 t469.length co19]] (by rfl) rfl rfl (by (try simp only [List.map_toArray, List.map_cons, List.map_nil]); first | done | rfl | (simp only [List.length_drop, List.length_take]; rfl)) ?_
 with_reducible refine (zelligeref04_Mul.calls k t464 _ _ t465 t468 _ _ t469 t472 t473 _ ?side1 ?side2 ?side3 ?side4 A6.out).mono ?_
 (case side1 => repeat (first | exact (Kd.R_reads' HO467.out).2.2 | (with_reducible refine Kd.C_alloc ?_ _) | (with_reducible refine Kd.C_drewN ?_ _) | (with_reducible refine Kd.C_drew ?_)))
 (case side2 => exact (Kd.R_reads' HO467.out).2.1)
 (case side3 => repeat (first | exact (Kd.R_reads' HO471.out).2.2 | (with_reducible refine Kd.C_alloc ?_ _) | (with_reducible refine Kd.C_drewN ?_ _) | (with_reducible refine Kd.C_drew ?_)))
 (case side4 => exact (Kd.R_reads' HO471.out).2.1)
 rintro e w20 ⟨v474, rfl, ho0, hb⟩
 refine ⟨_, rfl, ?_⟩
 have n0_ := Aside0.mk (Kd.R_elder' (by (with_reducible repeat (first | apply Kd.R_alloc | apply Kd.R_drewN | apply Kd.R_drew)); exact HO467.out) (Kd.R_base ho0) hb)
 have n1_ := Aside0.mk (Kd.R_elder' (by (with_reducible repeat (first | apply Kd.R_alloc | apply Kd.R_drewN | apply Kd.R_drew)); exact HO471.out) (Kd.R_base ho0) hb)
 have n2_ := Aside0.mk (Kd.R_lower (Kd.R_new' (Kd.R_new' ho0 (Kd.R_lt (by (with_reducible repeat (first | apply Kd.R_alloc | apply Kd.R_drewN | apply Kd.R_drew)); exact HO467.out))) (Kd.R_lt (by (with_reducible repeat (first | apply Kd.R_alloc | apply Kd.R_drewN | apply Kd.R_drew)); exact HO471.out))) (below_size (by repeat (first | (with_reducible first | exact HB.out | apply below_alloc | apply pw_below_drewN | apply below_drew1 | refine below_set ?_ GE460.out | refine below_set ?_ GE461.out | refine below_set ?_ GE462.out | refine below_set ?_ GE463.out) | exact HB.out))))
 have n3_ := Aside0.mk (blk_below (g := gb460) (o := .cells #[.int .i64 a0_0, .int .i64 a0_1] 23 (0, 0)) (bk BK460.out) hb)
 have n4_ := Aside0.mk (blk_below (g := gb461) (o := .cells #[.int .i64 a1_0, .int .i64 a1_1] 23 (0, 0)) (bk BK461.out) hb)
 have n5_ := Aside0.mk (blk_below (g := gb462) (o := .cells #[.int .i64 a2_0, .int .i64 a2_1] 23 (0, 0)) (bk BK462.out) hb)
 have n6_ := Aside0.mk (blk_below (g := gb463) (o := .cells #[.int .i64 0, .slice none 0 0] 33 (0, 0)) (bk BK463.out) hb)
 have n7_ := Aside0.mk (below_step (by repeat (first | (with_reducible first | exact HB.out | apply below_alloc | apply pw_below_drewN | apply below_drew1 | refine below_set ?_ GE460.out | refine below_set ?_ GE461.out | refine below_set ?_ GE462.out | refine below_set ?_ GE463.out) | exact HB.out)) hb)
 clear HO467
 clear HO471
 clear BK460
 clear BK461
 clear BK462
 clear BK463
 clear HB
 have HO467 := n0_
 have HO471 := n1_
 have HO475 := n2_
 have BK460 := n3_
 have BK461 := n4_
 have BK462 := n5_
 have BK463 := n6_
 have HB := n7_
 clear n0_ n1_ n2_ n3_ n4_ n5_ n6_ n7_
 (try clear hb)
 (try clear hb2)
 (try clear hk)
 (try clear hi)
 (try clear ho0)
 refine hK.out _ _ ⟨(blk_cell BK460.out 0).trans rfl, (blk_cell BK460.out 1).trans rfl, (blk_cell BK461.out 0).trans rfl, (blk_cell BK461.out 1).trans rfl, (blk_cell BK462.out 0).trans rfl, (blk_cell BK462.out 1).trans rfl⟩ (fun hHeld => ?_)
 clear hK K
 refine norm_ (a' := ?_) ?_ ?_
 rotate_left
 ·show Act.put _ (some 17) _ = _
  simp only [Act.put, List.setIfInBounds_toArray, List.set_cons_zero, List.set_cons_succ, i64_w, i32_w]
  rfl
 refine one_ (i := 15) (N := some 22) #[true, true, true, true, true, true, true, true, true, true, true, true, true, true, true, true, true, true, true, true, false, false, false, false] rfl rfl (one_of HT_.out (by kernel_rfl)) (by decide) (fun K hK => ?_)
 refine goes_ Try.func34 (by kernel_rfl) rfl #[.int .i64 a0_1, .int .i64 a1_1] (by rfl) rfl rfl (by (try simp only [List.map_toArray, List.map_cons, List.map_nil]); first | done | rfl | (simp only [List.length_drop, List.length_take]; rfl)) ?_
 with_reducible refine (zelligeref07_diff.calls k a0_1 a1_1 t476 t477 _ A7.out).mono ?_
 rintro e w21 ⟨v478, rfl, ho0, hb⟩
 refine ⟨_, rfl, ?_⟩
 have n0_ := Aside0.mk (Kd.R_elder' (by (with_reducible repeat (first | apply Kd.R_alloc | apply Kd.R_drewN | apply Kd.R_drew)); exact HO467.out) (Kd.R_base ho0) hb)
 have n1_ := Aside0.mk (Kd.R_elder' (by (with_reducible repeat (first | apply Kd.R_alloc | apply Kd.R_drewN | apply Kd.R_drew)); exact HO471.out) (Kd.R_base ho0) hb)
 have n2_ := Aside0.mk (Kd.R_elder' (by (with_reducible repeat (first | apply Kd.R_alloc | apply Kd.R_drewN | apply Kd.R_drew)); exact HO475.out) (Kd.R_base ho0) hb)
 have n3_ := Aside0.mk (Kd.R_lower (Kd.R_new' (Kd.R_new' (Kd.R_new' ho0 (Kd.R_lt (by (with_reducible repeat (first | apply Kd.R_alloc | apply Kd.R_drewN | apply Kd.R_drew)); exact HO467.out))) (Kd.R_lt (by (with_reducible repeat (first | apply Kd.R_alloc | apply Kd.R_drewN | apply Kd.R_drew)); exact HO471.out))) (Kd.R_lt (by (with_reducible repeat (first | apply Kd.R_alloc | apply Kd.R_drewN | apply Kd.R_drew)); exact HO475.out))) (below_size (by repeat (first | (with_reducible first | exact HB.out | apply below_alloc | apply pw_below_drewN | apply below_drew1 | refine below_set ?_ GE460.out | refine below_set ?_ GE461.out | refine below_set ?_ GE462.out | refine below_set ?_ GE463.out) | exact HB.out))))
 have n4_ := Aside0.mk (blk_below (g := gb460) (o := .cells #[.int .i64 a0_0, .int .i64 a0_1] 23 (0, 0)) (bk BK460.out) hb)
 have n5_ := Aside0.mk (blk_below (g := gb461) (o := .cells #[.int .i64 a1_0, .int .i64 a1_1] 23 (0, 0)) (bk BK461.out) hb)
 have n6_ := Aside0.mk (blk_below (g := gb462) (o := .cells #[.int .i64 a2_0, .int .i64 a2_1] 23 (0, 0)) (bk BK462.out) hb)
 have n7_ := Aside0.mk (blk_below (g := gb463) (o := .cells #[.int .i64 0, .slice none 0 0] 33 (0, 0)) (bk BK463.out) hb)
 have n8_ := Aside0.mk (below_step (by repeat (first | (with_reducible first | exact HB.out | apply below_alloc | apply pw_below_drewN | apply below_drew1 | refine below_set ?_ GE460.out | refine below_set ?_ GE461.out | refine below_set ?_ GE462.out | refine below_set ?_ GE463.out) | exact HB.out)) hb)
 clear HO467
 clear HO471
 clear HO475
 clear BK460
 clear BK461
 clear BK462
 clear BK463
 clear HB
 have HO467 := n0_
 have HO471 := n1_
 have HO475 := n2_
 have HO479 := n3_
 have BK460 := n4_
 have BK461 := n5_
 have BK462 := n6_
 have BK463 := n7_
 have HB := n8_
 clear n0_ n1_ n2_ n3_ n4_ n5_ n6_ n7_ n8_
 (try clear hb)
 (try clear hb2)
 (try clear hk)
 (try clear hi)
 (try clear ho0)
 refine hK.out _ _ ⟨(blk_cell BK460.out 0).trans rfl, (blk_cell BK460.out 1).trans rfl, (blk_cell BK461.out 0).trans rfl, (blk_cell BK461.out 1).trans rfl, (blk_cell BK462.out 0).trans rfl, (blk_cell BK462.out 1).trans rfl⟩ (fun hHeld => ?_)
 clear hK K
 refine norm_ (a' := ?_) ?_ ?_
 rotate_left
 ·show Act.put _ (some 22) _ = _
  simp only [Act.put, List.setIfInBounds_toArray, List.set_cons_zero, List.set_cons_succ, i64_w, i32_w]
  rfl
 refine one_ (i := 20) (N := some 27) #[true, true, true, true, true, true, true, true, true, true, true, true, true, true, true, true, true, true, true, true, true, false, false, false] rfl rfl (one_of HT_.out (by kernel_rfl)) (by decide) (fun K hK => ?_)
 refine goes_ Try.func34 (by kernel_rfl) rfl #[.int .i64 a0_0, .int .i64 a2_0] (by rfl) rfl rfl (by (try simp only [List.map_toArray, List.map_cons, List.map_nil]); first | done | rfl | (simp only [List.length_drop, List.length_take]; rfl)) ?_
 with_reducible refine (zelligeref07_diff.calls k a0_0 a2_0 t480 t481 _ A8.out).mono ?_
 rintro e w22 ⟨v482, rfl, ho0, hb⟩
 refine ⟨_, rfl, ?_⟩
 have n0_ := Aside0.mk (Kd.R_elder' (by (with_reducible repeat (first | apply Kd.R_alloc | apply Kd.R_drewN | apply Kd.R_drew)); exact HO467.out) (Kd.R_base ho0) hb)
 have n1_ := Aside0.mk (Kd.R_elder' (by (with_reducible repeat (first | apply Kd.R_alloc | apply Kd.R_drewN | apply Kd.R_drew)); exact HO471.out) (Kd.R_base ho0) hb)
 have n2_ := Aside0.mk (Kd.R_elder' (by (with_reducible repeat (first | apply Kd.R_alloc | apply Kd.R_drewN | apply Kd.R_drew)); exact HO475.out) (Kd.R_base ho0) hb)
 have n3_ := Aside0.mk (Kd.R_elder' (by (with_reducible repeat (first | apply Kd.R_alloc | apply Kd.R_drewN | apply Kd.R_drew)); exact HO479.out) (Kd.R_base ho0) hb)
 have n4_ := Aside0.mk (Kd.R_lower (Kd.R_new' (Kd.R_new' (Kd.R_new' (Kd.R_new' ho0 (Kd.R_lt (by (with_reducible repeat (first | apply Kd.R_alloc | apply Kd.R_drewN | apply Kd.R_drew)); exact HO467.out))) (Kd.R_lt (by (with_reducible repeat (first | apply Kd.R_alloc | apply Kd.R_drewN | apply Kd.R_drew)); exact HO471.out))) (Kd.R_lt (by (with_reducible repeat (first | apply Kd.R_alloc | apply Kd.R_drewN | apply Kd.R_drew)); exact HO475.out))) (Kd.R_lt (by (with_reducible repeat (first | apply Kd.R_alloc | apply Kd.R_drewN | apply Kd.R_drew)); exact HO479.out))) (below_size (by repeat (first | (with_reducible first | exact HB.out | apply below_alloc | apply pw_below_drewN | apply below_drew1 | refine below_set ?_ GE460.out | refine below_set ?_ GE461.out | refine below_set ?_ GE462.out | refine below_set ?_ GE463.out) | exact HB.out))))
 have n5_ := Aside0.mk (blk_below (g := gb460) (o := .cells #[.int .i64 a0_0, .int .i64 a0_1] 23 (0, 0)) (bk BK460.out) hb)
 have n6_ := Aside0.mk (blk_below (g := gb461) (o := .cells #[.int .i64 a1_0, .int .i64 a1_1] 23 (0, 0)) (bk BK461.out) hb)
 have n7_ := Aside0.mk (blk_below (g := gb462) (o := .cells #[.int .i64 a2_0, .int .i64 a2_1] 23 (0, 0)) (bk BK462.out) hb)
 have n8_ := Aside0.mk (blk_below (g := gb463) (o := .cells #[.int .i64 0, .slice none 0 0] 33 (0, 0)) (bk BK463.out) hb)
 have n9_ := Aside0.mk (below_step (by repeat (first | (with_reducible first | exact HB.out | apply below_alloc | apply pw_below_drewN | apply below_drew1 | refine below_set ?_ GE460.out | refine below_set ?_ GE461.out | refine below_set ?_ GE462.out | refine below_set ?_ GE463.out) | exact HB.out)) hb)
 clear HO467
 clear HO471
 clear HO475
 clear HO479
 clear BK460
 clear BK461
 clear BK462
 clear BK463
 clear HB
 have HO467 := n0_
 have HO471 := n1_
 have HO475 := n2_
 have HO479 := n3_
 have HO483 := n4_
 have BK460 := n5_
 have BK461 := n6_
 have BK462 := n7_
 have BK463 := n8_
 have HB := n9_
 clear n0_ n1_ n2_ n3_ n4_ n5_ n6_ n7_ n8_ n9_
 (try clear hb)
 (try clear hb2)
 (try clear hk)
 (try clear hi)
 (try clear ho0)
 obtain ⟨Ao23, co23, eo23⟩ := Kd.R_slice HO479.out
 (first | subst eo23 | (injection eo23 with f1_ f2_ f3_; have f4_ := f1_.symm; have f5_ := f3_.symm; clear f1_ f2_ f3_; subst f4_; subst f5_))
 obtain ⟨Ao24, co24, eo24⟩ := Kd.R_slice HO483.out
 (first | subst eo24 | (injection eo24 with f1_ f2_ f3_; have f4_ := f1_.symm; have f5_ := f3_.symm; clear f1_ f2_ f3_; subst f4_; subst f5_))
 refine hK.out _ _ ⟨(blk_cell BK460.out 0).trans rfl, (blk_cell BK460.out 1).trans rfl, (blk_cell BK461.out 0).trans rfl, (blk_cell BK461.out 1).trans rfl, (blk_cell BK462.out 0).trans rfl, (blk_cell BK462.out 1).trans rfl⟩ (fun hHeld => ?_)
 clear hK K
 refine norm_ (a' := ?_) ?_ ?_
 rotate_left
 ·show Act.put _ (some 27) _ = _
  simp only [Act.put, List.setIfInBounds_toArray, List.set_cons_zero, List.set_cons_succ, i64_w, i32_w]
  rfl
 refine one_ (i := 21) (N := some 28) #[true, true, true, true, true, true, true, true, true, true, true, true, true, true, true, true, true, true, true, true, true, true, false, false] rfl rfl (one_of HT_.out (by kernel_rfl)) (by decide) (fun K hK => ?_)
 refine goes_ Try.func35 (by kernel_rfl) rfl #[.agg #[.int .i64 t476, .slice Ao23 t477.length co23], .agg #[.int .i64 t480, .slice Ao24 t481.length co24]] (by rfl) rfl rfl (by (try simp only [List.map_toArray, List.map_cons, List.map_nil]); first | done | rfl | (simp only [List.length_drop, List.length_take]; rfl)) ?_
 with_reducible refine (zelligeref04_Mul.calls k t476 _ _ t477 t480 _ _ t481 t484 t485 _ ?side1 ?side2 ?side3 ?side4 A9.out).mono ?_
 (case side1 => repeat (first | exact (Kd.R_reads' HO479.out).2.2 | (with_reducible refine Kd.C_alloc ?_ _) | (with_reducible refine Kd.C_drewN ?_ _) | (with_reducible refine Kd.C_drew ?_)))
 (case side2 => exact (Kd.R_reads' HO479.out).2.1)
 (case side3 => repeat (first | exact (Kd.R_reads' HO483.out).2.2 | (with_reducible refine Kd.C_alloc ?_ _) | (with_reducible refine Kd.C_drewN ?_ _) | (with_reducible refine Kd.C_drew ?_)))
 (case side4 => exact (Kd.R_reads' HO483.out).2.1)
 rintro e w25 ⟨v486, rfl, ho0, hb⟩
 refine ⟨_, rfl, ?_⟩
 have n0_ := Aside0.mk (Kd.R_elder' (by (with_reducible repeat (first | apply Kd.R_alloc | apply Kd.R_drewN | apply Kd.R_drew)); exact HO467.out) (Kd.R_base ho0) hb)
 have n1_ := Aside0.mk (Kd.R_elder' (by (with_reducible repeat (first | apply Kd.R_alloc | apply Kd.R_drewN | apply Kd.R_drew)); exact HO471.out) (Kd.R_base ho0) hb)
 have n2_ := Aside0.mk (Kd.R_elder' (by (with_reducible repeat (first | apply Kd.R_alloc | apply Kd.R_drewN | apply Kd.R_drew)); exact HO475.out) (Kd.R_base ho0) hb)
 have n3_ := Aside0.mk (Kd.R_elder' (by (with_reducible repeat (first | apply Kd.R_alloc | apply Kd.R_drewN | apply Kd.R_drew)); exact HO479.out) (Kd.R_base ho0) hb)
 have n4_ := Aside0.mk (Kd.R_elder' (by (with_reducible repeat (first | apply Kd.R_alloc | apply Kd.R_drewN | apply Kd.R_drew)); exact HO483.out) (Kd.R_base ho0) hb)
 have n5_ := Aside0.mk (Kd.R_lower (Kd.R_new' (Kd.R_new' (Kd.R_new' (Kd.R_new' (Kd.R_new' ho0 (Kd.R_lt (by (with_reducible repeat (first | apply Kd.R_alloc | apply Kd.R_drewN | apply Kd.R_drew)); exact HO467.out))) (Kd.R_lt (by (with_reducible repeat (first | apply Kd.R_alloc | apply Kd.R_drewN | apply Kd.R_drew)); exact HO471.out))) (Kd.R_lt (by (with_reducible repeat (first | apply Kd.R_alloc | apply Kd.R_drewN | apply Kd.R_drew)); exact HO475.out))) (Kd.R_lt (by (with_reducible repeat (first | apply Kd.R_alloc | apply Kd.R_drewN | apply Kd.R_drew)); exact HO479.out))) (Kd.R_lt (by (with_reducible repeat (first | apply Kd.R_alloc | apply Kd.R_drewN | apply Kd.R_drew)); exact HO483.out))) (below_size (by repeat (first | (with_reducible first | exact HB.out | apply below_alloc | apply pw_below_drewN | apply below_drew1 | refine below_set ?_ GE460.out | refine below_set ?_ GE461.out | refine below_set ?_ GE462.out | refine below_set ?_ GE463.out) | exact HB.out))))
 have n6_ := Aside0.mk (blk_below (g := gb460) (o := .cells #[.int .i64 a0_0, .int .i64 a0_1] 23 (0, 0)) (bk BK460.out) hb)
 have n7_ := Aside0.mk (blk_below (g := gb461) (o := .cells #[.int .i64 a1_0, .int .i64 a1_1] 23 (0, 0)) (bk BK461.out) hb)
 have n8_ := Aside0.mk (blk_below (g := gb462) (o := .cells #[.int .i64 a2_0, .int .i64 a2_1] 23 (0, 0)) (bk BK462.out) hb)
 have n9_ := Aside0.mk (blk_below (g := gb463) (o := .cells #[.int .i64 0, .slice none 0 0] 33 (0, 0)) (bk BK463.out) hb)
 have n10_ := Aside0.mk (below_step (by repeat (first | (with_reducible first | exact HB.out | apply below_alloc | apply pw_below_drewN | apply below_drew1 | refine below_set ?_ GE460.out | refine below_set ?_ GE461.out | refine below_set ?_ GE462.out | refine below_set ?_ GE463.out) | exact HB.out)) hb)
 clear HO467
 clear HO471
 clear HO475
 clear HO479
 clear HO483
 clear BK460
 clear BK461
 clear BK462
 clear BK463
 clear HB
 have HO467 := n0_
 have HO471 := n1_
 have HO475 := n2_
 have HO479 := n3_
 have HO483 := n4_
 have HO487 := n5_
 have BK460 := n6_
 have BK461 := n7_
 have BK462 := n8_
 have BK463 := n9_
 have HB := n10_
 clear n0_ n1_ n2_ n3_ n4_ n5_ n6_ n7_ n8_ n9_ n10_
 (try clear hb)
 (try clear hb2)
 (try clear hk)
 (try clear hi)
 (try clear ho0)
 obtain ⟨Ao26, co26, eo26⟩ := Kd.R_slice HO475.out
 (first | subst eo26 | (injection eo26 with f1_ f2_ f3_; have f4_ := f1_.symm; have f5_ := f3_.symm; clear f1_ f2_ f3_; subst f4_; subst f5_))
 obtain ⟨Ao27, co27, eo27⟩ := Kd.R_slice HO487.out
 (first | subst eo27 | (injection eo27 with f1_ f2_ f3_; have f4_ := f1_.symm; have f5_ := f3_.symm; clear f1_ f2_ f3_; subst f4_; subst f5_))
 refine hK.out _ _ ⟨(blk_cell BK460.out 0).trans rfl, (blk_cell BK460.out 1).trans rfl, (blk_cell BK461.out 0).trans rfl, (blk_cell BK461.out 1).trans rfl, (blk_cell BK462.out 0).trans rfl, (blk_cell BK462.out 1).trans rfl⟩ (fun hHeld => ?_)
 clear hK K
 refine norm_ (a' := ?_) ?_ ?_
 rotate_left
 ·show Act.put _ (some 28) _ = _
  simp only [Act.put, List.setIfInBounds_toArray, List.set_cons_zero, List.set_cons_succ, i64_w, i32_w]
  rfl
 refine one_ (i := 22) (N := some 29) #[true, true, true, true, true, true, true, true, true, true, true, true, true, true, true, true, true, true, true, true, true, true, true, false] rfl rfl (one_of HT_.out (by kernel_rfl)) (by decide) (fun K hK => ?_)
 refine goes_ Try.func36 (by kernel_rfl) rfl #[.agg #[.int .i64 t472, .slice Ao26 t473.length co26], .agg #[.int .i64 t484, .slice Ao27 t485.length co27]] (by rfl) rfl rfl (by (try simp only [List.map_toArray, List.map_cons, List.map_nil]); first | done | rfl | (simp only [List.length_drop, List.length_take]; rfl)) ?_
 with_reducible refine (zelligeref04_Sub.calls k t472 (fun k_ => some k_ = (.slice Ao26 t473.length co26 : Value).ownBlock) (.slice Ao26 t473.length co26) t473 t484 (fun k_ => some k_ = (.slice Ao27 t485.length co27 : Value).ownBlock) (.slice Ao27 t485.length co27) t485 t488 t489 w _ ?side1 ?side2 ?side3 ?side4 ?side5 A10.out).mono ?_
 (case side1 => repeat (first | (with_reducible first | exact HB.out | apply below_alloc | apply pw_below_drewN | apply below_drew1 | refine below_set ?_ GE460.out | refine below_set ?_ GE461.out | refine below_set ?_ GE462.out | refine below_set ?_ GE463.out) | exact HB.out))
 (case side2 => exact Kd.R_tight rfl HO475.out)
 (case side3 => exact fun k_ e_ => (HO475.out.1 k_ e_.symm).2)
 (case side4 => exact Kd.R_tight rfl HO487.out)
 (case side5 => exact fun k_ e_ => (HO487.out.1 k_ e_.symm).1.1.2)
 rintro e w28 ⟨v490, rfl, ho0, hb, hkp⟩
 refine ⟨_, rfl, ?_⟩
 have n0_ := Aside0.mk (blk_kept (bk BK460.out) hkp (fun hs_ => Or.elim hs_ (fun e_ => (fun e_ => (Kd.R_ne HO475.out BK460.out (by decide)) e_) e_) (fun e_ => (fun e_ => (Kd.R_ne HO487.out BK460.out (by decide)) e_) e_)))
 have n1_ := Aside0.mk (blk_kept (bk BK461.out) hkp (fun hs_ => Or.elim hs_ (fun e_ => (fun e_ => (Kd.R_ne HO475.out BK461.out (by decide)) e_) e_) (fun e_ => (fun e_ => (Kd.R_ne HO487.out BK461.out (by decide)) e_) e_)))
 have n2_ := Aside0.mk (blk_kept (bk BK462.out) hkp (fun hs_ => Or.elim hs_ (fun e_ => (fun e_ => (Kd.R_ne HO475.out BK462.out (by decide)) e_) e_) (fun e_ => (fun e_ => (Kd.R_ne HO487.out BK462.out (by decide)) e_) e_)))
 have n3_ := Aside0.mk (blk_kept (bk BK463.out) hkp (fun hs_ => Or.elim hs_ (fun e_ => (fun e_ => (Kd.R_ne HO475.out BK463.out (by decide)) e_) e_) (fun e_ => (fun e_ => (Kd.R_ne HO487.out BK463.out (by decide)) e_) e_)))
 have n4_ := Aside0.mk (Kd.R_mono (ok' := fun k_ => some k_ ≠ (.slice Ao19 t469.length co19 : Value).ownBlock ∧ some k_ ≠ (.slice Ao23 t477.length co23 : Value).ownBlock ∧ some k_ ≠ (.slice Ao24 t481.length co24 : Value).ownBlock ∧ some k_ ≠ (v490 : Value).ownBlock) (Kd.R_keptB (HO467.out) hkp (fun k_ hk_ hs_ => Or.elim hs_ (fun e_ => (hk_.1.1.1.2) e_) (fun e_ => (hk_.2) e_))) (fun k_ hk_ => ⟨hk_.1.1.1.1.1.2, hk_.1.1.1.2, hk_.1.1.2, fun e_ => Or.elim (ho0.1 k_ e_.symm) (fun hs_ => hk_.2.1 hs_) (fun hn_ => Nat.not_le.2 hk_.2.2 hn_)⟩))
 have n5_ := Aside0.mk (Kd.R_mono (ok' := fun k_ => some k_ ≠ (.slice Ao18 t465.length co18 : Value).ownBlock ∧ some k_ ≠ (.slice Ao23 t477.length co23 : Value).ownBlock ∧ some k_ ≠ (.slice Ao24 t481.length co24 : Value).ownBlock ∧ some k_ ≠ (v490 : Value).ownBlock) (Kd.R_keptB (HO471.out) hkp (fun k_ hk_ hs_ => Or.elim hs_ (fun e_ => (hk_.1.1.1.2) e_) (fun e_ => (hk_.2) e_))) (fun k_ hk_ => ⟨hk_.1.1.1.1.1.2, hk_.1.1.1.2, hk_.1.1.2, fun e_ => Or.elim (ho0.1 k_ e_.symm) (fun hs_ => hk_.2.1 hs_) (fun hn_ => Nat.not_le.2 hk_.2.2 hn_)⟩))
 have n6_ := Aside0.mk (Kd.R_mono (ok' := fun k_ => some k_ ≠ (.slice Ao18 t465.length co18 : Value).ownBlock ∧ some k_ ≠ (.slice Ao19 t469.length co19 : Value).ownBlock ∧ some k_ ≠ (.slice Ao24 t481.length co24 : Value).ownBlock ∧ some k_ ≠ (v490 : Value).ownBlock) (Kd.R_keptB (HO479.out) hkp (fun k_ hk_ hs_ => Or.elim hs_ (fun e_ => (hk_.1.1.2) e_) (fun e_ => (hk_.2) e_))) (fun k_ hk_ => ⟨hk_.1.1.1.1.1.2, hk_.1.1.1.1.2, hk_.1.1.2, fun e_ => Or.elim (ho0.1 k_ e_.symm) (fun hs_ => hk_.2.1 hs_) (fun hn_ => Nat.not_le.2 hk_.2.2 hn_)⟩))
 have n7_ := Aside0.mk (Kd.R_mono (ok' := fun k_ => some k_ ≠ (.slice Ao18 t465.length co18 : Value).ownBlock ∧ some k_ ≠ (.slice Ao19 t469.length co19 : Value).ownBlock ∧ some k_ ≠ (.slice Ao23 t477.length co23 : Value).ownBlock ∧ some k_ ≠ (v490 : Value).ownBlock) (Kd.R_keptB (HO483.out) hkp (fun k_ hk_ hs_ => Or.elim hs_ (fun e_ => (hk_.1.1.2) e_) (fun e_ => (hk_.2) e_))) (fun k_ hk_ => ⟨hk_.1.1.1.1.1.2, hk_.1.1.1.1.2, hk_.1.1.2, fun e_ => Or.elim (ho0.1 k_ e_.symm) (fun hs_ => hk_.2.1 hs_) (fun hn_ => Nat.not_le.2 hk_.2.2 hn_)⟩))
 have n8_ := Aside0.mk (Kd.R_mono (ok' := fun k_ => some k_ ≠ (.slice Ao18 t465.length co18 : Value).ownBlock ∧ some k_ ≠ (.slice Ao19 t469.length co19 : Value).ownBlock ∧ some k_ ≠ (.slice Ao23 t477.length co23 : Value).ownBlock ∧ some k_ ≠ (.slice Ao24 t481.length co24 : Value).ownBlock) ho0 (fun k_ hk_ => ⟨Or.elim hk_ (fun hs_ => Or.elim hs_ (fun hs_ => fun e_ => (((HO467.out).1 k_ e_.symm).1.1.1.2) hs_) (fun hs_ => fun e_ => (((HO467.out).1 k_ e_.symm).2) hs_)) (fun hn_ => (Kd.fresh' (Kd.R_lt (by (with_reducible repeat (first | apply Kd.R_alloc | apply Kd.R_drewN | apply Kd.R_drew)); exact HO467.out)) k_ hn_)), Or.elim hk_ (fun hs_ => Or.elim hs_ (fun hs_ => fun e_ => (((HO471.out).1 k_ e_.symm).1.1.1.2) hs_) (fun hs_ => fun e_ => (((HO471.out).1 k_ e_.symm).2) hs_)) (fun hn_ => (Kd.fresh' (Kd.R_lt (by (with_reducible repeat (first | apply Kd.R_alloc | apply Kd.R_drewN | apply Kd.R_drew)); exact HO471.out)) k_ hn_)), Or.elim hk_ (fun hs_ => Or.elim hs_ (fun hs_ => fun e_ => (((HO479.out).1 k_ e_.symm).1.1.2) hs_) (fun hs_ => fun e_ => (((HO479.out).1 k_ e_.symm).2) hs_)) (fun hn_ => (Kd.fresh' (Kd.R_lt (by (with_reducible repeat (first | apply Kd.R_alloc | apply Kd.R_drewN | apply Kd.R_drew)); exact HO479.out)) k_ hn_)), Or.elim hk_ (fun hs_ => Or.elim hs_ (fun hs_ => fun e_ => (((HO483.out).1 k_ e_.symm).1.1.2) hs_) (fun hs_ => fun e_ => (((HO483.out).1 k_ e_.symm).2) hs_)) (fun hn_ => (Kd.fresh' (Kd.R_lt (by (with_reducible repeat (first | apply Kd.R_alloc | apply Kd.R_drewN | apply Kd.R_drew)); exact HO483.out)) k_ hn_))⟩))
 have n9_ := Aside0.mk (hb)
 clear BK460
 clear BK461
 clear BK462
 clear BK463
 clear HO467
 clear HO471
 clear HO479
 clear HO483
 clear HB
 clear HO475
 clear HO487
 have BK460 := n0_
 have BK461 := n1_
 have BK462 := n2_
 have BK463 := n3_
 have HO467 := n4_
 have HO471 := n5_
 have HO479 := n6_
 have HO483 := n7_
 have HO491 := n8_
 have HB := n9_
 clear n0_ n1_ n2_ n3_ n4_ n5_ n6_ n7_ n8_ n9_
 (try clear hb)
 (try clear hkp)
 (try clear ho0)
 obtain ⟨Ao30, co30, eo30⟩ := Kd.R_slice HO491.out
 (first | subst eo30 | (injection eo30 with f1_ f2_ f3_; have f4_ := f1_.symm; have f5_ := f3_.symm; clear f1_ f2_ f3_; subst f4_; subst f5_))
 refine hK.out _ _ ⟨(blk_cell BK460.out 0).trans rfl, (blk_cell BK460.out 1).trans rfl, (blk_cell BK461.out 0).trans rfl, (blk_cell BK461.out 1).trans rfl, (blk_cell BK462.out 0).trans rfl, (blk_cell BK462.out 1).trans rfl⟩ (fun hHeld => ?_)
 clear hK K
 refine norm_ (a' := ?_) ?_ ?_
 rotate_left
 ·show Act.put _ (some 29) _ = _
  simp only [Act.put, List.setIfInBounds_toArray, List.set_cons_zero, List.set_cons_succ, i64_w, i32_w]
  rfl
 refine one_ (i := 23) (N := none) #[true, true, true, true, true, true, true, true, true, true, true, true, true, true, true, true, true, true, true, true, true, true, true, true] rfl rfl (one_of HT_.out (by kernel_rfl)) (by decide) (fun K hK => ?_)
 have hs29 : w28.cell? ⟨gb463, 0, none⟩ = some (.int .i64 0) := (blk_cell BK463.out 0).trans rfl
 have hfs29 := blk_frozen BK463.out 0
 have hns29_0 := NB460_463.out
 have hns29_1 := NB461_463.out
 have hns29_2 := NB462_463.out
 have hms29_0 := NB463_460.out
 have hms29_1 := NB463_461.out
 have hms29_2 := NB463_462.out
 have hs31 : w28.cell? ⟨gb463, 1, none⟩ = some (.slice none 0 0) := (blk_cell BK463.out 1).trans rfl
 have hfs31 := blk_frozen BK463.out 1
 have hns31_0 := NB460_463.out
 have hns31_1 := NB461_463.out
 have hns31_2 := NB462_463.out
 have hms31_0 := NB463_460.out
 have hms31_1 := NB463_461.out
 have hms31_2 := NB463_462.out
 refine skip_ (w1 := ?_) (by rfl) rfl ?_ ?_
 rotate_left
 ·go_simp
  rfl
 refine hK.out _ _ ⟨((cell_far (p := ⟨gb463, _, none⟩) NB460_463.out _).trans (((cell_far (p := ⟨gb463, _, none⟩) NB460_463.out _).trans (hHeld.1)))), ((cell_far (p := ⟨gb463, _, none⟩) NB460_463.out _).trans (((cell_far (p := ⟨gb463, _, none⟩) NB460_463.out _).trans (hHeld.2.1)))), ((cell_far (p := ⟨gb463, _, none⟩) NB461_463.out _).trans (((cell_far (p := ⟨gb463, _, none⟩) NB461_463.out _).trans (hHeld.2.2.1)))), ((cell_far (p := ⟨gb463, _, none⟩) NB461_463.out _).trans (((cell_far (p := ⟨gb463, _, none⟩) NB461_463.out _).trans (hHeld.2.2.2.1)))), ((cell_far (p := ⟨gb463, _, none⟩) NB462_463.out _).trans (((cell_far (p := ⟨gb463, _, none⟩) NB462_463.out _).trans (hHeld.2.2.2.2.1)))), ((cell_far (p := ⟨gb463, _, none⟩) NB462_463.out _).trans (((cell_far (p := ⟨gb463, _, none⟩) NB462_463.out _).trans (hHeld.2.2.2.2.2))))⟩ (fun hHeld => ?_)
 clear hK K
 refine done_ (done_of HT_.out (by kernel_rfl)) ?_
 try go_wp2
 refine bodyPost_ret (results_cell_row rfl _ _ gb463 33 #[.int .i64 t488, .slice Ao30 t489.length co30] (0, 0) _ rfl (by (with_reducible repeat (first | refine blk_drewN ?_ _ | refine blk_drew ?_ | refine blk_alloc ?_ _)); refine blk_put (cs := #[.int .i64 t488, .slice none 0 0]) ?_ 1 _ rfl; (with_reducible repeat (first | refine blk_drewN ?_ _ | refine blk_drew ?_ | refine blk_alloc ?_ _)); refine blk_put (cs := #[.int .i64 0, .slice none 0 0]) ?_ 0 _ rfl; (with_reducible repeat (first | refine blk_drewN ?_ _ | refine blk_drew ?_ | refine blk_alloc ?_ _)); exact BK463.out) Try.underlying33 rfl (by kernel_rfl)) rfl ?_
 exact ⟨_, by first | rfl | (simp [errW_none, errW_some] <;> rfl) | (simp [*, errW_none, errW_some] <;> rfl), by (with_reducible repeat (first | apply Kd.R_alloc | apply Kd.R_drewN | apply Kd.R_drew)); exact Kd.R_mono (Kd.R_far (p := ⟨gb463, 1, none⟩) (Kd.R_far (p := ⟨gb463, 0, none⟩) (Kd.R_types HO491.out BK463.out (by decide)) (fun _ hk => hk.2) (.int .i64 t488)) (fun _ hk => hk.2) (.slice Ao30 t489.length co30)) (fun _ hk => trivial), by repeat (first | (with_reducible first | exact HB.out | apply below_alloc | apply pw_below_drewN | apply below_drew1 | refine below_set ?_ GE460.out | refine below_set ?_ GE461.out | refine below_set ?_ GE462.out | refine below_set ?_ GE463.out) | exact HB.out)⟩
end Go.Proofs.Ytmeckkckjikjiaa.F
end
section
namespace Go.Proofs.Ytmeckkckjikjiaa.F
open Go.RowKit Go.Proofs.YtmeckkckjikjiaaW.PrintWords Go.Proofs.YtmeckkckjikjiaaW.PrintLast Go.Proofs.YtmeckkckjikjiaaW.PrintMore
attribute [local go_sem] max2_int min2_int max_two min_two max_three min_three max_four min_four
set_option linter.unusedVariables false
set_option linter.unusedSimpArgs false
def zelligeref07_Orient.j0 : Nat → Bool → Int → Int → Int → Int → Int → Int → Option (Int)
 | 0, _, _, _, _, _, _, _ => none
 | k + 1, x14, x493000, x493001, x494000, x494001, x495000, x495001 => if x14 = true then ((zelligeref07_sign.f (wrap64 ((wrap64 ((wrap64 (x494000 - x493000)) * (wrap64 (x495001 - x493001)))) - (wrap64 ((wrap64 (x494001 - x493001)) * (wrap64 (x495000 - x493000))))))).bind fun t497 => (some t497)) else ((zelligeref07_Area.f k x493000 x493001 x494000 x494001 x495000 x495001).bind fun bt498 => (some bt498.1))
def zelligeref07_Orient.f (k : Nat) (a0_0 : Int) (a0_1 : Int) (a1_0 : Int) (a1_1 : Int) (a2_0 : Int) (a2_1 : Int) : Option (Int) := (zelligeref07_near.f a0_0 a0_1 a1_0 a1_1).bind fun t495 => (if t495 = true then ((zelligeref07_near.f a0_0 a0_1 a2_0 a2_1).bind fun t496 => (zelligeref07_Orient.j0 k t496 a0_0 a0_1 a1_0 a1_1 a2_0 a2_1)) else (zelligeref07_Orient.j0 k false a0_0 a0_1 a1_0 a1_1 a2_0 a2_1))
theorem zelligeref07_Orient.mono_l : ∀ k, (∀ y0 y1 y2 y3 y4 y5 y6, LeO (zelligeref07_Orient.j0 k y0 y1 y2 y3 y4 y5 y6) (zelligeref07_Orient.j0 (k + 1) y0 y1 y2 y3 y4 y5 y6))
 | 0 => fun _ _ _ _ _ _ _ r h => by simp [zelligeref07_Orient.j0] at h
 | k + 1 => by
  have ih0 := zelligeref07_Orient.mono_l k
  ·intro y0 y1 y2 y3 y4 y5 y6
   unfold zelligeref07_Orient.j0
   repeat' first
   | (with_reducible exact ih0 _ _ _ _ _ _ _)
   | (with_reducible exact zelligeref07_Area.mono _ _ _ _ _ _ _)
   | (with_reducible exact LeO.refl _)
   | (with_reducible exact LeO.none _)
   | (with_reducible refine LeO.ite ?_ ?_)
   | (with_reducible refine LeO.bind ?_ (fun _ => ?_))
   | exact ih0 _ _ _ _ _ _ _
   | exact zelligeref07_Area.mono _ _ _ _ _ _ _
   | exact LeO.none _
   | refine LeO.ite ?_ ?_
   | refine LeO.bind ?_ (fun _ => ?_)
theorem zelligeref07_Orient.mono : ∀ a0 a1 a2 a3 a4 a5 k, LeO (zelligeref07_Orient.f k a0 a1 a2 a3 a4 a5) (zelligeref07_Orient.f (k + 1) a0 a1 a2 a3 a4 a5) := by
 intro a0 a1 a2 a3 a4 a5 k
 have ih0 := zelligeref07_Orient.mono_l k
 unfold zelligeref07_Orient.f
 repeat' first
   | (with_reducible exact ih0 _ _ _ _ _ _ _)
   | (with_reducible exact zelligeref07_Area.mono _ _ _ _ _ _ _)
   | (with_reducible exact LeO.refl _)
   | (with_reducible exact LeO.none _)
   | (with_reducible refine LeO.ite ?_ ?_)
   | (with_reducible refine LeO.bind ?_ (fun _ => ?_))
   | exact ih0 _ _ _ _ _ _ _
   | exact zelligeref07_Area.mono _ _ _ _ _ _ _
   | exact LeO.none _
   | refine LeO.ite ?_ ?_
   | refine LeO.bind ?_ (fun _ => ?_)
set_option maxHeartbeats 8000000 in
set_option maxRecDepth 100000 in
theorem zelligeref07_Orient.calls (k : Nat) (a0_0 : Int) (a0_1 : Int) (a1_0 : Int) (a1_1 : Int) (a2_0 : Int) (a2_1 : Int) (r : Int) (w : World) (h : zelligeref07_Orient.f k a0_0 a0_1 a1_0 a1_1 a2_0 a2_1 = some r) :
  Calls Try.prog 21 #[.agg #[.int .i64 a0_0, .int .i64 a0_1], .agg #[.int .i64 a1_0, .int .i64 a1_1], .agg #[.int .i64 a2_0, .int .i64 a2_1]] w fun e w' => e = .returned (.int .i64 r) ∧ Below w.heap.size w w' := by
 have hu23 := Try.underlying23
 have fs_ : ∀ (q : Int) (v : Value) (W : World), (Instr.field 33 (.agg #[.int .i64 q, v]) 0).run Try.prog W = .ok (.int .i64 q) W := fun q v W => by kernel_rfl
 have HB := Aside0.mk (Below.refl w.heap.size w)
 have H : ((zelligeref07_near.f a0_0 a0_1 a1_0 a1_1).bind fun t495 => (if t495 = true then ((zelligeref07_near.f a0_0 a0_1 a2_0 a2_1).bind fun t496 => (zelligeref07_Orient.j0 k t496 a0_0 a0_1 a1_0 a1_1 a2_0 a2_1)) else (zelligeref07_Orient.j0 k false a0_0 a0_1 a1_0 a1_1 a2_0 a2_1))) = some r := h
 clear h
 have HC4 := Aside0.mk H
 clear H
 go_enter Try.func21, Try.ntmps21
 go_upto_region 1 with (first | ((with_reducible refine gate_dst (N := 3) rfl ?_); refine box_event ?hg (N := 3) ?hd (cs := #[.int .i64 a0_0, .int .i64 a0_1]) (t := 23) ?hr ?_; (case hd => rfl); (case hg => rfl); (case hr => first | (go_simp; done) | (go_simp; rfl)); intro gb492 hg w5 hbox hb; have n0_ := Aside0.mk (below_step (bw HB.out) hb); have n1_ := Aside0.mk (hbox); have n2_ := Aside0.mk ((by rw [hg]; exact (below_size (bw HB.out)) : w.heap.size ≤ gb492)); have n3_ := Aside0.mk ((by rw [hg]; exact (below_size (bw HB.out)) : w.heap.size ≤ gb492)); clear HB; have HB := n0_; have BK492 := n1_; have GW492 := n2_; have GE492 := n3_; clear n0_ n1_ n2_ n3_; clear hb hbox hg) | ((with_reducible refine gate_dst (N := 4) rfl ?_); refine box_event ?hg (N := 4) ?hd (cs := #[.int .i64 a1_0, .int .i64 a1_1]) (t := 23) ?hr ?_; (case hd => rfl); (case hg => rfl); (case hr => first | (go_simp; done) | (go_simp; rfl)); intro gb493 hg w6 hbox hb; have n0_ := Aside0.mk (blk_below (g := gb492) (o := .cells #[.int .i64 a0_0, .int .i64 a0_1] 23 (0, 0)) (bk BK492.out) hb); have n1_ := Aside0.mk (below_step (by repeat (first | (with_reducible first | exact HB.out | apply below_alloc | apply pw_below_drewN | apply below_drew1 | refine below_set ?_ GE492.out) | exact HB.out)) hb); have n2_ := Aside0.mk (hbox); have n3_ := Aside0.mk ((by rw [hg]; exact (below_size (by repeat (first | (with_reducible first | exact HB.out | apply below_alloc | apply pw_below_drewN | apply below_drew1 | refine below_set ?_ GE492.out) | exact HB.out))) : w.heap.size ≤ gb493)); have n4_ := Aside0.mk ((by rw [hg]; exact (below_size (by repeat (first | (with_reducible first | exact HB.out | apply below_alloc | apply pw_below_drewN | apply below_drew1 | refine below_set ?_ GE492.out) | exact HB.out))) : w.heap.size ≤ gb493)); have n5_ := Aside0.mk ((by rw [hg]; exact Nat.ne_of_lt (blk_lt (g := gb492) (o := .cells #[.int .i64 a0_0, .int .i64 a0_1] 23 (0, 0)) (bk BK492.out)) : gb492 ≠ gb493)); have n6_ := Aside0.mk ((by rw [hg]; exact Nat.ne_of_gt (blk_lt (g := gb492) (o := .cells #[.int .i64 a0_0, .int .i64 a0_1] 23 (0, 0)) (bk BK492.out)) : gb493 ≠ gb492)); clear BK492; clear HB; have BK492 := n0_; have HB := n1_; have BK493 := n2_; have GW493 := n3_; have GE493 := n4_; have NB492_493 := n5_; have NB493_492 := n6_; clear n0_ n1_ n2_ n3_ n4_ n5_ n6_; clear hb hbox hg) | ((with_reducible refine gate_dst (N := 5) rfl ?_); refine box_event ?hg (N := 5) ?hd (cs := #[.int .i64 a2_0, .int .i64 a2_1]) (t := 23) ?hr ?_; (case hd => rfl); (case hg => rfl); (case hr => first | (go_simp; done) | (go_simp; rfl)); intro gb494 hg w7 hbox hb; have n0_ := Aside0.mk (blk_below (g := gb492) (o := .cells #[.int .i64 a0_0, .int .i64 a0_1] 23 (0, 0)) (bk BK492.out) hb); have n1_ := Aside0.mk (blk_below (g := gb493) (o := .cells #[.int .i64 a1_0, .int .i64 a1_1] 23 (0, 0)) (bk BK493.out) hb); have n2_ := Aside0.mk (below_step (by repeat (first | (with_reducible first | exact HB.out | apply below_alloc | apply pw_below_drewN | apply below_drew1 | refine below_set ?_ GE492.out | refine below_set ?_ GE493.out) | exact HB.out)) hb); have n3_ := Aside0.mk (hbox); have n4_ := Aside0.mk ((by rw [hg]; exact (below_size (by repeat (first | (with_reducible first | exact HB.out | apply below_alloc | apply pw_below_drewN | apply below_drew1 | refine below_set ?_ GE492.out | refine below_set ?_ GE493.out) | exact HB.out))) : w.heap.size ≤ gb494)); have n5_ := Aside0.mk ((by rw [hg]; exact (below_size (by repeat (first | (with_reducible first | exact HB.out | apply below_alloc | apply pw_below_drewN | apply below_drew1 | refine below_set ?_ GE492.out | refine below_set ?_ GE493.out) | exact HB.out))) : w.heap.size ≤ gb494)); have n6_ := Aside0.mk ((by rw [hg]; exact Nat.ne_of_lt (blk_lt (g := gb492) (o := .cells #[.int .i64 a0_0, .int .i64 a0_1] 23 (0, 0)) (bk BK492.out)) : gb492 ≠ gb494)); have n7_ := Aside0.mk ((by rw [hg]; exact Nat.ne_of_gt (blk_lt (g := gb492) (o := .cells #[.int .i64 a0_0, .int .i64 a0_1] 23 (0, 0)) (bk BK492.out)) : gb494 ≠ gb492)); have n8_ := Aside0.mk ((by rw [hg]; exact Nat.ne_of_lt (blk_lt (g := gb493) (o := .cells #[.int .i64 a1_0, .int .i64 a1_1] 23 (0, 0)) (bk BK493.out)) : gb493 ≠ gb494)); have n9_ := Aside0.mk ((by rw [hg]; exact Nat.ne_of_gt (blk_lt (g := gb493) (o := .cells #[.int .i64 a1_0, .int .i64 a1_1] 23 (0, 0)) (bk BK493.out)) : gb494 ≠ gb493)); clear BK492; clear BK493; clear HB; have BK492 := n0_; have BK493 := n1_; have HB := n2_; have BK494 := n3_; have GW494 := n4_; have GE494 := n5_; have NB492_494 := n6_; have NB494_492 := n7_; have NB493_494 := n8_; have NB494_493 := n9_; clear n0_ n1_ n2_ n3_ n4_ n5_ n6_ n7_ n8_ n9_; clear hb hbox hg))
 (try simp only [Act.put, List.setIfInBounds_toArray, List.set_cons_zero, List.set_cons_succ])
 go_cut [14] (fun v14 wc => ∃ (kq : Nat) (x14_3 : Bool), v14 = .bool x14_3 ∧ Aside0 (zelligeref07_Orient.j0 kq x14_3 a0_0 a0_1 a1_0 a1_1 a2_0 a2_1 = some r) ∧ Aside0 (kq ≤ k) ∧ Aside0 (wc.heap[gb492]? = some (.cells #[.int .i64 a0_0, .int .i64 a0_1] 23 (0, 0))) ∧ Aside0 (wc.heap[gb493]? = some (.cells #[.int .i64 a1_0, .int .i64 a1_1] 23 (0, 0))) ∧ Aside0 (wc.heap[gb494]? = some (.cells #[.int .i64 a2_0, .int .i64 a2_1] 23 (0, 0))) ∧ Aside0 (Below w.heap.size w wc))
 case first =>
  have H := HC4.out
  clear HC4
  replace H := Option.bind_eq_some_iff.mp H
  obtain ⟨t495, A80, H⟩ := H
  replace H : (if t495 = true then ((zelligeref07_near.f a0_0 a0_1 a2_0 a2_1).bind fun t496 => (zelligeref07_Orient.j0 k t496 a0_0 a0_1 a1_0 a1_1 a2_0 a2_1)) else (zelligeref07_Orient.j0 k false a0_0 a0_1 a1_0 a1_1 a2_0 a2_1)) = some r := H
  have A8 := Aside0.mk A80
  clear A80
  by_cases c9 : t495 = true
  ·subst c9
   have H1 : ((zelligeref07_near.f a0_0 a0_1 a2_0 a2_1).bind fun t496 => (zelligeref07_Orient.j0 k t496 a0_0 a0_1 a1_0 a1_1 a2_0 a2_1)) = some r := by rw [if_pos rfl] at H; exact H
   clear H
   have H := H1
   clear H1
   replace H := Option.bind_eq_some_iff.mp H
   obtain ⟨t496, A100, H⟩ := H
   replace H : (zelligeref07_Orient.j0 k t496 a0_0 a0_1 a1_0 a1_1 a2_0 a2_1) = some r := H
   have A10 := Aside0.mk A100
   clear A100
   have H' := Aside0.mk H
   clear H
   have hnb11 := NB492_493.out
   have hnc11 := NB493_492.out
   have hnb12 := NB492_494.out
   have hnc12 := NB494_492.out
   have hcz13_0 : w7.cell? ⟨gb492, 0, none⟩ = some (.int .i64 a0_0) := (blk_cell BK492.out 0).trans rfl
   have hcz13_1 : w7.cell? ⟨gb492, 1, none⟩ = some (.int .i64 a0_1) := (blk_cell BK492.out 1).trans rfl
   have hfz13_0 := blk_frozen BK492.out 0
   have hfz13_1 := blk_frozen BK492.out 1
   have hnb14 := NB493_494.out
   have hnc14 := NB494_493.out
   have hcz15_0 : w7.cell? ⟨gb493, 0, none⟩ = some (.int .i64 a1_0) := (blk_cell BK493.out 0).trans rfl
   have hcz15_1 : w7.cell? ⟨gb493, 1, none⟩ = some (.int .i64 a1_1) := (blk_cell BK493.out 1).trans rfl
   have hfz15_0 := blk_frozen BK493.out 0
   have hfz15_1 := blk_frozen BK493.out 1
   go_wp2_with (first | ((with_reducible refine gate_callee (f := 32) rfl ?_); refine goesL_ (some 9) rfl rfl Try.func32 (by kernel_rfl) rfl #[.agg #[.int .i64 a0_0, .int .i64 a0_1], .agg #[.int .i64 a1_0, .int .i64 a1_1]] rfl (by (try simp only [List.map_toArray, List.map_cons, List.map_nil]); first | done | rfl | (simp only [List.length_drop, List.length_take]; rfl)) ?_; (with_reducible refine (zelligeref07_near.calls a0_0 a0_1 a1_0 a1_1 true _ A8.out).mono ?_); rintro e w16 ⟨rfl, hb⟩; refine ⟨_, rfl, ?_⟩; have n0_ := Aside0.mk (blk_below (g := gb492) (o := .cells #[.int .i64 a0_0, .int .i64 a0_1] 23 (0, 0)) (bk BK492.out) hb); have n1_ := Aside0.mk (blk_below (g := gb493) (o := .cells #[.int .i64 a1_0, .int .i64 a1_1] 23 (0, 0)) (bk BK493.out) hb); have n2_ := Aside0.mk (blk_below (g := gb494) (o := .cells #[.int .i64 a2_0, .int .i64 a2_1] 23 (0, 0)) (bk BK494.out) hb); have n3_ := Aside0.mk (below_step (by repeat (first | (with_reducible first | exact HB.out | apply below_alloc | apply pw_below_drewN | apply below_drew1 | refine below_set ?_ GE492.out | refine below_set ?_ GE493.out | refine below_set ?_ GE494.out) | exact HB.out)) hb); clear BK492; clear BK493; clear BK494; clear HB; have BK492 := n0_; have BK493 := n1_; have BK494 := n2_; have HB := n3_; clear n0_ n1_ n2_ n3_; (try clear hb); (try clear hb2); (try clear hk); (try clear hi); have hcz17_0 : w16.cell? ⟨gb492, 0, none⟩ = some (.int .i64 a0_0) := (blk_cell BK492.out 0).trans rfl; have hcz17_1 : w16.cell? ⟨gb492, 1, none⟩ = some (.int .i64 a0_1) := (blk_cell BK492.out 1).trans rfl; have hfz17_0 := blk_frozen BK492.out 0; have hfz17_1 := blk_frozen BK492.out 1; have hcz18_0 : w16.cell? ⟨gb494, 0, none⟩ = some (.int .i64 a2_0) := (blk_cell BK494.out 0).trans rfl; have hcz18_1 : w16.cell? ⟨gb494, 1, none⟩ = some (.int .i64 a2_1) := (blk_cell BK494.out 1).trans rfl; have hfz18_0 := blk_frozen BK494.out 0; have hfz18_1 := blk_frozen BK494.out 1) | (go_at_call 32; (with_reducible refine (zelligeref07_near.calls a0_0 a0_1 a2_0 a2_1 t496 _ A10.out).mono ?_); rintro e w19 ⟨rfl, hb⟩; have n0_ := Aside0.mk (blk_below (g := gb492) (o := .cells #[.int .i64 a0_0, .int .i64 a0_1] 23 (0, 0)) (bk BK492.out) hb); have n1_ := Aside0.mk (blk_below (g := gb493) (o := .cells #[.int .i64 a1_0, .int .i64 a1_1] 23 (0, 0)) (bk BK493.out) hb); have n2_ := Aside0.mk (blk_below (g := gb494) (o := .cells #[.int .i64 a2_0, .int .i64 a2_1] 23 (0, 0)) (bk BK494.out) hb); have n3_ := Aside0.mk (below_step (by repeat (first | (with_reducible first | exact HB.out | apply below_alloc | apply pw_below_drewN | apply below_drew1 | refine below_set ?_ GE492.out | refine below_set ?_ GE493.out | refine below_set ?_ GE494.out) | exact HB.out)) hb); clear BK492; clear BK493; clear BK494; clear HB; have BK492 := n0_; have BK493 := n1_; have BK494 := n2_; have HB := n3_; clear n0_ n1_ n2_ n3_; (try clear hb); (try clear hb2); (try clear hk); (try clear hi)))
   go_meet
   case rel => exact ⟨_, (t496), (by first | rfl | (simp; done) | (simp [*]; done)), H', ⟨by first | omega | exact Nat.le_refl _⟩, ⟨by (with_reducible repeat (first | refine blk_drewN ?_ _ | refine blk_drew ?_ | refine blk_alloc ?_ _)); exact BK492.out⟩, ⟨by (with_reducible repeat (first | refine blk_drewN ?_ _ | refine blk_drew ?_ | refine blk_alloc ?_ _)); exact BK493.out⟩, ⟨by (with_reducible repeat (first | refine blk_drewN ?_ _ | refine blk_drew ?_ | refine blk_alloc ?_ _)); exact BK494.out⟩, ⟨by repeat (first | (with_reducible first | exact HB.out | apply below_alloc | apply pw_below_drewN | apply below_drew1 | refine below_set ?_ GE492.out | refine below_set ?_ GE493.out | refine below_set ?_ GE494.out) | exact HB.out)⟩⟩
  ·replace c9 := Bool.eq_false_iff.mpr c9
   subst c9
   have H1 : (zelligeref07_Orient.j0 k false a0_0 a0_1 a1_0 a1_1 a2_0 a2_1) = some r := by rw [if_neg (show ¬ (false = true) by decide)] at H; exact H
   clear H
   have H := H1
   clear H1
   have H' := Aside0.mk H
   clear H
   have hnb20 := NB492_493.out
   have hnc20 := NB493_492.out
   have hnb21 := NB492_494.out
   have hnc21 := NB494_492.out
   have hcz22_0 : w7.cell? ⟨gb492, 0, none⟩ = some (.int .i64 a0_0) := (blk_cell BK492.out 0).trans rfl
   have hcz22_1 : w7.cell? ⟨gb492, 1, none⟩ = some (.int .i64 a0_1) := (blk_cell BK492.out 1).trans rfl
   have hfz22_0 := blk_frozen BK492.out 0
   have hfz22_1 := blk_frozen BK492.out 1
   have hnb23 := NB493_494.out
   have hnc23 := NB494_493.out
   have hcz24_0 : w7.cell? ⟨gb493, 0, none⟩ = some (.int .i64 a1_0) := (blk_cell BK493.out 0).trans rfl
   have hcz24_1 : w7.cell? ⟨gb493, 1, none⟩ = some (.int .i64 a1_1) := (blk_cell BK493.out 1).trans rfl
   have hfz24_0 := blk_frozen BK493.out 0
   have hfz24_1 := blk_frozen BK493.out 1
   go_wp2_with (first | ((with_reducible refine gate_callee (f := 32) rfl ?_); refine goesL_ (some 9) rfl rfl Try.func32 (by kernel_rfl) rfl #[.agg #[.int .i64 a0_0, .int .i64 a0_1], .agg #[.int .i64 a1_0, .int .i64 a1_1]] rfl (by (try simp only [List.map_toArray, List.map_cons, List.map_nil]); first | done | rfl | (simp only [List.length_drop, List.length_take]; rfl)) ?_; (with_reducible refine (zelligeref07_near.calls a0_0 a0_1 a1_0 a1_1 false _ A8.out).mono ?_); rintro e w25 ⟨rfl, hb⟩; refine ⟨_, rfl, ?_⟩; have n0_ := Aside0.mk (blk_below (g := gb492) (o := .cells #[.int .i64 a0_0, .int .i64 a0_1] 23 (0, 0)) (bk BK492.out) hb); have n1_ := Aside0.mk (blk_below (g := gb493) (o := .cells #[.int .i64 a1_0, .int .i64 a1_1] 23 (0, 0)) (bk BK493.out) hb); have n2_ := Aside0.mk (blk_below (g := gb494) (o := .cells #[.int .i64 a2_0, .int .i64 a2_1] 23 (0, 0)) (bk BK494.out) hb); have n3_ := Aside0.mk (below_step (by repeat (first | (with_reducible first | exact HB.out | apply below_alloc | apply pw_below_drewN | apply below_drew1 | refine below_set ?_ GE492.out | refine below_set ?_ GE493.out | refine below_set ?_ GE494.out) | exact HB.out)) hb); clear BK492; clear BK493; clear BK494; clear HB; have BK492 := n0_; have BK493 := n1_; have BK494 := n2_; have HB := n3_; clear n0_ n1_ n2_ n3_; (try clear hb); (try clear hb2); (try clear hk); (try clear hi)))
   go_meet
   case rel => exact ⟨_, (false), (by first | rfl | (simp; done) | (simp [*]; done)), H', ⟨by first | omega | exact Nat.le_refl _⟩, ⟨by (with_reducible repeat (first | refine blk_drewN ?_ _ | refine blk_drew ?_ | refine blk_alloc ?_ _)); exact BK492.out⟩, ⟨by (with_reducible repeat (first | refine blk_drewN ?_ _ | refine blk_drew ?_ | refine blk_alloc ?_ _)); exact BK493.out⟩, ⟨by (with_reducible repeat (first | refine blk_drewN ?_ _ | refine blk_drew ?_ | refine blk_alloc ?_ _)); exact BK494.out⟩, ⟨by repeat (first | (with_reducible first | exact HB.out | apply below_alloc | apply pw_below_drewN | apply below_drew1 | refine below_set ?_ GE492.out | refine below_set ?_ GE493.out | refine below_set ?_ GE494.out) | exact HB.out)⟩⟩
 case rest =>
  clear HC4
  try clear c1
  try clear c2
  try clear p2
  try clear c3
  try clear c9
  try clear c11
  try clear c12
  try clear c14
  try clear c20
  try clear c21
  try clear c23
  try clear hcz13_0
  try clear hcz13_1
  try clear hcz15_0
  try clear hcz15_1
  try clear hcz17_0
  try clear hcz17_1
  try clear hcz18_0
  try clear hcz18_1
  try clear hcz22_0
  try clear hcz22_1
  try clear hcz24_0
  try clear hcz24_1
  try clear hfz13_0
  try clear hfz13_1
  try clear hfz15_0
  try clear hfz15_1
  try clear hfz17_0
  try clear hfz17_1
  try clear hfz18_0
  try clear hfz18_1
  try clear hfz22_0
  try clear hfz22_1
  try clear hfz24_0
  try clear hfz24_1
  obtain ⟨kq, x14_3, rfl, HA, HJ3, BK492, BK493, BK494, HB⟩ := hcut
  cases kq with
  | zero => exact absurd HA.out (by simp [zelligeref07_Orient.j0])
  | succ kj3 =>
   have H := HA.out
   clear HA
   simp only [zelligeref07_Orient.j0] at H
   by_cases c26 : x14_3 = true
   ·subst c26
    have H1 : ((zelligeref07_sign.f (wrap64 ((wrap64 ((wrap64 (a1_0 - a0_0)) * (wrap64 (a2_1 - a0_1)))) - (wrap64 ((wrap64 (a1_1 - a0_1)) * (wrap64 (a2_0 - a0_0))))))).bind fun t497 => (some t497)) = some r := by rw [if_pos rfl] at H; exact H
    clear H
    have H := H1
    clear H1
    replace H := Option.bind_eq_some_iff.mp H
    obtain ⟨t497, A270, H⟩ := H
    replace H : (some t497) = some r := H
    have A27 := Aside0.mk A270
    clear A270
    obtain rfl := Option.some.inj H
    have hnb28 := NB493_492.out
    have hnc28 := NB492_493.out
    have hnb29 := NB493_494.out
    have hnc29 := NB494_493.out
    have hcz30_0 : wc.cell? ⟨gb493, 0, none⟩ = some (.int .i64 a1_0) := (blk_cell BK493.out 0).trans rfl
    have hcz30_1 : wc.cell? ⟨gb493, 1, none⟩ = some (.int .i64 a1_1) := (blk_cell BK493.out 1).trans rfl
    have hfz30_0 := blk_frozen BK493.out 0
    have hfz30_1 := blk_frozen BK493.out 1
    have hnb31 := NB492_494.out
    have hnc31 := NB494_492.out
    have hcz32_0 : wc.cell? ⟨gb492, 0, none⟩ = some (.int .i64 a0_0) := (blk_cell BK492.out 0).trans rfl
    have hcz32_1 : wc.cell? ⟨gb492, 1, none⟩ = some (.int .i64 a0_1) := (blk_cell BK492.out 1).trans rfl
    have hfz32_0 := blk_frozen BK492.out 0
    have hfz32_1 := blk_frozen BK492.out 1
    have hcz33_0 : wc.cell? ⟨gb494, 0, none⟩ = some (.int .i64 a2_0) := (blk_cell BK494.out 0).trans rfl
    have hcz33_1 : wc.cell? ⟨gb494, 1, none⟩ = some (.int .i64 a2_1) := (blk_cell BK494.out 1).trans rfl
    have hfz33_0 := blk_frozen BK494.out 0
    have hfz33_1 := blk_frozen BK494.out 1
    go_wp2_with (first | ((with_reducible refine gate_callee (f := 42) rfl ?_); refine goesL_ (some 38) rfl rfl Try.func42 (by kernel_rfl) rfl #[.int .i64 (wrap64 ((wrap64 ((wrap64 (a1_0 - a0_0)) * (wrap64 (a2_1 - a0_1)))) - (wrap64 ((wrap64 (a1_1 - a0_1)) * (wrap64 (a2_0 - a0_0))))))] rfl (by (try simp only [List.map_toArray, List.map_cons, List.map_nil]); first | done | rfl | (simp only [List.length_drop, List.length_take]; rfl)) ?_; (with_reducible refine (zelligeref07_sign.calls (wrap64 ((wrap64 ((wrap64 (a1_0 - a0_0)) * (wrap64 (a2_1 - a0_1)))) - (wrap64 ((wrap64 (a1_1 - a0_1)) * (wrap64 (a2_0 - a0_0)))))) t497 _ A27.out).mono ?_); rintro e w' ⟨rfl, ⟨nd, rfl⟩⟩; refine ⟨_, rfl, ?_⟩))
    go_ret
    exact ⟨by first | rfl | (simp [errW_none, errW_some] <;> rfl) | (simp [*, errW_none, errW_some] <;> rfl), by repeat (first | (with_reducible first | exact HB.out | apply below_alloc | apply pw_below_drewN | apply below_drew1 | refine below_set ?_ GE492.out | refine below_set ?_ GE493.out | refine below_set ?_ GE494.out) | exact HB.out)⟩
   ·replace c26 := Bool.eq_false_iff.mpr c26
    subst c26
    have H1 : ((zelligeref07_Area.f kj3 a0_0 a0_1 a1_0 a1_1 a2_0 a2_1).bind fun bt498 => (some bt498.1)) = some r := by rw [if_neg (show ¬ (false = true) by decide)] at H; exact H
    clear H
    have H := H1
    clear H1
    replace H := Option.bind_eq_some_iff.mp H
    obtain ⟨⟨t498, t499⟩, A340, H⟩ := H
    replace H : (some t498) = some r := H
    have A34 := Aside0.mk A340
    clear A340
    obtain rfl := Option.some.inj H
    have hnb35 := NB492_493.out
    have hnc35 := NB493_492.out
    have hnb36 := NB492_494.out
    have hnc36 := NB494_492.out
    have hcz37_0 : wc.cell? ⟨gb492, 0, none⟩ = some (.int .i64 a0_0) := (blk_cell BK492.out 0).trans rfl
    have hcz37_1 : wc.cell? ⟨gb492, 1, none⟩ = some (.int .i64 a0_1) := (blk_cell BK492.out 1).trans rfl
    have hfz37_0 := blk_frozen BK492.out 0
    have hfz37_1 := blk_frozen BK492.out 1
    have hnb38 := NB493_494.out
    have hnc38 := NB494_493.out
    have hcz39_0 : wc.cell? ⟨gb493, 0, none⟩ = some (.int .i64 a1_0) := (blk_cell BK493.out 0).trans rfl
    have hcz39_1 : wc.cell? ⟨gb493, 1, none⟩ = some (.int .i64 a1_1) := (blk_cell BK493.out 1).trans rfl
    have hfz39_0 := blk_frozen BK493.out 0
    have hfz39_1 := blk_frozen BK493.out 1
    have hcz40_0 : wc.cell? ⟨gb494, 0, none⟩ = some (.int .i64 a2_0) := (blk_cell BK494.out 0).trans rfl
    have hcz40_1 : wc.cell? ⟨gb494, 1, none⟩ = some (.int .i64 a2_1) := (blk_cell BK494.out 1).trans rfl
    have hfz40_0 := blk_frozen BK494.out 0
    have hfz40_1 := blk_frozen BK494.out 1
    go_wp2_with (first | ((with_reducible refine gate_callee (f := 20) rfl ?_); refine goesL_ (some 42) rfl rfl Try.func20 (by kernel_rfl) rfl #[.agg #[.int .i64 a0_0, .int .i64 a0_1], .agg #[.int .i64 a1_0, .int .i64 a1_1], .agg #[.int .i64 a2_0, .int .i64 a2_1]] rfl (by (try simp only [List.map_toArray, List.map_cons, List.map_nil]); first | done | rfl | (simp only [List.length_drop, List.length_take]; rfl)) ?_; (with_reducible refine (zelligeref07_Area.calls kj3 a0_0 a0_1 a1_0 a1_1 a2_0 a2_1 t498 t499 _ A34.out).mono ?_); rintro e w41 ⟨v500, rfl, ho0, hb⟩; refine ⟨_, rfl, ?_⟩; have n0_ := Aside0.mk (Kd.R_lower ho0 (below_size (by repeat (first | (with_reducible first | exact HB.out | apply below_alloc | apply pw_below_drewN | apply below_drew1 | refine below_set ?_ GE492.out | refine below_set ?_ GE493.out | refine below_set ?_ GE494.out) | exact HB.out)))); have n1_ := Aside0.mk (blk_below (g := gb492) (o := .cells #[.int .i64 a0_0, .int .i64 a0_1] 23 (0, 0)) (bk BK492.out) hb); have n2_ := Aside0.mk (blk_below (g := gb493) (o := .cells #[.int .i64 a1_0, .int .i64 a1_1] 23 (0, 0)) (bk BK493.out) hb); have n3_ := Aside0.mk (blk_below (g := gb494) (o := .cells #[.int .i64 a2_0, .int .i64 a2_1] 23 (0, 0)) (bk BK494.out) hb); have n4_ := Aside0.mk (below_step (by repeat (first | (with_reducible first | exact HB.out | apply below_alloc | apply pw_below_drewN | apply below_drew1 | refine below_set ?_ GE492.out | refine below_set ?_ GE493.out | refine below_set ?_ GE494.out) | exact HB.out)) hb); clear BK492; clear BK493; clear BK494; clear HB; have HO501 := n0_; have BK492 := n1_; have BK493 := n2_; have BK494 := n3_; have HB := n4_; clear n0_ n1_ n2_ n3_ n4_; (try clear hb); (try clear hb2); (try clear hk); (try clear hi); (try clear ho0)))
    go_ret
    exact ⟨by first | rfl | (simp [errW_none, errW_some] <;> rfl) | (simp [*, errW_none, errW_some] <;> rfl), by repeat (first | (with_reducible first | exact HB.out | apply below_alloc | apply pw_below_drewN | apply below_drew1 | refine below_set ?_ GE492.out | refine below_set ?_ GE493.out | refine below_set ?_ GE494.out) | exact HB.out)⟩
end Go.Proofs.Ytmeckkckjikjiaa.F
end
section
namespace Go.Proofs.Ytmeckkckjikjiaa.F
open Go.RowKit Go.Proofs.YtmeckkckjikjiaaW.PrintWords Go.Proofs.YtmeckkckjikjiaaW.PrintLast Go.Proofs.YtmeckkckjikjiaaW.PrintMore
attribute [local go_sem] max2_int min2_int max_two min_two max_three min_three max_four min_four
set_option linter.unusedVariables false
set_option linter.unusedSimpArgs false
mutual
def zelligeref07_Where.j0 : Nat → Bool → Int → Int → Int → Int → Int → Int → Int → Int → Option (Int)
 | 0, _, _, _, _, _, _, _, _, _ => none
 | k + 1, x36, x503000, x503001, x504000, x504001, x505000, x505001, x506000, x506001 => if x36 = true then (some 0) else ((zelligeref07_Orient.f k x503000 x503001 x504000 x504001 x506000 x506001).bind fun t511 => ((zelligeref07_Orient.f k x504000 x504001 x505000 x505001 x506000 x506001).bind fun t512 => ((zelligeref07_Orient.f k x505000 x505001 x503000 x503001 x506000 x506001).bind fun t513 => (if t511 < 0 then (zelligeref07_Where.j1 k t511 t512 t513 true) else (if t512 < 0 then (zelligeref07_Where.j1 k t511 t512 t513 true) else (zelligeref07_Where.j1 k t511 t512 t513 (decide (t513 < 0))))))))
def zelligeref07_Where.j1 : Nat → Int → Int → Int → Bool → Option (Int)
 | 0, _, _, _, _ => none
 | k + 1, x9, x10, x11, x58 => if x58 = true then (some (-1)) else (if x9 = 0 then (some 1) else (if x10 = 0 then (some 1) else (if x11 = 0 then (some 1) else (some 2))))
end
def zelligeref07_Where.f (k : Nat) (a0_0 : Int) (a0_1 : Int) (a1_0 : Int) (a1_1 : Int) (a2_0 : Int) (a2_1 : Int) (a3_0 : Int) (a3_1 : Int) : Option (Int) := (zelligeref06_Can.f a0_0 a0_1).bind fun t506 => (if t506 = true then ((zelligeref06_Can.f a1_0 a1_1).bind fun t507 => (if t507 = true then ((zelligeref06_Can.f a2_0 a2_1).bind fun t508 => (if t508 = true then ((zelligeref06_Can.f a3_0 a3_1).bind fun t509 => (if t509 = true then ((zelligeref07_Orient.f k a0_0 a0_1 a1_0 a1_1 a2_0 a2_1).bind fun t510 => (zelligeref07_Where.j0 k (t510 != 1) a0_0 a0_1 a1_0 a1_1 a2_0 a2_1 a3_0 a3_1)) else (zelligeref07_Where.j0 k true a0_0 a0_1 a1_0 a1_1 a2_0 a2_1 a3_0 a3_1))) else (zelligeref07_Where.j0 k true a0_0 a0_1 a1_0 a1_1 a2_0 a2_1 a3_0 a3_1))) else (zelligeref07_Where.j0 k true a0_0 a0_1 a1_0 a1_1 a2_0 a2_1 a3_0 a3_1))) else (zelligeref07_Where.j0 k true a0_0 a0_1 a1_0 a1_1 a2_0 a2_1 a3_0 a3_1))
theorem zelligeref07_Where.mono_l : ∀ k, (∀ y0 y1 y2 y3 y4 y5 y6 y7 y8, LeO (zelligeref07_Where.j0 k y0 y1 y2 y3 y4 y5 y6 y7 y8) (zelligeref07_Where.j0 (k + 1) y0 y1 y2 y3 y4 y5 y6 y7 y8)) ∧ (∀ y0 y1 y2 y3, LeO (zelligeref07_Where.j1 k y0 y1 y2 y3) (zelligeref07_Where.j1 (k + 1) y0 y1 y2 y3))
 | 0 => ⟨fun _ _ _ _ _ _ _ _ _ r h => by simp [zelligeref07_Where.j0] at h, fun _ _ _ _ r h => by simp [zelligeref07_Where.j1] at h⟩
 | k + 1 => by
  obtain ⟨ih0, ih1⟩ := zelligeref07_Where.mono_l k
  refine ⟨?_, ?_⟩
  ·intro y0 y1 y2 y3 y4 y5 y6 y7 y8
   unfold zelligeref07_Where.j0
   repeat' first
   | (with_reducible exact ih0 _ _ _ _ _ _ _ _ _)
   | (with_reducible exact ih1 _ _ _ _)
   | (with_reducible exact zelligeref07_Orient.mono _ _ _ _ _ _ _)
   | (with_reducible exact LeO.refl _)
   | (with_reducible exact LeO.none _)
   | (with_reducible refine LeO.ite ?_ ?_)
   | (with_reducible refine LeO.bind ?_ (fun _ => ?_))
   | exact ih0 _ _ _ _ _ _ _ _ _
   | exact ih1 _ _ _ _
   | exact zelligeref07_Orient.mono _ _ _ _ _ _ _
   | exact LeO.none _
   | refine LeO.ite ?_ ?_
   | refine LeO.bind ?_ (fun _ => ?_)
  ·intro y0 y1 y2 y3
   unfold zelligeref07_Where.j1
   repeat' first
   | (with_reducible exact ih0 _ _ _ _ _ _ _ _ _)
   | (with_reducible exact ih1 _ _ _ _)
   | (with_reducible exact zelligeref07_Orient.mono _ _ _ _ _ _ _)
   | (with_reducible exact LeO.refl _)
   | (with_reducible exact LeO.none _)
   | (with_reducible refine LeO.ite ?_ ?_)
   | (with_reducible refine LeO.bind ?_ (fun _ => ?_))
   | exact ih0 _ _ _ _ _ _ _ _ _
   | exact ih1 _ _ _ _
   | exact zelligeref07_Orient.mono _ _ _ _ _ _ _
   | exact LeO.none _
   | refine LeO.ite ?_ ?_
   | refine LeO.bind ?_ (fun _ => ?_)
theorem zelligeref07_Where.mono : ∀ a0 a1 a2 a3 a4 a5 a6 a7 k, LeO (zelligeref07_Where.f k a0 a1 a2 a3 a4 a5 a6 a7) (zelligeref07_Where.f (k + 1) a0 a1 a2 a3 a4 a5 a6 a7) := by
 intro a0 a1 a2 a3 a4 a5 a6 a7 k
 obtain ⟨ih0, ih1⟩ := zelligeref07_Where.mono_l k
 unfold zelligeref07_Where.f
 repeat' first
   | (with_reducible exact ih0 _ _ _ _ _ _ _ _ _)
   | (with_reducible exact ih1 _ _ _ _)
   | (with_reducible exact zelligeref07_Orient.mono _ _ _ _ _ _ _)
   | (with_reducible exact LeO.refl _)
   | (with_reducible exact LeO.none _)
   | (with_reducible refine LeO.ite ?_ ?_)
   | (with_reducible refine LeO.bind ?_ (fun _ => ?_))
   | exact ih0 _ _ _ _ _ _ _ _ _
   | exact ih1 _ _ _ _
   | exact zelligeref07_Orient.mono _ _ _ _ _ _ _
   | exact LeO.none _
   | refine LeO.ite ?_ ?_
   | refine LeO.bind ?_ (fun _ => ?_)
def zelligeref07_Where.T3 : Bool × List (List Nat × List Nat) := (true, [([], []), ([], []), ([], []), ([0, 1, 2], [0, 1, 2]), ([], []), ([], []), ([], []), ([4, 5, 6, 3], [4, 5, 6]), ([], []), ([], []), ([], []), ([8, 9, 10, 7], [8, 9, 10]), ([3, 11, 0, 1, 2, 3], [3]), ([7, 12, 0, 1, 2, 3, 4, 5, 6, 7, 12], [7]), ([11, 13, 0, 1, 2, 3, 4, 5, 6, 7, 8, 9, 10, 11, 12, 13], [11])])
def zelligeref07_Where.B3 : List Nat := [0, 0, 0, 7, 0, 0, 0, 127, 0, 0, 0, 2047, 4095, 8191, 16383]
theorem zelligeref07_Where.tab3 : rtab .any (opsOf Try.f13 3) = zelligeref07_Where.T3 := by kernel_rfl
theorem zelligeref07_Where.bits3 : waitsOk zelligeref07_Where.T3.2 zelligeref07_Where.B3 = true := by kernel_rfl
set_option maxHeartbeats 8000000 in
set_option maxRecDepth 100000 in
theorem zelligeref07_Where.calls (k : Nat) (a0_0 : Int) (a0_1 : Int) (a1_0 : Int) (a1_1 : Int) (a2_0 : Int) (a2_1 : Int) (a3_0 : Int) (a3_1 : Int) (r : Int) (w : World) (h : zelligeref07_Where.f k a0_0 a0_1 a1_0 a1_1 a2_0 a2_1 a3_0 a3_1 = some r) :
  Calls Try.prog 13 #[.agg #[.int .i64 a0_0, .int .i64 a0_1], .agg #[.int .i64 a1_0, .int .i64 a1_1], .agg #[.int .i64 a2_0, .int .i64 a2_1], .agg #[.int .i64 a3_0, .int .i64 a3_1]] w fun e w' => e = .returned (.int .i64 r) ∧ Below w.heap.size w w' := by
 have hu23 := Try.underlying23
 have HB := Aside0.mk (Below.refl w.heap.size w)
 have H : ((zelligeref06_Can.f a0_0 a0_1).bind fun t506 => (if t506 = true then ((zelligeref06_Can.f a1_0 a1_1).bind fun t507 => (if t507 = true then ((zelligeref06_Can.f a2_0 a2_1).bind fun t508 => (if t508 = true then ((zelligeref06_Can.f a3_0 a3_1).bind fun t509 => (if t509 = true then ((zelligeref07_Orient.f k a0_0 a0_1 a1_0 a1_1 a2_0 a2_1).bind fun t510 => (zelligeref07_Where.j0 k (t510 != 1) a0_0 a0_1 a1_0 a1_1 a2_0 a2_1 a3_0 a3_1)) else (zelligeref07_Where.j0 k true a0_0 a0_1 a1_0 a1_1 a2_0 a2_1 a3_0 a3_1))) else (zelligeref07_Where.j0 k true a0_0 a0_1 a1_0 a1_1 a2_0 a2_1 a3_0 a3_1))) else (zelligeref07_Where.j0 k true a0_0 a0_1 a1_0 a1_1 a2_0 a2_1 a3_0 a3_1))) else (zelligeref07_Where.j0 k true a0_0 a0_1 a1_0 a1_1 a2_0 a2_1 a3_0 a3_1))) = some r := h
 clear h
 have HC5 := Aside0.mk H
 clear H
 go_enter Try.func13, Try.ntmps13
 go_upto_region 1 with (first | ((with_reducible refine gate_dst (N := 4) rfl ?_); refine box_event ?hg (N := 4) ?hd (cs := #[.int .i64 a0_0, .int .i64 a0_1]) (t := 23) ?hr ?_; (case hd => rfl); (case hg => rfl); (case hr => first | (go_simp; done) | (go_simp; rfl)); intro gb502 hg w6 hbox hb; have n0_ := Aside0.mk (below_step (bw HB.out) hb); have n1_ := Aside0.mk (hbox); have n2_ := Aside0.mk ((by rw [hg]; exact (below_size (bw HB.out)) : w.heap.size ≤ gb502)); have n3_ := Aside0.mk ((by rw [hg]; exact (below_size (bw HB.out)) : w.heap.size ≤ gb502)); clear HB; have HB := n0_; have BK502 := n1_; have GW502 := n2_; have GE502 := n3_; clear n0_ n1_ n2_ n3_; clear hb hbox hg) | ((with_reducible refine gate_dst (N := 5) rfl ?_); refine box_event ?hg (N := 5) ?hd (cs := #[.int .i64 a1_0, .int .i64 a1_1]) (t := 23) ?hr ?_; (case hd => rfl); (case hg => rfl); (case hr => first | (go_simp; done) | (go_simp; rfl)); intro gb503 hg w7 hbox hb; have n0_ := Aside0.mk (blk_below (g := gb502) (o := .cells #[.int .i64 a0_0, .int .i64 a0_1] 23 (0, 0)) (bk BK502.out) hb); have n1_ := Aside0.mk (below_step (by repeat (first | (with_reducible first | exact HB.out | apply below_alloc | apply pw_below_drewN | apply below_drew1 | refine below_set ?_ GE502.out) | exact HB.out)) hb); have n2_ := Aside0.mk (hbox); have n3_ := Aside0.mk ((by rw [hg]; exact (below_size (by repeat (first | (with_reducible first | exact HB.out | apply below_alloc | apply pw_below_drewN | apply below_drew1 | refine below_set ?_ GE502.out) | exact HB.out))) : w.heap.size ≤ gb503)); have n4_ := Aside0.mk ((by rw [hg]; exact (below_size (by repeat (first | (with_reducible first | exact HB.out | apply below_alloc | apply pw_below_drewN | apply below_drew1 | refine below_set ?_ GE502.out) | exact HB.out))) : w.heap.size ≤ gb503)); have n5_ := Aside0.mk ((by rw [hg]; exact Nat.ne_of_lt (blk_lt (g := gb502) (o := .cells #[.int .i64 a0_0, .int .i64 a0_1] 23 (0, 0)) (bk BK502.out)) : gb502 ≠ gb503)); have n6_ := Aside0.mk ((by rw [hg]; exact Nat.ne_of_gt (blk_lt (g := gb502) (o := .cells #[.int .i64 a0_0, .int .i64 a0_1] 23 (0, 0)) (bk BK502.out)) : gb503 ≠ gb502)); clear BK502; clear HB; have BK502 := n0_; have HB := n1_; have BK503 := n2_; have GW503 := n3_; have GE503 := n4_; have NB502_503 := n5_; have NB503_502 := n6_; clear n0_ n1_ n2_ n3_ n4_ n5_ n6_; clear hb hbox hg) | ((with_reducible refine gate_dst (N := 6) rfl ?_); refine box_event ?hg (N := 6) ?hd (cs := #[.int .i64 a2_0, .int .i64 a2_1]) (t := 23) ?hr ?_; (case hd => rfl); (case hg => rfl); (case hr => first | (go_simp; done) | (go_simp; rfl)); intro gb504 hg w8 hbox hb; have n0_ := Aside0.mk (blk_below (g := gb502) (o := .cells #[.int .i64 a0_0, .int .i64 a0_1] 23 (0, 0)) (bk BK502.out) hb); have n1_ := Aside0.mk (blk_below (g := gb503) (o := .cells #[.int .i64 a1_0, .int .i64 a1_1] 23 (0, 0)) (bk BK503.out) hb); have n2_ := Aside0.mk (below_step (by repeat (first | (with_reducible first | exact HB.out | apply below_alloc | apply pw_below_drewN | apply below_drew1 | refine below_set ?_ GE502.out | refine below_set ?_ GE503.out) | exact HB.out)) hb); have n3_ := Aside0.mk (hbox); have n4_ := Aside0.mk ((by rw [hg]; exact (below_size (by repeat (first | (with_reducible first | exact HB.out | apply below_alloc | apply pw_below_drewN | apply below_drew1 | refine below_set ?_ GE502.out | refine below_set ?_ GE503.out) | exact HB.out))) : w.heap.size ≤ gb504)); have n5_ := Aside0.mk ((by rw [hg]; exact (below_size (by repeat (first | (with_reducible first | exact HB.out | apply below_alloc | apply pw_below_drewN | apply below_drew1 | refine below_set ?_ GE502.out | refine below_set ?_ GE503.out) | exact HB.out))) : w.heap.size ≤ gb504)); have n6_ := Aside0.mk ((by rw [hg]; exact Nat.ne_of_lt (blk_lt (g := gb502) (o := .cells #[.int .i64 a0_0, .int .i64 a0_1] 23 (0, 0)) (bk BK502.out)) : gb502 ≠ gb504)); have n7_ := Aside0.mk ((by rw [hg]; exact Nat.ne_of_gt (blk_lt (g := gb502) (o := .cells #[.int .i64 a0_0, .int .i64 a0_1] 23 (0, 0)) (bk BK502.out)) : gb504 ≠ gb502)); have n8_ := Aside0.mk ((by rw [hg]; exact Nat.ne_of_lt (blk_lt (g := gb503) (o := .cells #[.int .i64 a1_0, .int .i64 a1_1] 23 (0, 0)) (bk BK503.out)) : gb503 ≠ gb504)); have n9_ := Aside0.mk ((by rw [hg]; exact Nat.ne_of_gt (blk_lt (g := gb503) (o := .cells #[.int .i64 a1_0, .int .i64 a1_1] 23 (0, 0)) (bk BK503.out)) : gb504 ≠ gb503)); clear BK502; clear BK503; clear HB; have BK502 := n0_; have BK503 := n1_; have HB := n2_; have BK504 := n3_; have GW504 := n4_; have GE504 := n5_; have NB502_504 := n6_; have NB504_502 := n7_; have NB503_504 := n8_; have NB504_503 := n9_; clear n0_ n1_ n2_ n3_ n4_ n5_ n6_ n7_ n8_ n9_; clear hb hbox hg) | ((with_reducible refine gate_dst (N := 7) rfl ?_); refine box_event ?hg (N := 7) ?hd (cs := #[.int .i64 a3_0, .int .i64 a3_1]) (t := 23) ?hr ?_; (case hd => rfl); (case hg => rfl); (case hr => first | (go_simp; done) | (go_simp; rfl)); intro gb505 hg w9 hbox hb; have n0_ := Aside0.mk (blk_below (g := gb502) (o := .cells #[.int .i64 a0_0, .int .i64 a0_1] 23 (0, 0)) (bk BK502.out) hb); have n1_ := Aside0.mk (blk_below (g := gb503) (o := .cells #[.int .i64 a1_0, .int .i64 a1_1] 23 (0, 0)) (bk BK503.out) hb); have n2_ := Aside0.mk (blk_below (g := gb504) (o := .cells #[.int .i64 a2_0, .int .i64 a2_1] 23 (0, 0)) (bk BK504.out) hb); have n3_ := Aside0.mk (below_step (by repeat (first | (with_reducible first | exact HB.out | apply below_alloc | apply pw_below_drewN | apply below_drew1 | refine below_set ?_ GE502.out | refine below_set ?_ GE503.out | refine below_set ?_ GE504.out) | exact HB.out)) hb); have n4_ := Aside0.mk (hbox); have n5_ := Aside0.mk ((by rw [hg]; exact (below_size (by repeat (first | (with_reducible first | exact HB.out | apply below_alloc | apply pw_below_drewN | apply below_drew1 | refine below_set ?_ GE502.out | refine below_set ?_ GE503.out | refine below_set ?_ GE504.out) | exact HB.out))) : w.heap.size ≤ gb505)); have n6_ := Aside0.mk ((by rw [hg]; exact (below_size (by repeat (first | (with_reducible first | exact HB.out | apply below_alloc | apply pw_below_drewN | apply below_drew1 | refine below_set ?_ GE502.out | refine below_set ?_ GE503.out | refine below_set ?_ GE504.out) | exact HB.out))) : w.heap.size ≤ gb505)); have n7_ := Aside0.mk ((by rw [hg]; exact Nat.ne_of_lt (blk_lt (g := gb502) (o := .cells #[.int .i64 a0_0, .int .i64 a0_1] 23 (0, 0)) (bk BK502.out)) : gb502 ≠ gb505)); have n8_ := Aside0.mk ((by rw [hg]; exact Nat.ne_of_gt (blk_lt (g := gb502) (o := .cells #[.int .i64 a0_0, .int .i64 a0_1] 23 (0, 0)) (bk BK502.out)) : gb505 ≠ gb502)); have n9_ := Aside0.mk ((by rw [hg]; exact Nat.ne_of_lt (blk_lt (g := gb503) (o := .cells #[.int .i64 a1_0, .int .i64 a1_1] 23 (0, 0)) (bk BK503.out)) : gb503 ≠ gb505)); have n10_ := Aside0.mk ((by rw [hg]; exact Nat.ne_of_gt (blk_lt (g := gb503) (o := .cells #[.int .i64 a1_0, .int .i64 a1_1] 23 (0, 0)) (bk BK503.out)) : gb505 ≠ gb503)); have n11_ := Aside0.mk ((by rw [hg]; exact Nat.ne_of_lt (blk_lt (g := gb504) (o := .cells #[.int .i64 a2_0, .int .i64 a2_1] 23 (0, 0)) (bk BK504.out)) : gb504 ≠ gb505)); have n12_ := Aside0.mk ((by rw [hg]; exact Nat.ne_of_gt (blk_lt (g := gb504) (o := .cells #[.int .i64 a2_0, .int .i64 a2_1] 23 (0, 0)) (bk BK504.out)) : gb505 ≠ gb504)); clear BK502; clear BK503; clear BK504; clear HB; have BK502 := n0_; have BK503 := n1_; have BK504 := n2_; have HB := n3_; have BK505 := n4_; have GW505 := n5_; have GE505 := n6_; have NB502_505 := n7_; have NB505_502 := n8_; have NB503_505 := n9_; have NB505_503 := n10_; have NB504_505 := n11_; have NB505_504 := n12_; clear n0_ n1_ n2_ n3_ n4_ n5_ n6_ n7_ n8_ n9_ n10_ n11_ n12_; clear hb hbox hg))
 (try simp only [Act.put, List.setIfInBounds_toArray, List.set_cons_zero, List.set_cons_succ])
 go_cut [36] (fun v36 wc => ∃ (kq : Nat) (x36_4 : Bool), v36 = .bool x36_4 ∧ Aside0 (zelligeref07_Where.j0 kq x36_4 a0_0 a0_1 a1_0 a1_1 a2_0 a2_1 a3_0 a3_1 = some r) ∧ Aside0 (kq ≤ k) ∧ Aside0 (wc.heap[gb502]? = some (.cells #[.int .i64 a0_0, .int .i64 a0_1] 23 (0, 0))) ∧ Aside0 (wc.heap[gb503]? = some (.cells #[.int .i64 a1_0, .int .i64 a1_1] 23 (0, 0))) ∧ Aside0 (wc.heap[gb504]? = some (.cells #[.int .i64 a2_0, .int .i64 a2_1] 23 (0, 0))) ∧ Aside0 (wc.heap[gb505]? = some (.cells #[.int .i64 a3_0, .int .i64 a3_1] 23 (0, 0))) ∧ Aside0 (Below w.heap.size w wc))
 case first =>
  have H := HC5.out
  clear HC5
  replace H := Option.bind_eq_some_iff.mp H
  obtain ⟨t506, A100, H⟩ := H
  replace H : (if t506 = true then ((zelligeref06_Can.f a1_0 a1_1).bind fun t507 => (if t507 = true then ((zelligeref06_Can.f a2_0 a2_1).bind fun t508 => (if t508 = true then ((zelligeref06_Can.f a3_0 a3_1).bind fun t509 => (if t509 = true then ((zelligeref07_Orient.f k a0_0 a0_1 a1_0 a1_1 a2_0 a2_1).bind fun t510 => (zelligeref07_Where.j0 k (t510 != 1) a0_0 a0_1 a1_0 a1_1 a2_0 a2_1 a3_0 a3_1)) else (zelligeref07_Where.j0 k true a0_0 a0_1 a1_0 a1_1 a2_0 a2_1 a3_0 a3_1))) else (zelligeref07_Where.j0 k true a0_0 a0_1 a1_0 a1_1 a2_0 a2_1 a3_0 a3_1))) else (zelligeref07_Where.j0 k true a0_0 a0_1 a1_0 a1_1 a2_0 a2_1 a3_0 a3_1))) else (zelligeref07_Where.j0 k true a0_0 a0_1 a1_0 a1_1 a2_0 a2_1 a3_0 a3_1)) = some r := H
  have A10 := Aside0.mk A100
  clear A100
  by_cases c11 : t506 = true
  ·subst c11
   have H1 : ((zelligeref06_Can.f a1_0 a1_1).bind fun t507 => (if t507 = true then ((zelligeref06_Can.f a2_0 a2_1).bind fun t508 => (if t508 = true then ((zelligeref06_Can.f a3_0 a3_1).bind fun t509 => (if t509 = true then ((zelligeref07_Orient.f k a0_0 a0_1 a1_0 a1_1 a2_0 a2_1).bind fun t510 => (zelligeref07_Where.j0 k (t510 != 1) a0_0 a0_1 a1_0 a1_1 a2_0 a2_1 a3_0 a3_1)) else (zelligeref07_Where.j0 k true a0_0 a0_1 a1_0 a1_1 a2_0 a2_1 a3_0 a3_1))) else (zelligeref07_Where.j0 k true a0_0 a0_1 a1_0 a1_1 a2_0 a2_1 a3_0 a3_1))) else (zelligeref07_Where.j0 k true a0_0 a0_1 a1_0 a1_1 a2_0 a2_1 a3_0 a3_1))) = some r := by rw [if_pos rfl] at H; exact H
   clear H
   have H := H1
   clear H1
   replace H := Option.bind_eq_some_iff.mp H
   obtain ⟨t507, A120, H⟩ := H
   replace H : (if t507 = true then ((zelligeref06_Can.f a2_0 a2_1).bind fun t508 => (if t508 = true then ((zelligeref06_Can.f a3_0 a3_1).bind fun t509 => (if t509 = true then ((zelligeref07_Orient.f k a0_0 a0_1 a1_0 a1_1 a2_0 a2_1).bind fun t510 => (zelligeref07_Where.j0 k (t510 != 1) a0_0 a0_1 a1_0 a1_1 a2_0 a2_1 a3_0 a3_1)) else (zelligeref07_Where.j0 k true a0_0 a0_1 a1_0 a1_1 a2_0 a2_1 a3_0 a3_1))) else (zelligeref07_Where.j0 k true a0_0 a0_1 a1_0 a1_1 a2_0 a2_1 a3_0 a3_1))) else (zelligeref07_Where.j0 k true a0_0 a0_1 a1_0 a1_1 a2_0 a2_1 a3_0 a3_1)) = some r := H
   have A12 := Aside0.mk A120
   clear A120
   by_cases c13 : t507 = true
   ·subst c13
    have H1 : ((zelligeref06_Can.f a2_0 a2_1).bind fun t508 => (if t508 = true then ((zelligeref06_Can.f a3_0 a3_1).bind fun t509 => (if t509 = true then ((zelligeref07_Orient.f k a0_0 a0_1 a1_0 a1_1 a2_0 a2_1).bind fun t510 => (zelligeref07_Where.j0 k (t510 != 1) a0_0 a0_1 a1_0 a1_1 a2_0 a2_1 a3_0 a3_1)) else (zelligeref07_Where.j0 k true a0_0 a0_1 a1_0 a1_1 a2_0 a2_1 a3_0 a3_1))) else (zelligeref07_Where.j0 k true a0_0 a0_1 a1_0 a1_1 a2_0 a2_1 a3_0 a3_1))) = some r := by rw [if_pos rfl] at H; exact H
    clear H
    have H := H1
    clear H1
    replace H := Option.bind_eq_some_iff.mp H
    obtain ⟨t508, A140, H⟩ := H
    replace H : (if t508 = true then ((zelligeref06_Can.f a3_0 a3_1).bind fun t509 => (if t509 = true then ((zelligeref07_Orient.f k a0_0 a0_1 a1_0 a1_1 a2_0 a2_1).bind fun t510 => (zelligeref07_Where.j0 k (t510 != 1) a0_0 a0_1 a1_0 a1_1 a2_0 a2_1 a3_0 a3_1)) else (zelligeref07_Where.j0 k true a0_0 a0_1 a1_0 a1_1 a2_0 a2_1 a3_0 a3_1))) else (zelligeref07_Where.j0 k true a0_0 a0_1 a1_0 a1_1 a2_0 a2_1 a3_0 a3_1)) = some r := H
    have A14 := Aside0.mk A140
    clear A140
    by_cases c15 : t508 = true
    ·subst c15
     have H1 : ((zelligeref06_Can.f a3_0 a3_1).bind fun t509 => (if t509 = true then ((zelligeref07_Orient.f k a0_0 a0_1 a1_0 a1_1 a2_0 a2_1).bind fun t510 => (zelligeref07_Where.j0 k (t510 != 1) a0_0 a0_1 a1_0 a1_1 a2_0 a2_1 a3_0 a3_1)) else (zelligeref07_Where.j0 k true a0_0 a0_1 a1_0 a1_1 a2_0 a2_1 a3_0 a3_1))) = some r := by rw [if_pos rfl] at H; exact H
     clear H
     have H := H1
     clear H1
     replace H := Option.bind_eq_some_iff.mp H
     obtain ⟨t509, A160, H⟩ := H
     replace H : (if t509 = true then ((zelligeref07_Orient.f k a0_0 a0_1 a1_0 a1_1 a2_0 a2_1).bind fun t510 => (zelligeref07_Where.j0 k (t510 != 1) a0_0 a0_1 a1_0 a1_1 a2_0 a2_1 a3_0 a3_1)) else (zelligeref07_Where.j0 k true a0_0 a0_1 a1_0 a1_1 a2_0 a2_1 a3_0 a3_1)) = some r := H
     have A16 := Aside0.mk A160
     clear A160
     by_cases c17 : t509 = true
     ·subst c17
      have H1 : ((zelligeref07_Orient.f k a0_0 a0_1 a1_0 a1_1 a2_0 a2_1).bind fun t510 => (zelligeref07_Where.j0 k (t510 != 1) a0_0 a0_1 a1_0 a1_1 a2_0 a2_1 a3_0 a3_1)) = some r := by rw [if_pos rfl] at H; exact H
      clear H
      have H := H1
      clear H1
      replace H := Option.bind_eq_some_iff.mp H
      obtain ⟨t510, A180, H⟩ := H
      replace H : (zelligeref07_Where.j0 k (t510 != 1) a0_0 a0_1 a1_0 a1_1 a2_0 a2_1 a3_0 a3_1) = some r := H
      have A18 := Aside0.mk A180
      clear A180
      have H' := Aside0.mk H
      clear H
      have hnb19 := NB502_503.out
      have hnc19 := NB503_502.out
      have hnb20 := NB502_504.out
      have hnc20 := NB504_502.out
      have hnb21 := NB502_505.out
      have hnc21 := NB505_502.out
      have hcz22_0 : w9.cell? ⟨gb502, 0, none⟩ = some (.int .i64 a0_0) := (blk_cell BK502.out 0).trans rfl
      have hcz22_1 : w9.cell? ⟨gb502, 1, none⟩ = some (.int .i64 a0_1) := (blk_cell BK502.out 1).trans rfl
      have hfz22_0 := blk_frozen BK502.out 0
      have hfz22_1 := blk_frozen BK502.out 1
      go_wp2_with (first | ((with_reducible refine gate_callee (f := 9) rfl ?_); refine goesL_ (some 13) rfl rfl Try.func9 (by kernel_rfl) rfl #[.agg #[.int .i64 a0_0, .int .i64 a0_1]] rfl (by (try simp only [List.map_toArray, List.map_cons, List.map_nil]); first | done | rfl | (simp only [List.length_drop, List.length_take]; rfl)) ?_; (with_reducible refine (zelligeref06_Can.calls a0_0 a0_1 true _ A10.out).mono ?_); rintro e w23 ⟨rfl, hb⟩; refine ⟨_, rfl, ?_⟩; have n0_ := Aside0.mk (blk_below (g := gb502) (o := .cells #[.int .i64 a0_0, .int .i64 a0_1] 23 (0, 0)) (bk BK502.out) hb); have n1_ := Aside0.mk (blk_below (g := gb503) (o := .cells #[.int .i64 a1_0, .int .i64 a1_1] 23 (0, 0)) (bk BK503.out) hb); have n2_ := Aside0.mk (blk_below (g := gb504) (o := .cells #[.int .i64 a2_0, .int .i64 a2_1] 23 (0, 0)) (bk BK504.out) hb); have n3_ := Aside0.mk (blk_below (g := gb505) (o := .cells #[.int .i64 a3_0, .int .i64 a3_1] 23 (0, 0)) (bk BK505.out) hb); have n4_ := Aside0.mk (below_step (by repeat (first | (with_reducible first | exact HB.out | apply below_alloc | apply pw_below_drewN | apply below_drew1 | refine below_set ?_ GE502.out | refine below_set ?_ GE503.out | refine below_set ?_ GE504.out | refine below_set ?_ GE505.out) | exact HB.out)) hb); clear BK502; clear BK503; clear BK504; clear BK505; clear HB; have BK502 := n0_; have BK503 := n1_; have BK504 := n2_; have BK505 := n3_; have HB := n4_; clear n0_ n1_ n2_ n3_ n4_; (try clear hb); (try clear hb2); (try clear hk); (try clear hi); have hnb24 := NB503_504.out; have hnc24 := NB504_503.out; have hnb25 := NB503_505.out; have hnc25 := NB505_503.out; have hcz26_0 : w23.cell? ⟨gb503, 0, none⟩ = some (.int .i64 a1_0) := (blk_cell BK503.out 0).trans rfl; have hcz26_1 : w23.cell? ⟨gb503, 1, none⟩ = some (.int .i64 a1_1) := (blk_cell BK503.out 1).trans rfl; have hfz26_0 := blk_frozen BK503.out 0; have hfz26_1 := blk_frozen BK503.out 1) | (go_at_call 9; (with_reducible refine (zelligeref06_Can.calls a1_0 a1_1 true _ A12.out).mono ?_); rintro e w27 ⟨rfl, hb⟩; have n0_ := Aside0.mk (blk_below (g := gb502) (o := .cells #[.int .i64 a0_0, .int .i64 a0_1] 23 (0, 0)) (bk BK502.out) hb); have n1_ := Aside0.mk (blk_below (g := gb503) (o := .cells #[.int .i64 a1_0, .int .i64 a1_1] 23 (0, 0)) (bk BK503.out) hb); have n2_ := Aside0.mk (blk_below (g := gb504) (o := .cells #[.int .i64 a2_0, .int .i64 a2_1] 23 (0, 0)) (bk BK504.out) hb); have n3_ := Aside0.mk (blk_below (g := gb505) (o := .cells #[.int .i64 a3_0, .int .i64 a3_1] 23 (0, 0)) (bk BK505.out) hb); have n4_ := Aside0.mk (below_step (by repeat (first | (with_reducible first | exact HB.out | apply below_alloc | apply pw_below_drewN | apply below_drew1 | refine below_set ?_ GE502.out | refine below_set ?_ GE503.out | refine below_set ?_ GE504.out | refine below_set ?_ GE505.out) | exact HB.out)) hb); clear BK502; clear BK503; clear BK504; clear BK505; clear HB; have BK502 := n0_; have BK503 := n1_; have BK504 := n2_; have BK505 := n3_; have HB := n4_; clear n0_ n1_ n2_ n3_ n4_; (try clear hb); (try clear hb2); (try clear hk); (try clear hi); have hnb28 := NB504_505.out; have hnc28 := NB505_504.out; have hcz29_0 : w27.cell? ⟨gb504, 0, none⟩ = some (.int .i64 a2_0) := (blk_cell BK504.out 0).trans rfl; have hcz29_1 : w27.cell? ⟨gb504, 1, none⟩ = some (.int .i64 a2_1) := (blk_cell BK504.out 1).trans rfl; have hfz29_0 := blk_frozen BK504.out 0; have hfz29_1 := blk_frozen BK504.out 1) | (go_at_call 9; (with_reducible refine (zelligeref06_Can.calls a2_0 a2_1 true _ A14.out).mono ?_); rintro e w30 ⟨rfl, hb⟩; have n0_ := Aside0.mk (blk_below (g := gb502) (o := .cells #[.int .i64 a0_0, .int .i64 a0_1] 23 (0, 0)) (bk BK502.out) hb); have n1_ := Aside0.mk (blk_below (g := gb503) (o := .cells #[.int .i64 a1_0, .int .i64 a1_1] 23 (0, 0)) (bk BK503.out) hb); have n2_ := Aside0.mk (blk_below (g := gb504) (o := .cells #[.int .i64 a2_0, .int .i64 a2_1] 23 (0, 0)) (bk BK504.out) hb); have n3_ := Aside0.mk (blk_below (g := gb505) (o := .cells #[.int .i64 a3_0, .int .i64 a3_1] 23 (0, 0)) (bk BK505.out) hb); have n4_ := Aside0.mk (below_step (by repeat (first | (with_reducible first | exact HB.out | apply below_alloc | apply pw_below_drewN | apply below_drew1 | refine below_set ?_ GE502.out | refine below_set ?_ GE503.out | refine below_set ?_ GE504.out | refine below_set ?_ GE505.out) | exact HB.out)) hb); clear BK502; clear BK503; clear BK504; clear BK505; clear HB; have BK502 := n0_; have BK503 := n1_; have BK504 := n2_; have BK505 := n3_; have HB := n4_; clear n0_ n1_ n2_ n3_ n4_; (try clear hb); (try clear hb2); (try clear hk); (try clear hi); have hcz31_0 : w30.cell? ⟨gb505, 0, none⟩ = some (.int .i64 a3_0) := (blk_cell BK505.out 0).trans rfl; have hcz31_1 : w30.cell? ⟨gb505, 1, none⟩ = some (.int .i64 a3_1) := (blk_cell BK505.out 1).trans rfl; have hfz31_0 := blk_frozen BK505.out 0; have hfz31_1 := blk_frozen BK505.out 1) | (go_at_call 9; (with_reducible refine (zelligeref06_Can.calls a3_0 a3_1 true _ A16.out).mono ?_); rintro e w32 ⟨rfl, hb⟩; have n0_ := Aside0.mk (blk_below (g := gb502) (o := .cells #[.int .i64 a0_0, .int .i64 a0_1] 23 (0, 0)) (bk BK502.out) hb); have n1_ := Aside0.mk (blk_below (g := gb503) (o := .cells #[.int .i64 a1_0, .int .i64 a1_1] 23 (0, 0)) (bk BK503.out) hb); have n2_ := Aside0.mk (blk_below (g := gb504) (o := .cells #[.int .i64 a2_0, .int .i64 a2_1] 23 (0, 0)) (bk BK504.out) hb); have n3_ := Aside0.mk (blk_below (g := gb505) (o := .cells #[.int .i64 a3_0, .int .i64 a3_1] 23 (0, 0)) (bk BK505.out) hb); have n4_ := Aside0.mk (below_step (by repeat (first | (with_reducible first | exact HB.out | apply below_alloc | apply pw_below_drewN | apply below_drew1 | refine below_set ?_ GE502.out | refine below_set ?_ GE503.out | refine below_set ?_ GE504.out | refine below_set ?_ GE505.out) | exact HB.out)) hb); clear BK502; clear BK503; clear BK504; clear BK505; clear HB; have BK502 := n0_; have BK503 := n1_; have BK504 := n2_; have BK505 := n3_; have HB := n4_; clear n0_ n1_ n2_ n3_ n4_; (try clear hb); (try clear hb2); (try clear hk); (try clear hi); have hcz33_0 : w32.cell? ⟨gb502, 0, none⟩ = some (.int .i64 a0_0) := (blk_cell BK502.out 0).trans rfl; have hcz33_1 : w32.cell? ⟨gb502, 1, none⟩ = some (.int .i64 a0_1) := (blk_cell BK502.out 1).trans rfl; have hfz33_0 := blk_frozen BK502.out 0; have hfz33_1 := blk_frozen BK502.out 1; have hcz34_0 : w32.cell? ⟨gb503, 0, none⟩ = some (.int .i64 a1_0) := (blk_cell BK503.out 0).trans rfl; have hcz34_1 : w32.cell? ⟨gb503, 1, none⟩ = some (.int .i64 a1_1) := (blk_cell BK503.out 1).trans rfl; have hfz34_0 := blk_frozen BK503.out 0; have hfz34_1 := blk_frozen BK503.out 1; have hcz35_0 : w32.cell? ⟨gb504, 0, none⟩ = some (.int .i64 a2_0) := (blk_cell BK504.out 0).trans rfl; have hcz35_1 : w32.cell? ⟨gb504, 1, none⟩ = some (.int .i64 a2_1) := (blk_cell BK504.out 1).trans rfl; have hfz35_0 := blk_frozen BK504.out 0; have hfz35_1 := blk_frozen BK504.out 1) | (go_at_call 21; (with_reducible refine (zelligeref07_Orient.calls k a0_0 a0_1 a1_0 a1_1 a2_0 a2_1 t510 _ A18.out).mono ?_); rintro e w36 ⟨rfl, hb⟩; have n0_ := Aside0.mk (blk_below (g := gb502) (o := .cells #[.int .i64 a0_0, .int .i64 a0_1] 23 (0, 0)) (bk BK502.out) hb); have n1_ := Aside0.mk (blk_below (g := gb503) (o := .cells #[.int .i64 a1_0, .int .i64 a1_1] 23 (0, 0)) (bk BK503.out) hb); have n2_ := Aside0.mk (blk_below (g := gb504) (o := .cells #[.int .i64 a2_0, .int .i64 a2_1] 23 (0, 0)) (bk BK504.out) hb); have n3_ := Aside0.mk (blk_below (g := gb505) (o := .cells #[.int .i64 a3_0, .int .i64 a3_1] 23 (0, 0)) (bk BK505.out) hb); have n4_ := Aside0.mk (below_step (by repeat (first | (with_reducible first | exact HB.out | apply below_alloc | apply pw_below_drewN | apply below_drew1 | refine below_set ?_ GE502.out | refine below_set ?_ GE503.out | refine below_set ?_ GE504.out | refine below_set ?_ GE505.out) | exact HB.out)) hb); clear BK502; clear BK503; clear BK504; clear BK505; clear HB; have BK502 := n0_; have BK503 := n1_; have BK504 := n2_; have BK505 := n3_; have HB := n4_; clear n0_ n1_ n2_ n3_ n4_; (try clear hb); (try clear hb2); (try clear hk); (try clear hi)))
      go_meet
      case rel => exact ⟨_, ((t510 != 1)), (by first | rfl | (simp; done) | (simp [*]; done)), H', ⟨by first | omega | exact Nat.le_refl _⟩, ⟨by (with_reducible repeat (first | refine blk_drewN ?_ _ | refine blk_drew ?_ | refine blk_alloc ?_ _)); exact BK502.out⟩, ⟨by (with_reducible repeat (first | refine blk_drewN ?_ _ | refine blk_drew ?_ | refine blk_alloc ?_ _)); exact BK503.out⟩, ⟨by (with_reducible repeat (first | refine blk_drewN ?_ _ | refine blk_drew ?_ | refine blk_alloc ?_ _)); exact BK504.out⟩, ⟨by (with_reducible repeat (first | refine blk_drewN ?_ _ | refine blk_drew ?_ | refine blk_alloc ?_ _)); exact BK505.out⟩, ⟨by repeat (first | (with_reducible first | exact HB.out | apply below_alloc | apply pw_below_drewN | apply below_drew1 | refine below_set ?_ GE502.out | refine below_set ?_ GE503.out | refine below_set ?_ GE504.out | refine below_set ?_ GE505.out) | exact HB.out)⟩⟩
     ·replace c17 := Bool.eq_false_iff.mpr c17
      subst c17
      have H1 : (zelligeref07_Where.j0 k true a0_0 a0_1 a1_0 a1_1 a2_0 a2_1 a3_0 a3_1) = some r := by rw [if_neg (show ¬ (false = true) by decide)] at H; exact H
      clear H
      have H := H1
      clear H1
      have H' := Aside0.mk H
      clear H
      have hnb37 := NB502_503.out
      have hnc37 := NB503_502.out
      have hnb38 := NB502_504.out
      have hnc38 := NB504_502.out
      have hnb39 := NB502_505.out
      have hnc39 := NB505_502.out
      have hcz40_0 : w9.cell? ⟨gb502, 0, none⟩ = some (.int .i64 a0_0) := (blk_cell BK502.out 0).trans rfl
      have hcz40_1 : w9.cell? ⟨gb502, 1, none⟩ = some (.int .i64 a0_1) := (blk_cell BK502.out 1).trans rfl
      have hfz40_0 := blk_frozen BK502.out 0
      have hfz40_1 := blk_frozen BK502.out 1
      go_wp2_with (first | ((with_reducible refine gate_callee (f := 9) rfl ?_); refine goesL_ (some 13) rfl rfl Try.func9 (by kernel_rfl) rfl #[.agg #[.int .i64 a0_0, .int .i64 a0_1]] rfl (by (try simp only [List.map_toArray, List.map_cons, List.map_nil]); first | done | rfl | (simp only [List.length_drop, List.length_take]; rfl)) ?_; (with_reducible refine (zelligeref06_Can.calls a0_0 a0_1 true _ A10.out).mono ?_); rintro e w41 ⟨rfl, hb⟩; refine ⟨_, rfl, ?_⟩; have n0_ := Aside0.mk (blk_below (g := gb502) (o := .cells #[.int .i64 a0_0, .int .i64 a0_1] 23 (0, 0)) (bk BK502.out) hb); have n1_ := Aside0.mk (blk_below (g := gb503) (o := .cells #[.int .i64 a1_0, .int .i64 a1_1] 23 (0, 0)) (bk BK503.out) hb); have n2_ := Aside0.mk (blk_below (g := gb504) (o := .cells #[.int .i64 a2_0, .int .i64 a2_1] 23 (0, 0)) (bk BK504.out) hb); have n3_ := Aside0.mk (blk_below (g := gb505) (o := .cells #[.int .i64 a3_0, .int .i64 a3_1] 23 (0, 0)) (bk BK505.out) hb); have n4_ := Aside0.mk (below_step (by repeat (first | (with_reducible first | exact HB.out | apply below_alloc | apply pw_below_drewN | apply below_drew1 | refine below_set ?_ GE502.out | refine below_set ?_ GE503.out | refine below_set ?_ GE504.out | refine below_set ?_ GE505.out) | exact HB.out)) hb); clear BK502; clear BK503; clear BK504; clear BK505; clear HB; have BK502 := n0_; have BK503 := n1_; have BK504 := n2_; have BK505 := n3_; have HB := n4_; clear n0_ n1_ n2_ n3_ n4_; (try clear hb); (try clear hb2); (try clear hk); (try clear hi); have hnb42 := NB503_504.out; have hnc42 := NB504_503.out; have hnb43 := NB503_505.out; have hnc43 := NB505_503.out; have hcz44_0 : w41.cell? ⟨gb503, 0, none⟩ = some (.int .i64 a1_0) := (blk_cell BK503.out 0).trans rfl; have hcz44_1 : w41.cell? ⟨gb503, 1, none⟩ = some (.int .i64 a1_1) := (blk_cell BK503.out 1).trans rfl; have hfz44_0 := blk_frozen BK503.out 0; have hfz44_1 := blk_frozen BK503.out 1) | (go_at_call 9; (with_reducible refine (zelligeref06_Can.calls a1_0 a1_1 true _ A12.out).mono ?_); rintro e w45 ⟨rfl, hb⟩; have n0_ := Aside0.mk (blk_below (g := gb502) (o := .cells #[.int .i64 a0_0, .int .i64 a0_1] 23 (0, 0)) (bk BK502.out) hb); have n1_ := Aside0.mk (blk_below (g := gb503) (o := .cells #[.int .i64 a1_0, .int .i64 a1_1] 23 (0, 0)) (bk BK503.out) hb); have n2_ := Aside0.mk (blk_below (g := gb504) (o := .cells #[.int .i64 a2_0, .int .i64 a2_1] 23 (0, 0)) (bk BK504.out) hb); have n3_ := Aside0.mk (blk_below (g := gb505) (o := .cells #[.int .i64 a3_0, .int .i64 a3_1] 23 (0, 0)) (bk BK505.out) hb); have n4_ := Aside0.mk (below_step (by repeat (first | (with_reducible first | exact HB.out | apply below_alloc | apply pw_below_drewN | apply below_drew1 | refine below_set ?_ GE502.out | refine below_set ?_ GE503.out | refine below_set ?_ GE504.out | refine below_set ?_ GE505.out) | exact HB.out)) hb); clear BK502; clear BK503; clear BK504; clear BK505; clear HB; have BK502 := n0_; have BK503 := n1_; have BK504 := n2_; have BK505 := n3_; have HB := n4_; clear n0_ n1_ n2_ n3_ n4_; (try clear hb); (try clear hb2); (try clear hk); (try clear hi); have hnb46 := NB504_505.out; have hnc46 := NB505_504.out; have hcz47_0 : w45.cell? ⟨gb504, 0, none⟩ = some (.int .i64 a2_0) := (blk_cell BK504.out 0).trans rfl; have hcz47_1 : w45.cell? ⟨gb504, 1, none⟩ = some (.int .i64 a2_1) := (blk_cell BK504.out 1).trans rfl; have hfz47_0 := blk_frozen BK504.out 0; have hfz47_1 := blk_frozen BK504.out 1) | (go_at_call 9; (with_reducible refine (zelligeref06_Can.calls a2_0 a2_1 true _ A14.out).mono ?_); rintro e w48 ⟨rfl, hb⟩; have n0_ := Aside0.mk (blk_below (g := gb502) (o := .cells #[.int .i64 a0_0, .int .i64 a0_1] 23 (0, 0)) (bk BK502.out) hb); have n1_ := Aside0.mk (blk_below (g := gb503) (o := .cells #[.int .i64 a1_0, .int .i64 a1_1] 23 (0, 0)) (bk BK503.out) hb); have n2_ := Aside0.mk (blk_below (g := gb504) (o := .cells #[.int .i64 a2_0, .int .i64 a2_1] 23 (0, 0)) (bk BK504.out) hb); have n3_ := Aside0.mk (blk_below (g := gb505) (o := .cells #[.int .i64 a3_0, .int .i64 a3_1] 23 (0, 0)) (bk BK505.out) hb); have n4_ := Aside0.mk (below_step (by repeat (first | (with_reducible first | exact HB.out | apply below_alloc | apply pw_below_drewN | apply below_drew1 | refine below_set ?_ GE502.out | refine below_set ?_ GE503.out | refine below_set ?_ GE504.out | refine below_set ?_ GE505.out) | exact HB.out)) hb); clear BK502; clear BK503; clear BK504; clear BK505; clear HB; have BK502 := n0_; have BK503 := n1_; have BK504 := n2_; have BK505 := n3_; have HB := n4_; clear n0_ n1_ n2_ n3_ n4_; (try clear hb); (try clear hb2); (try clear hk); (try clear hi); have hcz49_0 : w48.cell? ⟨gb505, 0, none⟩ = some (.int .i64 a3_0) := (blk_cell BK505.out 0).trans rfl; have hcz49_1 : w48.cell? ⟨gb505, 1, none⟩ = some (.int .i64 a3_1) := (blk_cell BK505.out 1).trans rfl; have hfz49_0 := blk_frozen BK505.out 0; have hfz49_1 := blk_frozen BK505.out 1) | (go_at_call 9; (with_reducible refine (zelligeref06_Can.calls a3_0 a3_1 false _ A16.out).mono ?_); rintro e w50 ⟨rfl, hb⟩; have n0_ := Aside0.mk (blk_below (g := gb502) (o := .cells #[.int .i64 a0_0, .int .i64 a0_1] 23 (0, 0)) (bk BK502.out) hb); have n1_ := Aside0.mk (blk_below (g := gb503) (o := .cells #[.int .i64 a1_0, .int .i64 a1_1] 23 (0, 0)) (bk BK503.out) hb); have n2_ := Aside0.mk (blk_below (g := gb504) (o := .cells #[.int .i64 a2_0, .int .i64 a2_1] 23 (0, 0)) (bk BK504.out) hb); have n3_ := Aside0.mk (blk_below (g := gb505) (o := .cells #[.int .i64 a3_0, .int .i64 a3_1] 23 (0, 0)) (bk BK505.out) hb); have n4_ := Aside0.mk (below_step (by repeat (first | (with_reducible first | exact HB.out | apply below_alloc | apply pw_below_drewN | apply below_drew1 | refine below_set ?_ GE502.out | refine below_set ?_ GE503.out | refine below_set ?_ GE504.out | refine below_set ?_ GE505.out) | exact HB.out)) hb); clear BK502; clear BK503; clear BK504; clear BK505; clear HB; have BK502 := n0_; have BK503 := n1_; have BK504 := n2_; have BK505 := n3_; have HB := n4_; clear n0_ n1_ n2_ n3_ n4_; (try clear hb); (try clear hb2); (try clear hk); (try clear hi)))
      go_meet
      case rel => exact ⟨_, (true), (by first | rfl | (simp; done) | (simp [*]; done)), H', ⟨by first | omega | exact Nat.le_refl _⟩, ⟨by (with_reducible repeat (first | refine blk_drewN ?_ _ | refine blk_drew ?_ | refine blk_alloc ?_ _)); exact BK502.out⟩, ⟨by (with_reducible repeat (first | refine blk_drewN ?_ _ | refine blk_drew ?_ | refine blk_alloc ?_ _)); exact BK503.out⟩, ⟨by (with_reducible repeat (first | refine blk_drewN ?_ _ | refine blk_drew ?_ | refine blk_alloc ?_ _)); exact BK504.out⟩, ⟨by (with_reducible repeat (first | refine blk_drewN ?_ _ | refine blk_drew ?_ | refine blk_alloc ?_ _)); exact BK505.out⟩, ⟨by repeat (first | (with_reducible first | exact HB.out | apply below_alloc | apply pw_below_drewN | apply below_drew1 | refine below_set ?_ GE502.out | refine below_set ?_ GE503.out | refine below_set ?_ GE504.out | refine below_set ?_ GE505.out) | exact HB.out)⟩⟩
    ·replace c15 := Bool.eq_false_iff.mpr c15
     subst c15
     have H1 : (zelligeref07_Where.j0 k true a0_0 a0_1 a1_0 a1_1 a2_0 a2_1 a3_0 a3_1) = some r := by rw [if_neg (show ¬ (false = true) by decide)] at H; exact H
     clear H
     have H := H1
     clear H1
     have H' := Aside0.mk H
     clear H
     have hnb51 := NB502_503.out
     have hnc51 := NB503_502.out
     have hnb52 := NB502_504.out
     have hnc52 := NB504_502.out
     have hnb53 := NB502_505.out
     have hnc53 := NB505_502.out
     have hcz54_0 : w9.cell? ⟨gb502, 0, none⟩ = some (.int .i64 a0_0) := (blk_cell BK502.out 0).trans rfl
     have hcz54_1 : w9.cell? ⟨gb502, 1, none⟩ = some (.int .i64 a0_1) := (blk_cell BK502.out 1).trans rfl
     have hfz54_0 := blk_frozen BK502.out 0
     have hfz54_1 := blk_frozen BK502.out 1
     go_wp2_with (first | ((with_reducible refine gate_callee (f := 9) rfl ?_); refine goesL_ (some 13) rfl rfl Try.func9 (by kernel_rfl) rfl #[.agg #[.int .i64 a0_0, .int .i64 a0_1]] rfl (by (try simp only [List.map_toArray, List.map_cons, List.map_nil]); first | done | rfl | (simp only [List.length_drop, List.length_take]; rfl)) ?_; (with_reducible refine (zelligeref06_Can.calls a0_0 a0_1 true _ A10.out).mono ?_); rintro e w55 ⟨rfl, hb⟩; refine ⟨_, rfl, ?_⟩; have n0_ := Aside0.mk (blk_below (g := gb502) (o := .cells #[.int .i64 a0_0, .int .i64 a0_1] 23 (0, 0)) (bk BK502.out) hb); have n1_ := Aside0.mk (blk_below (g := gb503) (o := .cells #[.int .i64 a1_0, .int .i64 a1_1] 23 (0, 0)) (bk BK503.out) hb); have n2_ := Aside0.mk (blk_below (g := gb504) (o := .cells #[.int .i64 a2_0, .int .i64 a2_1] 23 (0, 0)) (bk BK504.out) hb); have n3_ := Aside0.mk (blk_below (g := gb505) (o := .cells #[.int .i64 a3_0, .int .i64 a3_1] 23 (0, 0)) (bk BK505.out) hb); have n4_ := Aside0.mk (below_step (by repeat (first | (with_reducible first | exact HB.out | apply below_alloc | apply pw_below_drewN | apply below_drew1 | refine below_set ?_ GE502.out | refine below_set ?_ GE503.out | refine below_set ?_ GE504.out | refine below_set ?_ GE505.out) | exact HB.out)) hb); clear BK502; clear BK503; clear BK504; clear BK505; clear HB; have BK502 := n0_; have BK503 := n1_; have BK504 := n2_; have BK505 := n3_; have HB := n4_; clear n0_ n1_ n2_ n3_ n4_; (try clear hb); (try clear hb2); (try clear hk); (try clear hi); have hnb56 := NB503_504.out; have hnc56 := NB504_503.out; have hnb57 := NB503_505.out; have hnc57 := NB505_503.out; have hcz58_0 : w55.cell? ⟨gb503, 0, none⟩ = some (.int .i64 a1_0) := (blk_cell BK503.out 0).trans rfl; have hcz58_1 : w55.cell? ⟨gb503, 1, none⟩ = some (.int .i64 a1_1) := (blk_cell BK503.out 1).trans rfl; have hfz58_0 := blk_frozen BK503.out 0; have hfz58_1 := blk_frozen BK503.out 1) | (go_at_call 9; (with_reducible refine (zelligeref06_Can.calls a1_0 a1_1 true _ A12.out).mono ?_); rintro e w59 ⟨rfl, hb⟩; have n0_ := Aside0.mk (blk_below (g := gb502) (o := .cells #[.int .i64 a0_0, .int .i64 a0_1] 23 (0, 0)) (bk BK502.out) hb); have n1_ := Aside0.mk (blk_below (g := gb503) (o := .cells #[.int .i64 a1_0, .int .i64 a1_1] 23 (0, 0)) (bk BK503.out) hb); have n2_ := Aside0.mk (blk_below (g := gb504) (o := .cells #[.int .i64 a2_0, .int .i64 a2_1] 23 (0, 0)) (bk BK504.out) hb); have n3_ := Aside0.mk (blk_below (g := gb505) (o := .cells #[.int .i64 a3_0, .int .i64 a3_1] 23 (0, 0)) (bk BK505.out) hb); have n4_ := Aside0.mk (below_step (by repeat (first | (with_reducible first | exact HB.out | apply below_alloc | apply pw_below_drewN | apply below_drew1 | refine below_set ?_ GE502.out | refine below_set ?_ GE503.out | refine below_set ?_ GE504.out | refine below_set ?_ GE505.out) | exact HB.out)) hb); clear BK502; clear BK503; clear BK504; clear BK505; clear HB; have BK502 := n0_; have BK503 := n1_; have BK504 := n2_; have BK505 := n3_; have HB := n4_; clear n0_ n1_ n2_ n3_ n4_; (try clear hb); (try clear hb2); (try clear hk); (try clear hi); have hnb60 := NB504_505.out; have hnc60 := NB505_504.out; have hcz61_0 : w59.cell? ⟨gb504, 0, none⟩ = some (.int .i64 a2_0) := (blk_cell BK504.out 0).trans rfl; have hcz61_1 : w59.cell? ⟨gb504, 1, none⟩ = some (.int .i64 a2_1) := (blk_cell BK504.out 1).trans rfl; have hfz61_0 := blk_frozen BK504.out 0; have hfz61_1 := blk_frozen BK504.out 1) | (go_at_call 9; (with_reducible refine (zelligeref06_Can.calls a2_0 a2_1 false _ A14.out).mono ?_); rintro e w62 ⟨rfl, hb⟩; have n0_ := Aside0.mk (blk_below (g := gb502) (o := .cells #[.int .i64 a0_0, .int .i64 a0_1] 23 (0, 0)) (bk BK502.out) hb); have n1_ := Aside0.mk (blk_below (g := gb503) (o := .cells #[.int .i64 a1_0, .int .i64 a1_1] 23 (0, 0)) (bk BK503.out) hb); have n2_ := Aside0.mk (blk_below (g := gb504) (o := .cells #[.int .i64 a2_0, .int .i64 a2_1] 23 (0, 0)) (bk BK504.out) hb); have n3_ := Aside0.mk (blk_below (g := gb505) (o := .cells #[.int .i64 a3_0, .int .i64 a3_1] 23 (0, 0)) (bk BK505.out) hb); have n4_ := Aside0.mk (below_step (by repeat (first | (with_reducible first | exact HB.out | apply below_alloc | apply pw_below_drewN | apply below_drew1 | refine below_set ?_ GE502.out | refine below_set ?_ GE503.out | refine below_set ?_ GE504.out | refine below_set ?_ GE505.out) | exact HB.out)) hb); clear BK502; clear BK503; clear BK504; clear BK505; clear HB; have BK502 := n0_; have BK503 := n1_; have BK504 := n2_; have BK505 := n3_; have HB := n4_; clear n0_ n1_ n2_ n3_ n4_; (try clear hb); (try clear hb2); (try clear hk); (try clear hi)))
     go_meet
     case rel => exact ⟨_, (true), (by first | rfl | (simp; done) | (simp [*]; done)), H', ⟨by first | omega | exact Nat.le_refl _⟩, ⟨by (with_reducible repeat (first | refine blk_drewN ?_ _ | refine blk_drew ?_ | refine blk_alloc ?_ _)); exact BK502.out⟩, ⟨by (with_reducible repeat (first | refine blk_drewN ?_ _ | refine blk_drew ?_ | refine blk_alloc ?_ _)); exact BK503.out⟩, ⟨by (with_reducible repeat (first | refine blk_drewN ?_ _ | refine blk_drew ?_ | refine blk_alloc ?_ _)); exact BK504.out⟩, ⟨by (with_reducible repeat (first | refine blk_drewN ?_ _ | refine blk_drew ?_ | refine blk_alloc ?_ _)); exact BK505.out⟩, ⟨by repeat (first | (with_reducible first | exact HB.out | apply below_alloc | apply pw_below_drewN | apply below_drew1 | refine below_set ?_ GE502.out | refine below_set ?_ GE503.out | refine below_set ?_ GE504.out | refine below_set ?_ GE505.out) | exact HB.out)⟩⟩
   ·replace c13 := Bool.eq_false_iff.mpr c13
    subst c13
    have H1 : (zelligeref07_Where.j0 k true a0_0 a0_1 a1_0 a1_1 a2_0 a2_1 a3_0 a3_1) = some r := by rw [if_neg (show ¬ (false = true) by decide)] at H; exact H
    clear H
    have H := H1
    clear H1
    have H' := Aside0.mk H
    clear H
    have hnb63 := NB502_503.out
    have hnc63 := NB503_502.out
    have hnb64 := NB502_504.out
    have hnc64 := NB504_502.out
    have hnb65 := NB502_505.out
    have hnc65 := NB505_502.out
    have hcz66_0 : w9.cell? ⟨gb502, 0, none⟩ = some (.int .i64 a0_0) := (blk_cell BK502.out 0).trans rfl
    have hcz66_1 : w9.cell? ⟨gb502, 1, none⟩ = some (.int .i64 a0_1) := (blk_cell BK502.out 1).trans rfl
    have hfz66_0 := blk_frozen BK502.out 0
    have hfz66_1 := blk_frozen BK502.out 1
    go_wp2_with (first | ((with_reducible refine gate_callee (f := 9) rfl ?_); refine goesL_ (some 13) rfl rfl Try.func9 (by kernel_rfl) rfl #[.agg #[.int .i64 a0_0, .int .i64 a0_1]] rfl (by (try simp only [List.map_toArray, List.map_cons, List.map_nil]); first | done | rfl | (simp only [List.length_drop, List.length_take]; rfl)) ?_; (with_reducible refine (zelligeref06_Can.calls a0_0 a0_1 true _ A10.out).mono ?_); rintro e w67 ⟨rfl, hb⟩; refine ⟨_, rfl, ?_⟩; have n0_ := Aside0.mk (blk_below (g := gb502) (o := .cells #[.int .i64 a0_0, .int .i64 a0_1] 23 (0, 0)) (bk BK502.out) hb); have n1_ := Aside0.mk (blk_below (g := gb503) (o := .cells #[.int .i64 a1_0, .int .i64 a1_1] 23 (0, 0)) (bk BK503.out) hb); have n2_ := Aside0.mk (blk_below (g := gb504) (o := .cells #[.int .i64 a2_0, .int .i64 a2_1] 23 (0, 0)) (bk BK504.out) hb); have n3_ := Aside0.mk (blk_below (g := gb505) (o := .cells #[.int .i64 a3_0, .int .i64 a3_1] 23 (0, 0)) (bk BK505.out) hb); have n4_ := Aside0.mk (below_step (by repeat (first | (with_reducible first | exact HB.out | apply below_alloc | apply pw_below_drewN | apply below_drew1 | refine below_set ?_ GE502.out | refine below_set ?_ GE503.out | refine below_set ?_ GE504.out | refine below_set ?_ GE505.out) | exact HB.out)) hb); clear BK502; clear BK503; clear BK504; clear BK505; clear HB; have BK502 := n0_; have BK503 := n1_; have BK504 := n2_; have BK505 := n3_; have HB := n4_; clear n0_ n1_ n2_ n3_ n4_; (try clear hb); (try clear hb2); (try clear hk); (try clear hi); have hnb68 := NB503_504.out; have hnc68 := NB504_503.out; have hnb69 := NB503_505.out; have hnc69 := NB505_503.out; have hcz70_0 : w67.cell? ⟨gb503, 0, none⟩ = some (.int .i64 a1_0) := (blk_cell BK503.out 0).trans rfl; have hcz70_1 : w67.cell? ⟨gb503, 1, none⟩ = some (.int .i64 a1_1) := (blk_cell BK503.out 1).trans rfl; have hfz70_0 := blk_frozen BK503.out 0; have hfz70_1 := blk_frozen BK503.out 1) | (go_at_call 9; (with_reducible refine (zelligeref06_Can.calls a1_0 a1_1 false _ A12.out).mono ?_); rintro e w71 ⟨rfl, hb⟩; have n0_ := Aside0.mk (blk_below (g := gb502) (o := .cells #[.int .i64 a0_0, .int .i64 a0_1] 23 (0, 0)) (bk BK502.out) hb); have n1_ := Aside0.mk (blk_below (g := gb503) (o := .cells #[.int .i64 a1_0, .int .i64 a1_1] 23 (0, 0)) (bk BK503.out) hb); have n2_ := Aside0.mk (blk_below (g := gb504) (o := .cells #[.int .i64 a2_0, .int .i64 a2_1] 23 (0, 0)) (bk BK504.out) hb); have n3_ := Aside0.mk (blk_below (g := gb505) (o := .cells #[.int .i64 a3_0, .int .i64 a3_1] 23 (0, 0)) (bk BK505.out) hb); have n4_ := Aside0.mk (below_step (by repeat (first | (with_reducible first | exact HB.out | apply below_alloc | apply pw_below_drewN | apply below_drew1 | refine below_set ?_ GE502.out | refine below_set ?_ GE503.out | refine below_set ?_ GE504.out | refine below_set ?_ GE505.out) | exact HB.out)) hb); clear BK502; clear BK503; clear BK504; clear BK505; clear HB; have BK502 := n0_; have BK503 := n1_; have BK504 := n2_; have BK505 := n3_; have HB := n4_; clear n0_ n1_ n2_ n3_ n4_; (try clear hb); (try clear hb2); (try clear hk); (try clear hi)))
    go_meet
    case rel => exact ⟨_, (true), (by first | rfl | (simp; done) | (simp [*]; done)), H', ⟨by first | omega | exact Nat.le_refl _⟩, ⟨by (with_reducible repeat (first | refine blk_drewN ?_ _ | refine blk_drew ?_ | refine blk_alloc ?_ _)); exact BK502.out⟩, ⟨by (with_reducible repeat (first | refine blk_drewN ?_ _ | refine blk_drew ?_ | refine blk_alloc ?_ _)); exact BK503.out⟩, ⟨by (with_reducible repeat (first | refine blk_drewN ?_ _ | refine blk_drew ?_ | refine blk_alloc ?_ _)); exact BK504.out⟩, ⟨by (with_reducible repeat (first | refine blk_drewN ?_ _ | refine blk_drew ?_ | refine blk_alloc ?_ _)); exact BK505.out⟩, ⟨by repeat (first | (with_reducible first | exact HB.out | apply below_alloc | apply pw_below_drewN | apply below_drew1 | refine below_set ?_ GE502.out | refine below_set ?_ GE503.out | refine below_set ?_ GE504.out | refine below_set ?_ GE505.out) | exact HB.out)⟩⟩
  ·replace c11 := Bool.eq_false_iff.mpr c11
   subst c11
   have H1 : (zelligeref07_Where.j0 k true a0_0 a0_1 a1_0 a1_1 a2_0 a2_1 a3_0 a3_1) = some r := by rw [if_neg (show ¬ (false = true) by decide)] at H; exact H
   clear H
   have H := H1
   clear H1
   have H' := Aside0.mk H
   clear H
   have hnb72 := NB502_503.out
   have hnc72 := NB503_502.out
   have hnb73 := NB502_504.out
   have hnc73 := NB504_502.out
   have hnb74 := NB502_505.out
   have hnc74 := NB505_502.out
   have hcz75_0 : w9.cell? ⟨gb502, 0, none⟩ = some (.int .i64 a0_0) := (blk_cell BK502.out 0).trans rfl
   have hcz75_1 : w9.cell? ⟨gb502, 1, none⟩ = some (.int .i64 a0_1) := (blk_cell BK502.out 1).trans rfl
   have hfz75_0 := blk_frozen BK502.out 0
   have hfz75_1 := blk_frozen BK502.out 1
   go_wp2_with (first | ((with_reducible refine gate_callee (f := 9) rfl ?_); refine goesL_ (some 13) rfl rfl Try.func9 (by kernel_rfl) rfl #[.agg #[.int .i64 a0_0, .int .i64 a0_1]] rfl (by (try simp only [List.map_toArray, List.map_cons, List.map_nil]); first | done | rfl | (simp only [List.length_drop, List.length_take]; rfl)) ?_; (with_reducible refine (zelligeref06_Can.calls a0_0 a0_1 false _ A10.out).mono ?_); rintro e w76 ⟨rfl, hb⟩; refine ⟨_, rfl, ?_⟩; have n0_ := Aside0.mk (blk_below (g := gb502) (o := .cells #[.int .i64 a0_0, .int .i64 a0_1] 23 (0, 0)) (bk BK502.out) hb); have n1_ := Aside0.mk (blk_below (g := gb503) (o := .cells #[.int .i64 a1_0, .int .i64 a1_1] 23 (0, 0)) (bk BK503.out) hb); have n2_ := Aside0.mk (blk_below (g := gb504) (o := .cells #[.int .i64 a2_0, .int .i64 a2_1] 23 (0, 0)) (bk BK504.out) hb); have n3_ := Aside0.mk (blk_below (g := gb505) (o := .cells #[.int .i64 a3_0, .int .i64 a3_1] 23 (0, 0)) (bk BK505.out) hb); have n4_ := Aside0.mk (below_step (by repeat (first | (with_reducible first | exact HB.out | apply below_alloc | apply pw_below_drewN | apply below_drew1 | refine below_set ?_ GE502.out | refine below_set ?_ GE503.out | refine below_set ?_ GE504.out | refine below_set ?_ GE505.out) | exact HB.out)) hb); clear BK502; clear BK503; clear BK504; clear BK505; clear HB; have BK502 := n0_; have BK503 := n1_; have BK504 := n2_; have BK505 := n3_; have HB := n4_; clear n0_ n1_ n2_ n3_ n4_; (try clear hb); (try clear hb2); (try clear hk); (try clear hi)))
   go_meet
   case rel => exact ⟨_, (true), (by first | rfl | (simp; done) | (simp [*]; done)), H', ⟨by first | omega | exact Nat.le_refl _⟩, ⟨by (with_reducible repeat (first | refine blk_drewN ?_ _ | refine blk_drew ?_ | refine blk_alloc ?_ _)); exact BK502.out⟩, ⟨by (with_reducible repeat (first | refine blk_drewN ?_ _ | refine blk_drew ?_ | refine blk_alloc ?_ _)); exact BK503.out⟩, ⟨by (with_reducible repeat (first | refine blk_drewN ?_ _ | refine blk_drew ?_ | refine blk_alloc ?_ _)); exact BK504.out⟩, ⟨by (with_reducible repeat (first | refine blk_drewN ?_ _ | refine blk_drew ?_ | refine blk_alloc ?_ _)); exact BK505.out⟩, ⟨by repeat (first | (with_reducible first | exact HB.out | apply below_alloc | apply pw_below_drewN | apply below_drew1 | refine below_set ?_ GE502.out | refine below_set ?_ GE503.out | refine below_set ?_ GE504.out | refine below_set ?_ GE505.out) | exact HB.out)⟩⟩
 case rest =>
  clear HC5
  try clear c1
  try clear c2
  try clear p2
  try clear c3
  try clear c4
  try clear c5
  try clear c6
  try clear c7
  try clear c9
  try clear c11
  try clear c13
  try clear c15
  try clear c17
  try clear c19
  try clear c20
  try clear c21
  try clear c24
  try clear c25
  try clear c28
  try clear c37
  try clear c38
  try clear c39
  try clear c42
  try clear c43
  try clear c46
  try clear c51
  try clear c52
  try clear c53
  try clear c56
  try clear c57
  try clear c60
  try clear c63
  try clear c64
  try clear c65
  try clear c68
  try clear c69
  try clear c72
  try clear c73
  try clear c74
  try clear hcz22_0
  try clear hcz22_1
  try clear hcz26_0
  try clear hcz26_1
  try clear hcz29_0
  try clear hcz29_1
  try clear hcz31_0
  try clear hcz31_1
  try clear hcz33_0
  try clear hcz33_1
  try clear hcz34_0
  try clear hcz34_1
  try clear hcz35_0
  try clear hcz35_1
  try clear hcz40_0
  try clear hcz40_1
  try clear hcz44_0
  try clear hcz44_1
  try clear hcz47_0
  try clear hcz47_1
  try clear hcz49_0
  try clear hcz49_1
  try clear hcz54_0
  try clear hcz54_1
  try clear hcz58_0
  try clear hcz58_1
  try clear hcz61_0
  try clear hcz61_1
  try clear hcz66_0
  try clear hcz66_1
  try clear hcz70_0
  try clear hcz70_1
  try clear hcz75_0
  try clear hcz75_1
  try clear hfz22_0
  try clear hfz22_1
  try clear hfz26_0
  try clear hfz26_1
  try clear hfz29_0
  try clear hfz29_1
  try clear hfz31_0
  try clear hfz31_1
  try clear hfz33_0
  try clear hfz33_1
  try clear hfz34_0
  try clear hfz34_1
  try clear hfz35_0
  try clear hfz35_1
  try clear hfz40_0
  try clear hfz40_1
  try clear hfz44_0
  try clear hfz44_1
  try clear hfz47_0
  try clear hfz47_1
  try clear hfz49_0
  try clear hfz49_1
  try clear hfz54_0
  try clear hfz54_1
  try clear hfz58_0
  try clear hfz58_1
  try clear hfz61_0
  try clear hfz61_1
  try clear hfz66_0
  try clear hfz66_1
  try clear hfz70_0
  try clear hfz70_1
  try clear hfz75_0
  try clear hfz75_1
  obtain ⟨kq, x36_4, rfl, HA, HJ4, BK502, BK503, BK504, BK505, HB⟩ := hcut
  cases kq with
  | zero => exact absurd HA.out (by simp [zelligeref07_Where.j0])
  | succ kj4 =>
   have H := HA.out
   clear HA
   simp only [zelligeref07_Where.j0] at H
   by_cases c77 : x36_4 = true
   ·subst c77
    have H1 : (some 0) = some r := by rw [if_pos rfl] at H; exact H
    clear H
    have H := H1
    clear H1
    obtain rfl := Option.some.inj H
    go_wp2
    go_ret
    exact ⟨by first | rfl | (simp [errW_none, errW_some] <;> rfl) | (simp [*, errW_none, errW_some] <;> rfl), by repeat (first | (with_reducible first | exact HB.out | apply below_alloc | apply pw_below_drewN | apply below_drew1 | refine below_set ?_ GE502.out | refine below_set ?_ GE503.out | refine below_set ?_ GE504.out | refine below_set ?_ GE505.out) | exact HB.out)⟩
   ·replace c77 := Bool.eq_false_iff.mpr c77
    subst c77
    have H1 : ((zelligeref07_Orient.f kj4 a0_0 a0_1 a1_0 a1_1 a3_0 a3_1).bind fun t511 => ((zelligeref07_Orient.f kj4 a1_0 a1_1 a2_0 a2_1 a3_0 a3_1).bind fun t512 => ((zelligeref07_Orient.f kj4 a2_0 a2_1 a0_0 a0_1 a3_0 a3_1).bind fun t513 => (if t511 < 0 then (zelligeref07_Where.j1 kj4 t511 t512 t513 true) else (if t512 < 0 then (zelligeref07_Where.j1 kj4 t511 t512 t513 true) else (zelligeref07_Where.j1 kj4 t511 t512 t513 (decide (t513 < 0)))))))) = some r := by rw [if_neg (show ¬ (false = true) by decide)] at H; exact H
    clear H
    have H := H1
    clear H1
    replace H := Option.bind_eq_some_iff.mp H
    obtain ⟨t511, A780, H⟩ := H
    replace H : ((zelligeref07_Orient.f kj4 a1_0 a1_1 a2_0 a2_1 a3_0 a3_1).bind fun t512 => ((zelligeref07_Orient.f kj4 a2_0 a2_1 a0_0 a0_1 a3_0 a3_1).bind fun t513 => (if t511 < 0 then (zelligeref07_Where.j1 kj4 t511 t512 t513 true) else (if t512 < 0 then (zelligeref07_Where.j1 kj4 t511 t512 t513 true) else (zelligeref07_Where.j1 kj4 t511 t512 t513 (decide (t513 < 0))))))) = some r := H
    have A78 := Aside0.mk A780
    clear A780
    replace H := Option.bind_eq_some_iff.mp H
    obtain ⟨t512, A790, H⟩ := H
    replace H : ((zelligeref07_Orient.f kj4 a2_0 a2_1 a0_0 a0_1 a3_0 a3_1).bind fun t513 => (if t511 < 0 then (zelligeref07_Where.j1 kj4 t511 t512 t513 true) else (if t512 < 0 then (zelligeref07_Where.j1 kj4 t511 t512 t513 true) else (zelligeref07_Where.j1 kj4 t511 t512 t513 (decide (t513 < 0)))))) = some r := H
    have A79 := Aside0.mk A790
    clear A790
    replace H := Option.bind_eq_some_iff.mp H
    obtain ⟨t513, A800, H⟩ := H
    replace H : (if t511 < 0 then (zelligeref07_Where.j1 kj4 t511 t512 t513 true) else (if t512 < 0 then (zelligeref07_Where.j1 kj4 t511 t512 t513 true) else (zelligeref07_Where.j1 kj4 t511 t512 t513 (decide (t513 < 0))))) = some r := H
    have A80 := Aside0.mk A800
    clear A800
    have HC81 := Aside0.mk H
    clear H
    try go_wp2
    have n0_ := Aside0.mk (blk_drew BK502.out)
    have n1_ := Aside0.mk (blk_drew BK503.out)
    have n2_ := Aside0.mk (blk_drew BK504.out)
    have n3_ := Aside0.mk (blk_drew BK505.out)
    have n4_ := Aside0.mk (below_drew1 HB.out)
    clear BK502
    clear BK503
    clear BK504
    clear BK505
    clear HB
    have BK502 := n0_
    have BK503 := n1_
    have BK504 := n2_
    have BK505 := n3_
    have HB := n4_
    clear n0_ n1_ n2_ n3_ n4_
    refine start_ (n := 15) (S := fun w' => w'.cell? ⟨gb502, 0, none⟩ = some (.int .i64 a0_0) ∧ w'.cell? ⟨gb502, 1, none⟩ = some (.int .i64 a0_1) ∧ w'.cell? ⟨gb503, 0, none⟩ = some (.int .i64 a1_0) ∧ w'.cell? ⟨gb503, 1, none⟩ = some (.int .i64 a1_1) ∧ w'.cell? ⟨gb505, 0, none⟩ = some (.int .i64 a3_0) ∧ w'.cell? ⟨gb505, 1, none⟩ = some (.int .i64 a3_1) ∧ w'.cell? ⟨gb504, 0, none⟩ = some (.int .i64 a2_0) ∧ w'.cell? ⟨gb504, 1, none⟩ = some (.int .i64 a2_1)) (ds := []) #[false, false, false, false, false, false, false, false, false, false, false, false, false, false, false] (by kernel_rfl) rfl rfl ⟨(blk_cell BK502.out 0).trans rfl, (blk_cell BK502.out 1).trans rfl, (blk_cell BK503.out 0).trans rfl, (blk_cell BK503.out 1).trans rfl, (blk_cell BK505.out 0).trans rfl, (blk_cell BK505.out 1).trans rfl, (blk_cell BK504.out 0).trans rfl, (blk_cell BK504.out 1).trans rfl⟩ (fun hHeld => ?_); refine with_tabW zelligeref07_Where.tab3 zelligeref07_Where.bits3 (fun HT_ HW_ => ?_)
    generalize wc.drew = w82 at BK502 BK503 BK504 BK505 HB hHeld ⊢
    refine take_ (i := 0) (N := some 37) (v := ?_) (a' := ?_) #[true, false, false, false, false, false, false, false, false, false, false, false, false, false, false] rfl rfl (take_ofW HT_.out HW_.out (by kernel_rfl)) (fun _ _ _ h => h) (Or.inl ⟨by rfl, ?_⟩) hHeld ?_ ?_
    rotate_left
    ·rintro w' ⟨s0, s1, s2, s3, s4, s5, s6, s7⟩
     go_simp
     with_reducible rfl
    rotate_left
    ·simp only [Act.put, List.setIfInBounds_toArray, List.set_cons_zero, List.set_cons_succ, i64_w, i32_w]
     rfl
    refine take_ (i := 1) (N := some 38) (v := ?_) (a' := ?_) #[true, true, false, false, false, false, false, false, false, false, false, false, false, false, false] rfl rfl (take_ofW HT_.out HW_.out (by kernel_rfl)) (fun _ _ _ h => h) (Or.inl ⟨by rfl, ?_⟩) hHeld ?_ ?_
    rotate_left
    ·rintro w' ⟨s0, s1, s2, s3, s4, s5, s6, s7⟩
     go_simp
     with_reducible rfl
    rotate_left
    ·simp only [Act.put, List.setIfInBounds_toArray, List.set_cons_zero, List.set_cons_succ, i64_w, i32_w]
     rfl
    refine take_ (i := 2) (N := some 39) (v := ?_) (a' := ?_) #[true, true, true, false, false, false, false, false, false, false, false, false, false, false, false] rfl rfl (take_ofW HT_.out HW_.out (by kernel_rfl)) (fun _ _ _ h => h) (Or.inl ⟨by rfl, ?_⟩) hHeld ?_ ?_
    rotate_left
    ·rintro w' ⟨s0, s1, s2, s3, s4, s5, s6, s7⟩
     go_simp
     with_reducible rfl
    rotate_left
    ·simp only [Act.put, List.setIfInBounds_toArray, List.set_cons_zero, List.set_cons_succ, i64_w, i32_w]
     rfl
    refine take_ (i := 4) (N := some 41) (v := ?_) (a' := ?_) #[true, true, true, false, true, false, false, false, false, false, false, false, false, false, false] rfl rfl (take_ofW HT_.out HW_.out (by kernel_rfl)) (fun _ _ _ h => h) (Or.inl ⟨by rfl, ?_⟩) hHeld ?_ ?_
    rotate_left
    ·rintro w' ⟨s0, s1, s2, s3, s4, s5, s6, s7⟩
     go_simp
     with_reducible rfl
    rotate_left
    ·simp only [Act.put, List.setIfInBounds_toArray, List.set_cons_zero, List.set_cons_succ, i64_w, i32_w]
     rfl
    refine take_ (i := 5) (N := some 42) (v := ?_) (a' := ?_) #[true, true, true, false, true, true, false, false, false, false, false, false, false, false, false] rfl rfl (take_ofW HT_.out HW_.out (by kernel_rfl)) (fun _ _ _ h => h) (Or.inl ⟨by rfl, ?_⟩) hHeld ?_ ?_
    rotate_left
    ·rintro w' ⟨s0, s1, s2, s3, s4, s5, s6, s7⟩
     go_simp
     with_reducible rfl
    rotate_left
    ·simp only [Act.put, List.setIfInBounds_toArray, List.set_cons_zero, List.set_cons_succ, i64_w, i32_w]
     rfl
    refine take_ (i := 6) (N := some 43) (v := ?_) (a' := ?_) #[true, true, true, false, true, true, true, false, false, false, false, false, false, false, false] rfl rfl (take_ofW HT_.out HW_.out (by kernel_rfl)) (fun _ _ _ h => h) (Or.inl ⟨by rfl, ?_⟩) hHeld ?_ ?_
    rotate_left
    ·rintro w' ⟨s0, s1, s2, s3, s4, s5, s6, s7⟩
     go_simp
     with_reducible rfl
    rotate_left
    ·simp only [Act.put, List.setIfInBounds_toArray, List.set_cons_zero, List.set_cons_succ, i64_w, i32_w]
     rfl
    refine take_ (i := 8) (N := some 45) (v := ?_) (a' := ?_) #[true, true, true, false, true, true, true, false, true, false, false, false, false, false, false] rfl rfl (take_ofW HT_.out HW_.out (by kernel_rfl)) (fun _ _ _ h => h) (Or.inl ⟨by rfl, ?_⟩) hHeld ?_ ?_
    rotate_left
    ·rintro w' ⟨s0, s1, s2, s3, s4, s5, s6, s7⟩
     go_simp
     with_reducible rfl
    rotate_left
    ·simp only [Act.put, List.setIfInBounds_toArray, List.set_cons_zero, List.set_cons_succ, i64_w, i32_w]
     rfl
    refine take_ (i := 9) (N := some 46) (v := ?_) (a' := ?_) #[true, true, true, false, true, true, true, false, true, true, false, false, false, false, false] rfl rfl (take_ofW HT_.out HW_.out (by kernel_rfl)) (fun _ _ _ h => h) (Or.inl ⟨by rfl, ?_⟩) hHeld ?_ ?_
    rotate_left
    ·rintro w' ⟨s0, s1, s2, s3, s4, s5, s6, s7⟩
     go_simp
     with_reducible rfl
    rotate_left
    ·simp only [Act.put, List.setIfInBounds_toArray, List.set_cons_zero, List.set_cons_succ, i64_w, i32_w]
     rfl
    refine take_ (i := 10) (N := some 47) (v := ?_) (a' := ?_) #[true, true, true, false, true, true, true, false, true, true, true, false, false, false, false] rfl rfl (take_ofW HT_.out HW_.out (by kernel_rfl)) (fun _ _ _ h => h) (Or.inl ⟨by rfl, ?_⟩) hHeld ?_ ?_
    rotate_left
    ·rintro w' ⟨s0, s1, s2, s3, s4, s5, s6, s7⟩
     go_simp
     with_reducible rfl
    rotate_left
    ·simp only [Act.put, List.setIfInBounds_toArray, List.set_cons_zero, List.set_cons_succ, i64_w, i32_w]
     rfl
    refine one_ (i := 3) (N := some 40) #[true, true, true, true, true, true, true, false, true, true, true, false, false, false, false] rfl rfl (one_of HT_.out (by kernel_rfl)) (by decide) (fun K hK => ?_)
    refine goes_ Try.func21 (by kernel_rfl) rfl #[.agg #[.int .i64 a0_0, .int .i64 a0_1], .agg #[.int .i64 a1_0, .int .i64 a1_1], .agg #[.int .i64 a3_0, .int .i64 a3_1]] (by rfl) rfl rfl (by (try simp only [List.map_toArray, List.map_cons, List.map_nil]); first | done | rfl | (simp only [List.length_drop, List.length_take]; rfl)) ?_
    with_reducible refine (zelligeref07_Orient.calls kj4 a0_0 a0_1 a1_0 a1_1 a3_0 a3_1 t511 _ A78.out).mono ?_
    rintro e w83 ⟨rfl, hb⟩
    refine ⟨_, rfl, ?_⟩
    have n0_ := Aside0.mk (blk_below (g := gb502) (o := .cells #[.int .i64 a0_0, .int .i64 a0_1] 23 (0, 0)) (bk BK502.out) hb)
    have n1_ := Aside0.mk (blk_below (g := gb503) (o := .cells #[.int .i64 a1_0, .int .i64 a1_1] 23 (0, 0)) (bk BK503.out) hb)
    have n2_ := Aside0.mk (blk_below (g := gb504) (o := .cells #[.int .i64 a2_0, .int .i64 a2_1] 23 (0, 0)) (bk BK504.out) hb)
    have n3_ := Aside0.mk (blk_below (g := gb505) (o := .cells #[.int .i64 a3_0, .int .i64 a3_1] 23 (0, 0)) (bk BK505.out) hb)
    have n4_ := Aside0.mk (below_step (by repeat (first | (with_reducible first | exact HB.out | apply below_alloc | apply pw_below_drewN | apply below_drew1 | refine below_set ?_ GE502.out | refine below_set ?_ GE503.out | refine below_set ?_ GE504.out | refine below_set ?_ GE505.out) | exact HB.out)) hb)
    clear BK502
    clear BK503
    clear BK504
    clear BK505
    clear HB
    have BK502 := n0_
    have BK503 := n1_
    have BK504 := n2_
    have BK505 := n3_
    have HB := n4_
    clear n0_ n1_ n2_ n3_ n4_
    (try clear hb)
    (try clear hb2)
    (try clear hk)
    (try clear hi)
    refine hK.out _ _ ⟨(blk_cell BK502.out 0).trans rfl, (blk_cell BK502.out 1).trans rfl, (blk_cell BK503.out 0).trans rfl, (blk_cell BK503.out 1).trans rfl, (blk_cell BK505.out 0).trans rfl, (blk_cell BK505.out 1).trans rfl, (blk_cell BK504.out 0).trans rfl, (blk_cell BK504.out 1).trans rfl⟩ (fun hHeld => ?_)
    clear hK K
    refine norm_ (a' := ?_) ?_ ?_
    rotate_left
    ·show Act.put _ (some 40) _ = _
     simp only [Act.put, List.setIfInBounds_toArray, List.set_cons_zero, List.set_cons_succ, i64_w, i32_w]
     rfl
    refine one_ (i := 7) (N := some 44) #[true, true, true, true, true, true, true, true, true, true, true, false, false, false, false] rfl rfl (one_of HT_.out (by kernel_rfl)) (by decide) (fun K hK => ?_)
    refine goes_ Try.func21 (by kernel_rfl) rfl #[.agg #[.int .i64 a1_0, .int .i64 a1_1], .agg #[.int .i64 a2_0, .int .i64 a2_1], .agg #[.int .i64 a3_0, .int .i64 a3_1]] (by rfl) rfl rfl (by (try simp only [List.map_toArray, List.map_cons, List.map_nil]); first | done | rfl | (simp only [List.length_drop, List.length_take]; rfl)) ?_
    with_reducible refine (zelligeref07_Orient.calls kj4 a1_0 a1_1 a2_0 a2_1 a3_0 a3_1 t512 _ A79.out).mono ?_
    rintro e w84 ⟨rfl, hb⟩
    refine ⟨_, rfl, ?_⟩
    have n0_ := Aside0.mk (blk_below (g := gb502) (o := .cells #[.int .i64 a0_0, .int .i64 a0_1] 23 (0, 0)) (bk BK502.out) hb)
    have n1_ := Aside0.mk (blk_below (g := gb503) (o := .cells #[.int .i64 a1_0, .int .i64 a1_1] 23 (0, 0)) (bk BK503.out) hb)
    have n2_ := Aside0.mk (blk_below (g := gb504) (o := .cells #[.int .i64 a2_0, .int .i64 a2_1] 23 (0, 0)) (bk BK504.out) hb)
    have n3_ := Aside0.mk (blk_below (g := gb505) (o := .cells #[.int .i64 a3_0, .int .i64 a3_1] 23 (0, 0)) (bk BK505.out) hb)
    have n4_ := Aside0.mk (below_step (by repeat (first | (with_reducible first | exact HB.out | apply below_alloc | apply pw_below_drewN | apply below_drew1 | refine below_set ?_ GE502.out | refine below_set ?_ GE503.out | refine below_set ?_ GE504.out | refine below_set ?_ GE505.out) | exact HB.out)) hb)
    clear BK502
    clear BK503
    clear BK504
    clear BK505
    clear HB
    have BK502 := n0_
    have BK503 := n1_
    have BK504 := n2_
    have BK505 := n3_
    have HB := n4_
    clear n0_ n1_ n2_ n3_ n4_
    (try clear hb)
    (try clear hb2)
    (try clear hk)
    (try clear hi)
    refine hK.out _ _ ⟨(blk_cell BK502.out 0).trans rfl, (blk_cell BK502.out 1).trans rfl, (blk_cell BK503.out 0).trans rfl, (blk_cell BK503.out 1).trans rfl, (blk_cell BK505.out 0).trans rfl, (blk_cell BK505.out 1).trans rfl, (blk_cell BK504.out 0).trans rfl, (blk_cell BK504.out 1).trans rfl⟩ (fun hHeld => ?_)
    clear hK K
    refine norm_ (a' := ?_) ?_ ?_
    rotate_left
    ·show Act.put _ (some 44) _ = _
     simp only [Act.put, List.setIfInBounds_toArray, List.set_cons_zero, List.set_cons_succ, i64_w, i32_w]
     rfl
    refine one_ (i := 11) (N := some 48) #[true, true, true, true, true, true, true, true, true, true, true, true, false, false, false] rfl rfl (one_of HT_.out (by kernel_rfl)) (by decide) (fun K hK => ?_)
    refine goes_ Try.func21 (by kernel_rfl) rfl #[.agg #[.int .i64 a2_0, .int .i64 a2_1], .agg #[.int .i64 a0_0, .int .i64 a0_1], .agg #[.int .i64 a3_0, .int .i64 a3_1]] (by rfl) rfl rfl (by (try simp only [List.map_toArray, List.map_cons, List.map_nil]); first | done | rfl | (simp only [List.length_drop, List.length_take]; rfl)) ?_
    with_reducible refine (zelligeref07_Orient.calls kj4 a2_0 a2_1 a0_0 a0_1 a3_0 a3_1 t513 _ A80.out).mono ?_
    rintro e w85 ⟨rfl, hb⟩
    refine ⟨_, rfl, ?_⟩
    have n0_ := Aside0.mk (blk_below (g := gb502) (o := .cells #[.int .i64 a0_0, .int .i64 a0_1] 23 (0, 0)) (bk BK502.out) hb)
    have n1_ := Aside0.mk (blk_below (g := gb503) (o := .cells #[.int .i64 a1_0, .int .i64 a1_1] 23 (0, 0)) (bk BK503.out) hb)
    have n2_ := Aside0.mk (blk_below (g := gb504) (o := .cells #[.int .i64 a2_0, .int .i64 a2_1] 23 (0, 0)) (bk BK504.out) hb)
    have n3_ := Aside0.mk (blk_below (g := gb505) (o := .cells #[.int .i64 a3_0, .int .i64 a3_1] 23 (0, 0)) (bk BK505.out) hb)
    have n4_ := Aside0.mk (below_step (by repeat (first | (with_reducible first | exact HB.out | apply below_alloc | apply pw_below_drewN | apply below_drew1 | refine below_set ?_ GE502.out | refine below_set ?_ GE503.out | refine below_set ?_ GE504.out | refine below_set ?_ GE505.out) | exact HB.out)) hb)
    clear BK502
    clear BK503
    clear BK504
    clear BK505
    clear HB
    have BK502 := n0_
    have BK503 := n1_
    have BK504 := n2_
    have BK505 := n3_
    have HB := n4_
    clear n0_ n1_ n2_ n3_ n4_
    (try clear hb)
    (try clear hb2)
    (try clear hk)
    (try clear hi)
    refine hK.out _ _ ⟨(blk_cell BK502.out 0).trans rfl, (blk_cell BK502.out 1).trans rfl, (blk_cell BK503.out 0).trans rfl, (blk_cell BK503.out 1).trans rfl, (blk_cell BK505.out 0).trans rfl, (blk_cell BK505.out 1).trans rfl, (blk_cell BK504.out 0).trans rfl, (blk_cell BK504.out 1).trans rfl⟩ (fun hHeld => ?_)
    clear hK K
    refine norm_ (a' := ?_) ?_ ?_
    rotate_left
    ·show Act.put _ (some 48) _ = _
     simp only [Act.put, List.setIfInBounds_toArray, List.set_cons_zero, List.set_cons_succ, i64_w, i32_w]
     rfl
    refine pure_ (i := 12) (N := some 9) (v := ?_) (a' := ?_) #[true, true, true, true, true, true, true, true, true, true, true, true, true, false, false] rfl rfl (any_of HT_.out (by kernel_rfl)) (fun _ _ _ h => h) (Or.inl ⟨by rfl, ?_⟩) ?_ ?_
    rotate_left
    ·intro w'
     go_simp
     with_reducible rfl
    rotate_left
    ·simp only [Act.put, List.setIfInBounds_toArray, List.set_cons_zero, List.set_cons_succ, i64_w, i32_w]
     rfl
    refine pure_ (i := 13) (N := some 10) (v := ?_) (a' := ?_) #[true, true, true, true, true, true, true, true, true, true, true, true, true, true, false] rfl rfl (any_of HT_.out (by kernel_rfl)) (fun _ _ _ h => h) (Or.inl ⟨by rfl, ?_⟩) ?_ ?_
    rotate_left
    ·intro w'
     go_simp
     with_reducible rfl
    rotate_left
    ·simp only [Act.put, List.setIfInBounds_toArray, List.set_cons_zero, List.set_cons_succ, i64_w, i32_w]
     rfl
    refine pure_ (i := 14) (N := some 11) (v := ?_) (a' := ?_) #[true, true, true, true, true, true, true, true, true, true, true, true, true, true, true] rfl rfl (any_of HT_.out (by kernel_rfl)) (fun _ _ _ h => h) (Or.inl ⟨by rfl, ?_⟩) ?_ ?_
    rotate_left
    ·intro w'
     go_simp
     with_reducible rfl
    rotate_left
    ·simp only [Act.put, List.setIfInBounds_toArray, List.set_cons_zero, List.set_cons_succ, i64_w, i32_w]
     rfl
    refine done_ (done_of HT_.out (by kernel_rfl)) ?_
    go_upto_region 4 with (fail)
    go_cut [58] (fun v58 wc => ∃ (kq : Nat) (x58_80 : Bool), v58 = .bool x58_80 ∧ Aside0 (zelligeref07_Where.j1 kq t511 t512 t513 x58_80 = some r) ∧ Aside0 (kq ≤ kj4) ∧ Aside0 (wc.heap[gb502]? = some (.cells #[.int .i64 a0_0, .int .i64 a0_1] 23 (0, 0))) ∧ Aside0 (wc.heap[gb503]? = some (.cells #[.int .i64 a1_0, .int .i64 a1_1] 23 (0, 0))) ∧ Aside0 (wc.heap[gb504]? = some (.cells #[.int .i64 a2_0, .int .i64 a2_1] 23 (0, 0))) ∧ Aside0 (wc.heap[gb505]? = some (.cells #[.int .i64 a3_0, .int .i64 a3_1] 23 (0, 0))) ∧ Aside0 (Below w.heap.size w wc))
    case first =>
     have H := HC81.out
     clear HC81
     by_cases c86 : t511 < 0
     ·rw [if_pos c86] at H
      have c86b0 : decide (t511 < 0) = true := decide_eq_true c86
      clear c86
      (first | rw [c86b0] | (simp only [i64_w, i32_w]; rw [c86b0]) | skip)
      have H' := Aside0.mk H
      clear H
      go_wp2
      go_meet
      case rel => exact ⟨_, (true), (by first | rfl | (simp; done) | (simp [*]; done)), H', ⟨by have := HJ4.out; first | omega | exact Nat.le_refl _⟩, ⟨by (with_reducible repeat (first | refine blk_drewN ?_ _ | refine blk_drew ?_ | refine blk_alloc ?_ _)); exact BK502.out⟩, ⟨by (with_reducible repeat (first | refine blk_drewN ?_ _ | refine blk_drew ?_ | refine blk_alloc ?_ _)); exact BK503.out⟩, ⟨by (with_reducible repeat (first | refine blk_drewN ?_ _ | refine blk_drew ?_ | refine blk_alloc ?_ _)); exact BK504.out⟩, ⟨by (with_reducible repeat (first | refine blk_drewN ?_ _ | refine blk_drew ?_ | refine blk_alloc ?_ _)); exact BK505.out⟩, ⟨by repeat (first | (with_reducible first | exact HB.out | apply below_alloc | apply pw_below_drewN | apply below_drew1 | refine below_set ?_ GE502.out | refine below_set ?_ GE503.out | refine below_set ?_ GE504.out | refine below_set ?_ GE505.out) | exact HB.out)⟩⟩
     ·rw [if_neg c86] at H
      have c86b0 : decide (t511 < 0) = false := decide_eq_false c86
      clear c86
      (first | rw [c86b0] | (simp only [i64_w, i32_w]; rw [c86b0]) | skip)
      by_cases c87 : t512 < 0
      ·rw [if_pos c87] at H
       have c87b0 : decide (t512 < 0) = true := decide_eq_true c87
       clear c87
       have H' := Aside0.mk H
       clear H
       go_wp2
       go_meet
       case rel => exact ⟨_, (true), (by first | rfl | (simp; done) | (simp [*]; done)), H', ⟨by have := HJ4.out; first | omega | exact Nat.le_refl _⟩, ⟨by (with_reducible repeat (first | refine blk_drewN ?_ _ | refine blk_drew ?_ | refine blk_alloc ?_ _)); exact BK502.out⟩, ⟨by (with_reducible repeat (first | refine blk_drewN ?_ _ | refine blk_drew ?_ | refine blk_alloc ?_ _)); exact BK503.out⟩, ⟨by (with_reducible repeat (first | refine blk_drewN ?_ _ | refine blk_drew ?_ | refine blk_alloc ?_ _)); exact BK504.out⟩, ⟨by (with_reducible repeat (first | refine blk_drewN ?_ _ | refine blk_drew ?_ | refine blk_alloc ?_ _)); exact BK505.out⟩, ⟨by repeat (first | (with_reducible first | exact HB.out | apply below_alloc | apply pw_below_drewN | apply below_drew1 | refine below_set ?_ GE502.out | refine below_set ?_ GE503.out | refine below_set ?_ GE504.out | refine below_set ?_ GE505.out) | exact HB.out)⟩⟩
      ·rw [if_neg c87] at H
       have c87b0 : decide (t512 < 0) = false := decide_eq_false c87
       clear c87
       have H' := Aside0.mk H
       clear H
       go_wp2
       go_meet
       case rel => exact ⟨_, (decide (t513 < 0)), (by first | rfl | (simp; done) | (simp [*]; done)), H', ⟨by have := HJ4.out; first | omega | exact Nat.le_refl _⟩, ⟨by (with_reducible repeat (first | refine blk_drewN ?_ _ | refine blk_drew ?_ | refine blk_alloc ?_ _)); exact BK502.out⟩, ⟨by (with_reducible repeat (first | refine blk_drewN ?_ _ | refine blk_drew ?_ | refine blk_alloc ?_ _)); exact BK503.out⟩, ⟨by (with_reducible repeat (first | refine blk_drewN ?_ _ | refine blk_drew ?_ | refine blk_alloc ?_ _)); exact BK504.out⟩, ⟨by (with_reducible repeat (first | refine blk_drewN ?_ _ | refine blk_drew ?_ | refine blk_alloc ?_ _)); exact BK505.out⟩, ⟨by repeat (first | (with_reducible first | exact HB.out | apply below_alloc | apply pw_below_drewN | apply below_drew1 | refine below_set ?_ GE502.out | refine below_set ?_ GE503.out | refine below_set ?_ GE504.out | refine below_set ?_ GE505.out) | exact HB.out)⟩⟩
    case rest =>
     clear HC81
     try clear c1
     try clear c2
     try clear p2
     try clear c3
     try clear c4
     try clear c5
     try clear c6
     try clear c7
     try clear c8
     try clear c9
     try clear c11
     try clear c13
     try clear c15
     try clear c17
     try clear c19
     try clear c20
     try clear c21
     try clear c24
     try clear c25
     try clear c28
     try clear c37
     try clear c38
     try clear c39
     try clear c42
     try clear c43
     try clear c46
     try clear c51
     try clear c52
     try clear c53
     try clear c56
     try clear c57
     try clear c60
     try clear c63
     try clear c64
     try clear c65
     try clear c68
     try clear c69
     try clear c72
     try clear c73
     try clear c74
     try clear c77
     try clear c86
     try clear c86b0
     try clear c87
     try clear c87b0
     try clear hcz22_0
     try clear hcz22_1
     try clear hcz26_0
     try clear hcz26_1
     try clear hcz29_0
     try clear hcz29_1
     try clear hcz31_0
     try clear hcz31_1
     try clear hcz33_0
     try clear hcz33_1
     try clear hcz34_0
     try clear hcz34_1
     try clear hcz35_0
     try clear hcz35_1
     try clear hcz40_0
     try clear hcz40_1
     try clear hcz44_0
     try clear hcz44_1
     try clear hcz47_0
     try clear hcz47_1
     try clear hcz49_0
     try clear hcz49_1
     try clear hcz54_0
     try clear hcz54_1
     try clear hcz58_0
     try clear hcz58_1
     try clear hcz61_0
     try clear hcz61_1
     try clear hcz66_0
     try clear hcz66_1
     try clear hcz70_0
     try clear hcz70_1
     try clear hcz75_0
     try clear hcz75_1
     try clear hfz22_0
     try clear hfz22_1
     try clear hfz26_0
     try clear hfz26_1
     try clear hfz29_0
     try clear hfz29_1
     try clear hfz31_0
     try clear hfz31_1
     try clear hfz33_0
     try clear hfz33_1
     try clear hfz34_0
     try clear hfz34_1
     try clear hfz35_0
     try clear hfz35_1
     try clear hfz40_0
     try clear hfz40_1
     try clear hfz44_0
     try clear hfz44_1
     try clear hfz47_0
     try clear hfz47_1
     try clear hfz49_0
     try clear hfz49_1
     try clear hfz54_0
     try clear hfz54_1
     try clear hfz58_0
     try clear hfz58_1
     try clear hfz61_0
     try clear hfz61_1
     try clear hfz66_0
     try clear hfz66_1
     try clear hfz70_0
     try clear hfz70_1
     try clear hfz75_0
     try clear hfz75_1
     try clear p2
     obtain ⟨kq, x58_80, rfl, HA, HJ80, BK502, BK503, BK504, BK505, HB⟩ := hcut
     cases kq with
     | zero => exact absurd HA.out (by simp [zelligeref07_Where.j1])
     | succ kj80 =>
      have H := HA.out
      clear HA
      simp only [zelligeref07_Where.j1] at H
      by_cases c88 : x58_80 = true
      ·subst c88
       have H1 : (some (-1)) = some r := by rw [if_pos rfl] at H; exact H
       clear H
       have H := H1
       clear H1
       obtain rfl := Option.some.inj H
       go_wp2
       go_ret
       exact ⟨by first | rfl | (simp [errW_none, errW_some] <;> rfl) | (simp [*, errW_none, errW_some] <;> rfl), by repeat (first | (with_reducible first | exact HB.out | apply below_alloc | apply pw_below_drewN | apply below_drew1 | refine below_set ?_ GE502.out | refine below_set ?_ GE503.out | refine below_set ?_ GE504.out | refine below_set ?_ GE505.out) | exact HB.out)⟩
      ·replace c88 := Bool.eq_false_iff.mpr c88
       subst c88
       have H1 : (if t511 = 0 then (some 1) else (if t512 = 0 then (some 1) else (if t513 = 0 then (some 1) else (some 2)))) = some r := by rw [if_neg (show ¬ (false = true) by decide)] at H; exact H
       clear H
       have H := H1
       clear H1
       by_cases c89 : t511 = 0
       ·rw [if_pos c89] at H
        have c89b0 : (t511 == 0) = true := beq_iff_eq.mpr c89
        have c89b1 : (t511 != 0) = false := bne_eq_false_iff_eq.mpr c89
        clear c89
        obtain rfl := Option.some.inj H
        go_wp2
        go_ret
        exact ⟨by first | rfl | (simp [errW_none, errW_some] <;> rfl) | (simp [*, errW_none, errW_some] <;> rfl), by repeat (first | (with_reducible first | exact HB.out | apply below_alloc | apply pw_below_drewN | apply below_drew1 | refine below_set ?_ GE502.out | refine below_set ?_ GE503.out | refine below_set ?_ GE504.out | refine below_set ?_ GE505.out) | exact HB.out)⟩
       ·rw [if_neg c89] at H
        have c89b0 : (t511 == 0) = false := beq_eq_false_iff_ne.mpr c89
        have c89b1 : (t511 != 0) = true := bne_iff_ne.mpr c89
        by_cases c90 : t512 = 0
        ·rw [if_pos c90] at H
         have c90b0 : (t512 == 0) = true := beq_iff_eq.mpr c90
         have c90b1 : (t512 != 0) = false := bne_eq_false_iff_eq.mpr c90
         clear c90
         obtain rfl := Option.some.inj H
         go_wp2
         go_ret
         exact ⟨by first | rfl | (simp [errW_none, errW_some] <;> rfl) | (simp [*, errW_none, errW_some] <;> rfl), by repeat (first | (with_reducible first | exact HB.out | apply below_alloc | apply pw_below_drewN | apply below_drew1 | refine below_set ?_ GE502.out | refine below_set ?_ GE503.out | refine below_set ?_ GE504.out | refine below_set ?_ GE505.out) | exact HB.out)⟩
        ·rw [if_neg c90] at H
         have c90b0 : (t512 == 0) = false := beq_eq_false_iff_ne.mpr c90
         have c90b1 : (t512 != 0) = true := bne_iff_ne.mpr c90
         by_cases c91 : t513 = 0
         ·rw [if_pos c91] at H
          have c91b0 : (t513 == 0) = true := beq_iff_eq.mpr c91
          have c91b1 : (t513 != 0) = false := bne_eq_false_iff_eq.mpr c91
          clear c91
          obtain rfl := Option.some.inj H
          go_wp2
          go_ret
          exact ⟨by first | rfl | (simp [errW_none, errW_some] <;> rfl) | (simp [*, errW_none, errW_some] <;> rfl), by repeat (first | (with_reducible first | exact HB.out | apply below_alloc | apply pw_below_drewN | apply below_drew1 | refine below_set ?_ GE502.out | refine below_set ?_ GE503.out | refine below_set ?_ GE504.out | refine below_set ?_ GE505.out) | exact HB.out)⟩
         ·rw [if_neg c91] at H
          have c91b0 : (t513 == 0) = false := beq_eq_false_iff_ne.mpr c91
          have c91b1 : (t513 != 0) = true := bne_iff_ne.mpr c91
          obtain rfl := Option.some.inj H
          go_wp2
          go_ret
          exact ⟨by first | rfl | (simp [errW_none, errW_some] <;> rfl) | (simp [*, errW_none, errW_some] <;> rfl), by repeat (first | (with_reducible first | exact HB.out | apply below_alloc | apply pw_below_drewN | apply below_drew1 | refine below_set ?_ GE502.out | refine below_set ?_ GE503.out | refine below_set ?_ GE504.out | refine below_set ?_ GE505.out) | exact HB.out)⟩
end Go.Proofs.Ytmeckkckjikjiaa.F
end
section
namespace Go.Proofs.Ytmeckkckjikjiaa.Pd
open Go Go.RowKit Go.Proofs.YtmeckkckjikjiaaW.PrintWords Go.Proofs.Ytmeckkckjikjiaa.F Go.Proofs.Ytmeckkckjikjiaa.Wd Go.Proofs.Ytmeckkckjikjiaa.Pm Go.Proofs.Ytmeckkckjikjiaa.Whole Go.Proofs.Ytmeckkckjikjiaa.Dig
set_option linter.unusedVariables false
theorem Sm.am {n : Int} {B : Nat} (h : Am n B) (hB : B ≤ 115792089237316195423570985008687907853269984665640564039457584007913129639936) : Sm n := Sm.of (by have := h.le; omega) (by have := h.le; omega)
theorem rcan_f {a b : Int} (ha : -9223372036854775808 ≤ a ∧ a ≤ 9223372036854775807) (hb : -9223372036854775808 ≤ b ∧ b ≤ 9223372036854775807) : zelligeref06_Can.f a b = some (decide (CoP a b)) := by
 unfold zelligeref06_Can.f
 rw [if_pos ⟨ha, hb⟩]
theorem diff_r {a b : Int} (ha : Co a) (hb : Co b) {k : Nat} (hk : 50000 ≤ k) : zelligeref07_diff.f k a b = some ((b - a).sign, dig (b - a).natAbs) := by
 unfold Co at *
 unfold zelligeref07_diff.f
 rw [long_p b (by omega) (by omega), Option.bind_some, long_p a (by omega) (by omega), Option.bind_some, sub_p b a (Sm.of (by omega) (by omega)) (Sm.of (by omega) (by omega)) hk]
 rfl
theorem area_r {a0 a1 b0 b1 c0 c1 : Int} (ha : CoP a0 a1) (hb : CoP b0 b1) (hc : CoP c0 c1) {k : Nat} (hk : 20000001 ≤ k) : zelligeref07_Area.f k a0 a1 b0 b1 c0 c1 = some ((ar a0 a1 b0 b1 c0 c1).sign, dig (ar a0 a1 b0 b1 c0 c1).natAbs) := by
 unfold zelligeref07_Area.f
 have x0 := hb.1.way ha.1; have x1 := hb.2.way ha.2; have y0 := hc.1.way ha.1; have y1 := hc.2.way ha.2
 rw [diff_r ha.1 hb.1 (by omega), Option.bind_some, diff_r ha.2 hc.2 (by omega), Option.bind_some, mul_p _ _ (Sm.am x0 (by omega)) (Sm.am y1 (by omega)) hk, Option.bind_some, diff_r ha.2 hb.2 (by omega), Option.bind_some, diff_r ha.1 hc.1 (by omega), Option.bind_some, mul_p _ _ (Sm.am x1 (by omega)) (Sm.am y0 (by omega)) hk, Option.bind_some,
  sub_p _ _ (Sm.am (Am.mul x0 y1) (by omega)) (Sm.am (Am.mul x1 y0) (by omega)) (by omega)]
 rfl
theorem sign_r (n : Int) : zelligeref07_sign.f n = some n.sign := by
 unfold zelligeref07_sign.f
 rcases sign_cases n with ⟨h, e⟩ | ⟨h, e⟩ | ⟨h, e⟩
 ·rw [if_pos h, e]
 ·rw [if_neg (by omega), if_neg (by omega), e]
 ·rw [if_neg (by omega), if_pos h, e]
def Nr (a0 a1 b0 b1 : Int) : Prop := Am (b0 - a0) 8191 ∧ Am (b1 - a1) 8191
theorem near_r {a0 a1 b0 b1 : Int} (ha : CoP a0 a1) (hb : CoP b0 b1) : ∃ m, zelligeref07_near.f a0 a1 b0 b1 = some m ∧ (m = true → Nr a0 a1 b0 b1) := by
 unfold CoP Co at *
 unfold zelligeref07_near.f
 rw [p64 (x := b0 - a0) (by omega), p64 (x := b1 - a1) (by omega)]
 by_cases h1 : b0 - a0 > -8192
 ·rw [if_pos h1]
  by_cases h2 : b0 - a0 < 8192
  ·rw [if_pos h2]
   by_cases h3 : b1 - a1 > -8192
   ·rw [if_pos h3]
    exact ⟨_, rfl, fun h => ⟨Am.of (by omega), Am.of (by have := of_decide_eq_true h; omega)⟩⟩
   ·rw [if_neg h3]; exact ⟨_, rfl, fun h => by cases h⟩
  ·rw [if_neg h2]; exact ⟨_, rfl, fun h => by cases h⟩
 ·rw [if_neg h1]; exact ⟨_, rfl, fun h => by cases h⟩
theorem orient_j0 {a0 a1 b0 b1 c0 c1 : Int} (ha : CoP a0 a1) (hb : CoP b0 b1) (hc : CoP c0 c1) (m : Bool) (hm : m = true → Nr a0 a1 b0 b1 ∧ Nr a0 a1 c0 c1) {k : Nat} (hk : 20000001 ≤ k) : zelligeref07_Orient.j0 (k + 1) m a0 a1 b0 b1 c0 c1 = some (ar a0 a1 b0 b1 c0 c1).sign := by
 cases m
 ·rw [zelligeref07_Orient.j0, if_neg (by decide), area_r ha hb hc hk]
  rfl
 ·obtain ⟨⟨x0, x1⟩, y0, y1⟩ := hm rfl
  have m1 := (Am.mul x0 y1).le
  have m2 := (Am.mul x1 y0).le
  have m3 := ((Am.mul x0 y1).sub (Am.mul x1 y0)).le
  have l0 := x0.le; have l1 := x1.le; have l2 := y0.le; have l3 := y1.le
  rw [zelligeref07_Orient.j0, if_pos rfl, p64 (x := b0 - a0) (by omega), p64 (x := c1 - a1) (by omega), p64 (x := b1 - a1) (by omega), p64 (x := c0 - a0) (by omega), p64 (x := (b0 - a0) * (c1 - a1)) (by omega), p64 (x := (b1 - a1) * (c0 - a0)) (by omega), p64 (by omega), sign_r]
  rfl
theorem orient_r {a0 a1 b0 b1 c0 c1 : Int} (ha : CoP a0 a1) (hb : CoP b0 b1) (hc : CoP c0 c1) {k : Nat} (hk : 20000002 ≤ k) : zelligeref07_Orient.f k a0 a1 b0 b1 c0 c1 = some (ar a0 a1 b0 b1 c0 c1).sign := by
 obtain ⟨k, rfl⟩ : ∃ m, k = m + 1 := ⟨k - 1, by omega⟩
 unfold zelligeref07_Orient.f
 obtain ⟨m, e, g⟩ := near_r ha hb
 obtain ⟨m', e', g'⟩ := near_r ha hc
 rw [e, Option.bind_some]
 cases m
 ·rw [if_neg (by decide), orient_j0 ha hb hc false (fun h => by cases h) (by omega)]
 ·rw [if_pos rfl, e', Option.bind_some, orient_j0 ha hb hc m' (fun h => ⟨g rfl, g' h⟩) (by omega)]
theorem j1_r (k : Nat) (x y z : Int) (m : Bool) (hm : m = decide (x < 0 ∨ y < 0 ∨ z < 0)) : zelligeref07_Where.j1 (k + 2) x y z m = some (if x < 0 ∨ y < 0 ∨ z < 0 then -1 else if x = 0 ∨ y = 0 ∨ z = 0 then 1 else 2) := by
 subst hm
 by_cases h : x < 0 ∨ y < 0 ∨ z < 0
 ·rw [if_pos h, zelligeref07_Where.j1, if_pos (decide_eq_true h)]
 ·rw [if_neg h, zelligeref07_Where.j1, if_neg (by rw [decide_eq_true_eq]; exact h)]
  by_cases h1 : x = 0
  ·rw [if_pos h1, if_pos (.inl h1)]
  ·rw [if_neg h1]
   by_cases h2 : y = 0
   ·rw [if_pos h2, if_pos (.inr (.inl h2))]
   ·rw [if_neg h2]
    by_cases h3 : z = 0
    ·rw [if_pos h3, if_pos (.inr (.inr h3))]
    ·rw [if_neg h3, if_neg (by omega)]
theorem where_r {a0 a1 b0 b1 c0 c1 d0 d1 : Int} (h0 : -9223372036854775808 ≤ a0 ∧ a0 ≤ 9223372036854775807) (h1 : -9223372036854775808 ≤ a1 ∧ a1 ≤ 9223372036854775807) (h2 : -9223372036854775808 ≤ b0 ∧ b0 ≤ 9223372036854775807) (h3 : -9223372036854775808 ≤ b1 ∧ b1 ≤ 9223372036854775807) (h4 : -9223372036854775808 ≤ c0 ∧ c0 ≤ 9223372036854775807)
  (h5 : -9223372036854775808 ≤ c1 ∧ c1 ≤ 9223372036854775807) (h6 : -9223372036854775808 ≤ d0 ∧ d0 ≤ 9223372036854775807) (h7 : -9223372036854775808 ≤ d1 ∧ d1 ≤ 9223372036854775807) {k : Nat} (hk : 20000010 ≤ k) : zelligeref07_Where.f k a0 a1 b0 b1 c0 c1 d0 d1 = some (whS a0 a1 b0 b1 c0 c1 d0 d1) := by
 obtain ⟨k, rfl⟩ : ∃ m, k = m + 3 := ⟨k - 3, by omega⟩
 have no : ∀ (h : ¬ (CoP a0 a1 ∧ CoP b0 b1 ∧ CoP c0 c1 ∧ CoP d0 d1)), zelligeref07_Where.j0 (k + 3) true a0 a1 b0 b1 c0 c1 d0 d1 = some (whS a0 a1 b0 b1 c0 c1 d0 d1) := fun h => by
  unfold whS; rw [zelligeref07_Where.j0, if_pos rfl, if_neg (fun q => h q.1)]
 unfold zelligeref07_Where.f
 rw [rcan_f h0 h1, Option.bind_some]
 by_cases ha : CoP a0 a1
 ·rw [if_pos (decide_eq_true ha), rcan_f h2 h3, Option.bind_some]
  by_cases hb : CoP b0 b1
  ·rw [if_pos (decide_eq_true hb), rcan_f h4 h5, Option.bind_some]
   by_cases hc : CoP c0 c1
   ·rw [if_pos (decide_eq_true hc), rcan_f h6 h7, Option.bind_some]
    by_cases hd : CoP d0 d1
    ·rw [if_pos (decide_eq_true hd), orient_r ha hb hc (by omega), Option.bind_some, zelligeref07_Where.j0]
     unfold whS
     by_cases p : 0 < ar a0 a1 b0 b1 c0 c1
     ·rw [if_neg (by rw [(sign_pos _).2 p]; decide), orient_r ha hb hd (by omega), Option.bind_some, orient_r hb hc hd (by omega), Option.bind_some, orient_r hc ha hd (by omega), Option.bind_some, if_pos (show (CoP a0 a1 ∧ CoP b0 b1 ∧ CoP c0 c1 ∧ CoP d0 d1) ∧ 0 < ar a0 a1 b0 b1 c0 c1 from ⟨⟨ha, hb, hc, hd⟩, p⟩)]
      rcases sign_cases (ar a0 a1 b0 b1 d0 d1) with ⟨x, x'⟩ | ⟨x, x'⟩ | ⟨x, x'⟩ <;> rcases sign_cases (ar b0 b1 c0 c1 d0 d1) with ⟨y, y'⟩ | ⟨y, y'⟩ | ⟨y, y'⟩ <;> rcases sign_cases (ar c0 c1 a0 a1 d0 d1) with ⟨z, z'⟩ | ⟨z, z'⟩ | ⟨z, z'⟩ <;> rw [x', y', z'] <;>
       (first | (rw [if_pos (show ar a0 a1 b0 b1 d0 d1 < 0 ∨ ar b0 b1 c0 c1 d0 d1 < 0 ∨ ar c0 c1 a0 a1 d0 d1 < 0 by omega)]) | (rw [if_neg (show ¬ (ar a0 a1 b0 b1 d0 d1 < 0 ∨ ar b0 b1 c0 c1 d0 d1 < 0 ∨ ar c0 c1 a0 a1 d0 d1 < 0) by omega), if_pos (show ar a0 a1 b0 b1 d0 d1 = 0 ∨ ar b0 b1 c0 c1 d0 d1 = 0 ∨ ar c0 c1 a0 a1 d0 d1 = 0 by omega)]) | (rw [if_neg (show ¬ (ar a0 a1 b0 b1 d0 d1 < 0 ∨ ar b0 b1 c0 c1 d0 d1 < 0 ∨ ar c0 c1 a0 a1 d0 d1 < 0) by omega), if_neg (show ¬ (ar a0 a1 b0 b1 d0 d1 = 0 ∨ ar b0 b1 c0 c1 d0 d1 = 0 ∨ ar c0 c1 a0 a1 d0 d1 = 0) by omega)])) <;>
       (first | (rw [if_pos (by decide), j1_r k _ _ _ true rfl]; rfl) | (rw [if_neg (by decide), if_pos (by decide), j1_r k _ _ _ true rfl]; rfl) | (rw [if_neg (by decide), if_neg (by decide)]; exact (j1_r k _ _ _ _ (by decide)).trans (by decide)))
     ·rw [if_pos (by rw [bne_iff_ne]; exact fun q => p ((sign_pos _).1 q)), if_neg (fun q => p q.2)]
    ·rw [if_neg (by rw [decide_eq_true_eq]; exact hd)]; exact no (fun q => hd q.2.2.2)
   ·rw [if_neg (by rw [decide_eq_true_eq]; exact hc)]; exact no (fun q => hc q.2.2.1)
  ·rw [if_neg (by rw [decide_eq_true_eq]; exact hb)]; exact no (fun q => hb q.2.1)
 ·rw [if_neg (by rw [decide_eq_true_eq]; exact ha)]; exact no (fun q => ha q.1)
end Go.Proofs.Ytmeckkckjikjiaa.Pd
end
section
namespace Go.Proofs.Ytmeckkckjikjiaa.F
open Go.RowKit Go.Proofs.YtmeckkckjikjiaaW.PrintWords Go.Proofs.YtmeckkckjikjiaaW.PrintLast Go.Proofs.YtmeckkckjikjiaaW.PrintMore
attribute [local go_sem] max2_int min2_int max_two min_two max_three min_three max_four min_four
set_option linter.unusedVariables false
set_option linter.unusedSimpArgs false
def zelligelaw07_PredWhere.f (k : Nat) (a0_0 : Int) (a0_1 : Int) (a0_2 : Int) (a0_3 : Int) (a0_4 : Int) (a0_5 : Int) (a1_0 : Int) (a1_1 : Int) : Option (Bool) := (pred_Where.f k a0_0 a0_1 a0_2 a0_3 a0_4 a0_5 a1_0 a1_1).bind fun t516 => ((zelligeref07_Where.f k a0_0 a0_1 a0_2 a0_3 a0_4 a0_5 a1_0 a1_1).bind fun t517 => (if t516 = t517 then ((zelligelaw07_lives.f k).bind fun t518 => (some t518)) else (some false)))
theorem zelligelaw07_PredWhere.mono : ∀ a0 a1 a2 a3 a4 a5 a6 a7 k, LeO (zelligelaw07_PredWhere.f k a0 a1 a2 a3 a4 a5 a6 a7) (zelligelaw07_PredWhere.f (k + 1) a0 a1 a2 a3 a4 a5 a6 a7) := by
 intro a0 a1 a2 a3 a4 a5 a6 a7 k
 unfold zelligelaw07_PredWhere.f
 repeat' first
   | (with_reducible exact pred_Where.mono _ _ _ _ _ _ _ _ _)
   | (with_reducible exact zelligelaw07_lives.mono _)
   | (with_reducible exact zelligeref07_Where.mono _ _ _ _ _ _ _ _ _)
   | (with_reducible exact LeO.refl _)
   | (with_reducible exact LeO.none _)
   | (with_reducible refine LeO.ite ?_ ?_)
   | (with_reducible refine LeO.bind ?_ (fun _ => ?_))
   | exact pred_Where.mono _ _ _ _ _ _ _ _ _
   | exact zelligelaw07_lives.mono _
   | exact zelligeref07_Where.mono _ _ _ _ _ _ _ _ _
   | exact LeO.none _
   | refine LeO.ite ?_ ?_
   | refine LeO.bind ?_ (fun _ => ?_)
def zelligelaw07_PredWhere.T1 : Bool × List (List Nat × List Nat) := (true, [([], []), ([0], [0]), ([], []), ([2], [2]), ([], []), ([4], [4]), ([], []), ([1, 3, 5, 6], [1, 3, 5, 6]), ([], []), ([8], [8]), ([], []), ([10], [10]), ([], []), ([12], [12]), ([], []), ([9, 11, 13, 14, 7], [9, 11, 13, 14]), ([7, 15], [7, 15]), ([16, 15], [16]), ([17, 17], [17]), ([17, 18], [17, 18]), ([19, 18, 0, 1, 2, 3, 4, 5, 6, 7, 8, 9, 10, 11, 12, 13, 14, 15, 16, 17, 18, 19], [19])])
def zelligelaw07_PredWhere.B1 : List Nat := [0, 1, 0, 4, 0, 16, 0, 127, 0, 256, 0, 1024, 0, 4096, 0, 32767, 65535, 131071, 262143, 524287, 1048575]
theorem zelligelaw07_PredWhere.tab1 : rtab .any (opsOf Try.f4 1) = zelligelaw07_PredWhere.T1 := by kernel_rfl
theorem zelligelaw07_PredWhere.bits1 : waitsOk zelligelaw07_PredWhere.T1.2 zelligelaw07_PredWhere.B1 = true := by kernel_rfl
set_option maxHeartbeats 8000000 in
set_option maxRecDepth 100000 in
theorem zelligelaw07_PredWhere.calls (k : Nat) (a0_0 : Int) (a0_1 : Int) (a0_2 : Int) (a0_3 : Int) (a0_4 : Int) (a0_5 : Int) (a1_0 : Int) (a1_1 : Int) (r : Bool) (w : World) (h : zelligelaw07_PredWhere.f k a0_0 a0_1 a0_2 a0_3 a0_4 a0_5 a1_0 a1_1 = some r) :
  Calls Try.prog 4 #[.agg #[.int .i64 a0_0, .int .i64 a0_1, .int .i64 a0_2, .int .i64 a0_3, .int .i64 a0_4, .int .i64 a0_5], .agg #[.int .i64 a1_0, .int .i64 a1_1]] w fun e w' => e = .returned (.bool r) ∧ Below w.heap.size w w' := by
 have hu24 := Try.underlying24
 have hu23 := Try.underlying23
 have HB := Aside0.mk (Below.refl w.heap.size w)
 have H : ((pred_Where.f k a0_0 a0_1 a0_2 a0_3 a0_4 a0_5 a1_0 a1_1).bind fun t516 => ((zelligeref07_Where.f k a0_0 a0_1 a0_2 a0_3 a0_4 a0_5 a1_0 a1_1).bind fun t517 => (if t516 = t517 then ((zelligelaw07_lives.f k).bind fun t518 => (some t518)) else (some false)))) = some r := h
 clear h
 replace H := Option.bind_eq_some_iff.mp H
 obtain ⟨t516, A30, H⟩ := H
 replace H : ((zelligeref07_Where.f k a0_0 a0_1 a0_2 a0_3 a0_4 a0_5 a1_0 a1_1).bind fun t517 => (if t516 = t517 then ((zelligelaw07_lives.f k).bind fun t518 => (some t518)) else (some false))) = some r := H
 have A3 := Aside0.mk A30
 clear A30
 replace H := Option.bind_eq_some_iff.mp H
 obtain ⟨t517, A40, H⟩ := H
 replace H : (if t516 = t517 then ((zelligelaw07_lives.f k).bind fun t518 => (some t518)) else (some false)) = some r := H
 have A4 := Aside0.mk A40
 clear A40
 by_cases c5 : t516 = t517
 ·rw [if_pos c5] at H
  have c5b0 : (t516 == t517) = true := beq_iff_eq.mpr c5
  have c5b1 : (t516 != t517) = false := bne_eq_false_iff_eq.mpr c5
  clear c5
  replace H := Option.bind_eq_some_iff.mp H
  obtain ⟨t518, A60, H⟩ := H
  replace H : (some t518) = some r := H
  have A6 := Aside0.mk A60
  clear A60
  obtain rfl := Option.some.inj H
  go_enter Try.func4, Try.ntmps4
  try go_wp2_with (first | ((with_reducible refine gate_dst (N := 2) rfl ?_); refine box_event ?hg (N := 2) ?hd (cs := #[.int .i64 a0_0, .int .i64 a0_1, .int .i64 a0_2, .int .i64 a0_3, .int .i64 a0_4, .int .i64 a0_5]) (t := 24) ?hr ?_; (case hd => rfl); (case hg => rfl); (case hr => first | (go_simp; done) | (go_simp; rfl)); intro gb514 hg w7 hbox hb; have n0_ := Aside0.mk (below_step (bw HB.out) hb); have n1_ := Aside0.mk (hbox); have n2_ := Aside0.mk ((by rw [hg]; exact (below_size (bw HB.out)) : w.heap.size ≤ gb514)); have n3_ := Aside0.mk ((by rw [hg]; exact (below_size (bw HB.out)) : w.heap.size ≤ gb514)); clear HB; have HB := n0_; have BK514 := n1_; have GW514 := n2_; have GE514 := n3_; clear n0_ n1_ n2_ n3_; clear hb hbox hg) | ((with_reducible refine gate_dst (N := 3) rfl ?_); refine box_event ?hg (N := 3) ?hd (cs := #[.int .i64 a1_0, .int .i64 a1_1]) (t := 23) ?hr ?_; (case hd => rfl); (case hg => rfl); (case hr => first | (go_simp; done) | (go_simp; rfl)); intro gb515 hg w8 hbox hb; have n0_ := Aside0.mk (blk_below (g := gb514) (o := .cells #[.int .i64 a0_0, .int .i64 a0_1, .int .i64 a0_2, .int .i64 a0_3, .int .i64 a0_4, .int .i64 a0_5] 24 (0, 0)) (bk BK514.out) hb); have n1_ := Aside0.mk (below_step (by repeat (first | (with_reducible first | exact HB.out | apply below_alloc | apply pw_below_drewN | apply below_drew1 | refine below_set ?_ GE514.out) | exact HB.out)) hb); have n2_ := Aside0.mk (hbox); have n3_ := Aside0.mk ((by rw [hg]; exact (below_size (by repeat (first | (with_reducible first | exact HB.out | apply below_alloc | apply pw_below_drewN | apply below_drew1 | refine below_set ?_ GE514.out) | exact HB.out))) : w.heap.size ≤ gb515)); have n4_ := Aside0.mk ((by rw [hg]; exact (below_size (by repeat (first | (with_reducible first | exact HB.out | apply below_alloc | apply pw_below_drewN | apply below_drew1 | refine below_set ?_ GE514.out) | exact HB.out))) : w.heap.size ≤ gb515)); have n5_ := Aside0.mk ((by rw [hg]; exact Nat.ne_of_lt (blk_lt (g := gb514) (o := .cells #[.int .i64 a0_0, .int .i64 a0_1, .int .i64 a0_2, .int .i64 a0_3, .int .i64 a0_4, .int .i64 a0_5] 24 (0, 0)) (bk BK514.out)) : gb514 ≠ gb515)); have n6_ := Aside0.mk ((by rw [hg]; exact Nat.ne_of_gt (blk_lt (g := gb514) (o := .cells #[.int .i64 a0_0, .int .i64 a0_1, .int .i64 a0_2, .int .i64 a0_3, .int .i64 a0_4, .int .i64 a0_5] 24 (0, 0)) (bk BK514.out)) : gb515 ≠ gb514)); clear BK514; clear HB; have BK514 := n0_; have HB := n1_; have BK515 := n2_; have GW515 := n3_; have GE515 := n4_; have NB514_515 := n5_; have NB515_514 := n6_; clear n0_ n1_ n2_ n3_ n4_ n5_ n6_; clear hb hbox hg))
  have n0_ := Aside0.mk (blk_drew BK514.out)
  have n1_ := Aside0.mk (blk_drew BK515.out)
  have n2_ := Aside0.mk (below_drew1 HB.out)
  clear BK514
  clear BK515
  clear HB
  have BK514 := n0_
  have BK515 := n1_
  have HB := n2_
  clear n0_ n1_ n2_
  refine start_ (n := 21) (S := fun w' => w'.cell? ⟨gb514, 0, none⟩ = some (.int .i64 a0_0) ∧ w'.cell? ⟨gb514, 1, none⟩ = some (.int .i64 a0_1) ∧ w'.cell? ⟨gb514, 2, none⟩ = some (.int .i64 a0_2) ∧ w'.cell? ⟨gb514, 3, none⟩ = some (.int .i64 a0_3) ∧ w'.cell? ⟨gb514, 4, none⟩ = some (.int .i64 a0_4) ∧ w'.cell? ⟨gb514, 5, none⟩ = some (.int .i64 a0_5) ∧ w'.cell? ⟨gb515, 0, none⟩ = some (.int .i64 a1_0) ∧ w'.cell? ⟨gb515, 1, none⟩ = some (.int .i64 a1_1)) (ds := []) #[false, false, false, false, false, false, false, false, false, false, false, false, false, false, false, false, false, false, false, false, false] (by kernel_rfl) rfl rfl ⟨(blk_cell BK514.out 0).trans rfl, (blk_cell BK514.out 1).trans rfl, (blk_cell BK514.out 2).trans rfl, (blk_cell BK514.out 3).trans rfl, (blk_cell BK514.out 4).trans rfl, (blk_cell BK514.out 5).trans rfl, (blk_cell BK515.out 0).trans rfl, (blk_cell BK515.out 1).trans rfl⟩ (fun hHeld => ?_); refine with_tabW zelligelaw07_PredWhere.tab1 zelligelaw07_PredWhere.bits1 (fun HT_ HW_ => ?_)
  generalize w8.drew = w9 at BK514 BK515 HB hHeld ⊢
  refine pure_ (i := 0) (N := some 5) (v := ?_) (a' := ?_) #[true, false, false, false, false, false, false, false, false, false, false, false, false, false, false, false, false, false, false, false, false] rfl rfl (any_of HT_.out (by kernel_rfl)) (fun _ _ _ h => h) (Or.inl ⟨by rfl, ?_⟩) ?_ ?_
  rotate_left
  ·intro w'
   go_simp
   with_reducible rfl
  rotate_left
  ·simp only [Act.put, List.setIfInBounds_toArray, List.set_cons_zero, List.set_cons_succ, i64_w, i32_w]
   rfl
  refine pure_ (i := 2) (N := some 7) (v := ?_) (a' := ?_) #[true, false, true, false, false, false, false, false, false, false, false, false, false, false, false, false, false, false, false, false, false] rfl rfl (any_of HT_.out (by kernel_rfl)) (fun _ _ _ h => h) (Or.inl ⟨by rfl, ?_⟩) ?_ ?_
  rotate_left
  ·intro w'
   go_simp
   with_reducible rfl
  rotate_left
  ·simp only [Act.put, List.setIfInBounds_toArray, List.set_cons_zero, List.set_cons_succ, i64_w, i32_w]
   rfl
  refine pure_ (i := 4) (N := some 9) (v := ?_) (a' := ?_) #[true, false, true, false, true, false, false, false, false, false, false, false, false, false, false, false, false, false, false, false, false] rfl rfl (any_of HT_.out (by kernel_rfl)) (fun _ _ _ h => h) (Or.inl ⟨by rfl, ?_⟩) ?_ ?_
  rotate_left
  ·intro w'
   go_simp
   with_reducible rfl
  rotate_left
  ·simp only [Act.put, List.setIfInBounds_toArray, List.set_cons_zero, List.set_cons_succ, i64_w, i32_w]
   rfl
  refine pure_ (i := 8) (N := some 13) (v := ?_) (a' := ?_) #[true, false, true, false, true, false, false, false, true, false, false, false, false, false, false, false, false, false, false, false, false] rfl rfl (any_of HT_.out (by kernel_rfl)) (fun _ _ _ h => h) (Or.inl ⟨by rfl, ?_⟩) ?_ ?_
  rotate_left
  ·intro w'
   go_simp
   with_reducible rfl
  rotate_left
  ·simp only [Act.put, List.setIfInBounds_toArray, List.set_cons_zero, List.set_cons_succ, i64_w, i32_w]
   rfl
  refine pure_ (i := 10) (N := some 15) (v := ?_) (a' := ?_) #[true, false, true, false, true, false, false, false, true, false, true, false, false, false, false, false, false, false, false, false, false] rfl rfl (any_of HT_.out (by kernel_rfl)) (fun _ _ _ h => h) (Or.inl ⟨by rfl, ?_⟩) ?_ ?_
  rotate_left
  ·intro w'
   go_simp
   with_reducible rfl
  rotate_left
  ·simp only [Act.put, List.setIfInBounds_toArray, List.set_cons_zero, List.set_cons_succ, i64_w, i32_w]
   rfl
  refine pure_ (i := 12) (N := some 17) (v := ?_) (a' := ?_) #[true, false, true, false, true, false, false, false, true, false, true, false, true, false, false, false, false, false, false, false, false] rfl rfl (any_of HT_.out (by kernel_rfl)) (fun _ _ _ h => h) (Or.inl ⟨by rfl, ?_⟩) ?_ ?_
  rotate_left
  ·intro w'
   go_simp
   with_reducible rfl
  rotate_left
  ·simp only [Act.put, List.setIfInBounds_toArray, List.set_cons_zero, List.set_cons_succ, i64_w, i32_w]
   rfl
  refine take_ (i := 1) (N := some 6) (v := ?_) (a' := ?_) #[true, true, true, false, true, false, false, false, true, false, true, false, true, false, false, false, false, false, false, false, false] rfl rfl (take_ofW HT_.out HW_.out (by kernel_rfl)) (fun _ _ _ h => h) (Or.inl ⟨by rfl, ?_⟩) hHeld ?_ ?_
  rotate_left
  ·rintro w' ⟨s0, s1, s2, s3, s4, s5, s6, s7⟩
   go_simp
   with_reducible rfl
  rotate_left
  ·simp only [Act.put, List.setIfInBounds_toArray, List.set_cons_zero, List.set_cons_succ, i64_w, i32_w]
   rfl
  refine take_ (i := 3) (N := some 8) (v := ?_) (a' := ?_) #[true, true, true, true, true, false, false, false, true, false, true, false, true, false, false, false, false, false, false, false, false] rfl rfl (take_ofW HT_.out HW_.out (by kernel_rfl)) (fun _ _ _ h => h) (Or.inl ⟨by rfl, ?_⟩) hHeld ?_ ?_
  rotate_left
  ·rintro w' ⟨s0, s1, s2, s3, s4, s5, s6, s7⟩
   go_simp
   with_reducible rfl
  rotate_left
  ·simp only [Act.put, List.setIfInBounds_toArray, List.set_cons_zero, List.set_cons_succ, i64_w, i32_w]
   rfl
  refine take_ (i := 5) (N := some 10) (v := ?_) (a' := ?_) #[true, true, true, true, true, true, false, false, true, false, true, false, true, false, false, false, false, false, false, false, false] rfl rfl (take_ofW HT_.out HW_.out (by kernel_rfl)) (fun _ _ _ h => h) (Or.inl ⟨by rfl, ?_⟩) hHeld ?_ ?_
  rotate_left
  ·rintro w' ⟨s0, s1, s2, s3, s4, s5, s6, s7⟩
   go_simp
   with_reducible rfl
  rotate_left
  ·simp only [Act.put, List.setIfInBounds_toArray, List.set_cons_zero, List.set_cons_succ, i64_w, i32_w]
   rfl
  refine take_ (i := 6) (N := some 11) (v := ?_) (a' := ?_) #[true, true, true, true, true, true, true, false, true, false, true, false, true, false, false, false, false, false, false, false, false] rfl rfl (take_ofW HT_.out HW_.out (by kernel_rfl)) (fun _ _ _ h => h) (Or.inl ⟨by rfl, ?_⟩) hHeld ?_ ?_
  rotate_left
  ·rintro w' ⟨s0, s1, s2, s3, s4, s5, s6, s7⟩
   go_simp
   with_reducible rfl
  rotate_left
  ·simp only [Act.put, List.setIfInBounds_toArray, List.set_cons_zero, List.set_cons_succ, i64_w, i32_w]
   rfl
  refine take_ (i := 9) (N := some 14) (v := ?_) (a' := ?_) #[true, true, true, true, true, true, true, false, true, true, true, false, true, false, false, false, false, false, false, false, false] rfl rfl (take_ofW HT_.out HW_.out (by kernel_rfl)) (fun _ _ _ h => h) (Or.inl ⟨by rfl, ?_⟩) hHeld ?_ ?_
  rotate_left
  ·rintro w' ⟨s0, s1, s2, s3, s4, s5, s6, s7⟩
   go_simp
   with_reducible rfl
  rotate_left
  ·simp only [Act.put, List.setIfInBounds_toArray, List.set_cons_zero, List.set_cons_succ, i64_w, i32_w]
   rfl
  refine take_ (i := 11) (N := some 16) (v := ?_) (a' := ?_) #[true, true, true, true, true, true, true, false, true, true, true, true, true, false, false, false, false, false, false, false, false] rfl rfl (take_ofW HT_.out HW_.out (by kernel_rfl)) (fun _ _ _ h => h) (Or.inl ⟨by rfl, ?_⟩) hHeld ?_ ?_
  rotate_left
  ·rintro w' ⟨s0, s1, s2, s3, s4, s5, s6, s7⟩
   go_simp
   with_reducible rfl
  rotate_left
  ·simp only [Act.put, List.setIfInBounds_toArray, List.set_cons_zero, List.set_cons_succ, i64_w, i32_w]
   rfl
  refine take_ (i := 13) (N := some 18) (v := ?_) (a' := ?_) #[true, true, true, true, true, true, true, false, true, true, true, true, true, true, false, false, false, false, false, false, false] rfl rfl (take_ofW HT_.out HW_.out (by kernel_rfl)) (fun _ _ _ h => h) (Or.inl ⟨by rfl, ?_⟩) hHeld ?_ ?_
  rotate_left
  ·rintro w' ⟨s0, s1, s2, s3, s4, s5, s6, s7⟩
   go_simp
   with_reducible rfl
  rotate_left
  ·simp only [Act.put, List.setIfInBounds_toArray, List.set_cons_zero, List.set_cons_succ, i64_w, i32_w]
   rfl
  refine take_ (i := 14) (N := some 19) (v := ?_) (a' := ?_) #[true, true, true, true, true, true, true, false, true, true, true, true, true, true, true, false, false, false, false, false, false] rfl rfl (take_ofW HT_.out HW_.out (by kernel_rfl)) (fun _ _ _ h => h) (Or.inl ⟨by rfl, ?_⟩) hHeld ?_ ?_
  rotate_left
  ·rintro w' ⟨s0, s1, s2, s3, s4, s5, s6, s7⟩
   go_simp
   with_reducible rfl
  rotate_left
  ·simp only [Act.put, List.setIfInBounds_toArray, List.set_cons_zero, List.set_cons_succ, i64_w, i32_w]
   rfl
  refine one_ (i := 7) (N := some 12) #[true, true, true, true, true, true, true, true, true, true, true, true, true, true, true, false, false, false, false, false, false] rfl rfl (one_of HT_.out (by kernel_rfl)) (by decide) (fun K hK => ?_)
  refine goes_ Try.func12 (by kernel_rfl) rfl #[.agg #[.int .i64 a0_0, .int .i64 a0_1], .agg #[.int .i64 a0_2, .int .i64 a0_3], .agg #[.int .i64 a0_4, .int .i64 a0_5], .agg #[.int .i64 a1_0, .int .i64 a1_1]] (by rfl) rfl rfl (by (try simp only [List.map_toArray, List.map_cons, List.map_nil]); first | done | rfl | (simp only [List.length_drop, List.length_take]; rfl)) ?_
  with_reducible refine (pred_Where.calls k a0_0 a0_1 a0_2 a0_3 a0_4 a0_5 a1_0 a1_1 t516 _ A3.out).mono ?_
  rintro e w10 ⟨rfl, hb⟩
  refine ⟨_, rfl, ?_⟩
  have n0_ := Aside0.mk (blk_below (g := gb514) (o := .cells #[.int .i64 a0_0, .int .i64 a0_1, .int .i64 a0_2, .int .i64 a0_3, .int .i64 a0_4, .int .i64 a0_5] 24 (0, 0)) (bk BK514.out) hb)
  have n1_ := Aside0.mk (blk_below (g := gb515) (o := .cells #[.int .i64 a1_0, .int .i64 a1_1] 23 (0, 0)) (bk BK515.out) hb)
  have n2_ := Aside0.mk (below_step (by repeat (first | (with_reducible first | exact HB.out | apply below_alloc | apply pw_below_drewN | apply below_drew1 | refine below_set ?_ GE514.out | refine below_set ?_ GE515.out) | exact HB.out)) hb)
  clear BK514
  clear BK515
  clear HB
  have BK514 := n0_
  have BK515 := n1_
  have HB := n2_
  clear n0_ n1_ n2_
  (try clear hb)
  (try clear hb2)
  (try clear hk)
  (try clear hi)
  refine hK.out _ _ ⟨(blk_cell BK514.out 0).trans rfl, (blk_cell BK514.out 1).trans rfl, (blk_cell BK514.out 2).trans rfl, (blk_cell BK514.out 3).trans rfl, (blk_cell BK514.out 4).trans rfl, (blk_cell BK514.out 5).trans rfl, (blk_cell BK515.out 0).trans rfl, (blk_cell BK515.out 1).trans rfl⟩ (fun hHeld => ?_)
  clear hK K
  refine norm_ (a' := ?_) ?_ ?_
  rotate_left
  ·show Act.put _ (some 12) _ = _
   simp only [Act.put, List.setIfInBounds_toArray, List.set_cons_zero, List.set_cons_succ, i64_w, i32_w]
   rfl
  refine one_ (i := 15) (N := some 20) #[true, true, true, true, true, true, true, true, true, true, true, true, true, true, true, true, false, false, false, false, false] rfl rfl (one_of HT_.out (by kernel_rfl)) (by decide) (fun K hK => ?_)
  refine goes_ Try.func13 (by kernel_rfl) rfl #[.agg #[.int .i64 a0_0, .int .i64 a0_1], .agg #[.int .i64 a0_2, .int .i64 a0_3], .agg #[.int .i64 a0_4, .int .i64 a0_5], .agg #[.int .i64 a1_0, .int .i64 a1_1]] (by rfl) rfl rfl (by (try simp only [List.map_toArray, List.map_cons, List.map_nil]); first | done | rfl | (simp only [List.length_drop, List.length_take]; rfl)) ?_
  with_reducible refine (zelligeref07_Where.calls k a0_0 a0_1 a0_2 a0_3 a0_4 a0_5 a1_0 a1_1 t517 _ A4.out).mono ?_
  rintro e w11 ⟨rfl, hb⟩
  refine ⟨_, rfl, ?_⟩
  have n0_ := Aside0.mk (blk_below (g := gb514) (o := .cells #[.int .i64 a0_0, .int .i64 a0_1, .int .i64 a0_2, .int .i64 a0_3, .int .i64 a0_4, .int .i64 a0_5] 24 (0, 0)) (bk BK514.out) hb)
  have n1_ := Aside0.mk (blk_below (g := gb515) (o := .cells #[.int .i64 a1_0, .int .i64 a1_1] 23 (0, 0)) (bk BK515.out) hb)
  have n2_ := Aside0.mk (below_step (by repeat (first | (with_reducible first | exact HB.out | apply below_alloc | apply pw_below_drewN | apply below_drew1 | refine below_set ?_ GE514.out | refine below_set ?_ GE515.out) | exact HB.out)) hb)
  clear BK514
  clear BK515
  clear HB
  have BK514 := n0_
  have BK515 := n1_
  have HB := n2_
  clear n0_ n1_ n2_
  (try clear hb)
  (try clear hb2)
  (try clear hk)
  (try clear hi)
  refine hK.out _ _ ⟨(blk_cell BK514.out 0).trans rfl, (blk_cell BK514.out 1).trans rfl, (blk_cell BK514.out 2).trans rfl, (blk_cell BK514.out 3).trans rfl, (blk_cell BK514.out 4).trans rfl, (blk_cell BK514.out 5).trans rfl, (blk_cell BK515.out 0).trans rfl, (blk_cell BK515.out 1).trans rfl⟩ (fun hHeld => ?_)
  clear hK K
  refine norm_ (a' := ?_) ?_ ?_
  rotate_left
  ·show Act.put _ (some 20) _ = _
   simp only [Act.put, List.setIfInBounds_toArray, List.set_cons_zero, List.set_cons_succ, i64_w, i32_w]
   rfl
  refine pure_ (i := 16) (N := some 21) (v := ?_) (a' := ?_) #[true, true, true, true, true, true, true, true, true, true, true, true, true, true, true, true, true, false, false, false, false] rfl rfl (any_of HT_.out (by kernel_rfl)) (fun _ _ _ h => h) (Or.inl ⟨by rfl, ?_⟩) ?_ ?_
  rotate_left
  ·intro w'
   go_simp
   with_reducible rfl
  rotate_left
  ·simp only [Act.put, List.setIfInBounds_toArray, List.set_cons_zero, List.set_cons_succ, i64_w, i32_w]
   rfl
  refine pure_ (i := 17) (N := some 22) (v := ?_) (a' := ?_) #[true, true, true, true, true, true, true, true, true, true, true, true, true, true, true, true, true, true, false, false, false] rfl rfl (any_of HT_.out (by kernel_rfl)) (fun _ _ _ h => h) (Or.inl ⟨by rfl, ?_⟩) ?_ ?_
  rotate_left
  ·intro w'
   go_simp
   with_reducible rfl
  rotate_left
  ·simp only [Act.put, List.setIfInBounds_toArray, List.set_cons_zero, List.set_cons_succ, i64_w, i32_w]
   rfl
  refine one_ (i := 18) (N := some 23) #[true, true, true, true, true, true, true, true, true, true, true, true, true, true, true, true, true, true, true, false, false] rfl rfl (one_of HT_.out (by kernel_rfl)) (by decide) (fun K hK => ?_)
  refine goes_ Try.func10 (by kernel_rfl) rfl #[] (by rfl) rfl rfl (by (try simp only [List.map_toArray, List.map_cons, List.map_nil]); first | done | rfl | (simp only [List.length_drop, List.length_take]; rfl)) ?_
  with_reducible refine (zelligelaw07_lives.calls k  t518 _ A6.out).mono ?_
  rintro e w12 ⟨rfl, hb⟩
  refine ⟨_, rfl, ?_⟩
  have n0_ := Aside0.mk (blk_below (g := gb514) (o := .cells #[.int .i64 a0_0, .int .i64 a0_1, .int .i64 a0_2, .int .i64 a0_3, .int .i64 a0_4, .int .i64 a0_5] 24 (0, 0)) (bk BK514.out) hb)
  have n1_ := Aside0.mk (blk_below (g := gb515) (o := .cells #[.int .i64 a1_0, .int .i64 a1_1] 23 (0, 0)) (bk BK515.out) hb)
  have n2_ := Aside0.mk (below_step (by repeat (first | (with_reducible first | exact HB.out | apply below_alloc | apply pw_below_drewN | apply below_drew1 | refine below_set ?_ GE514.out | refine below_set ?_ GE515.out) | exact HB.out)) hb)
  clear BK514
  clear BK515
  clear HB
  have BK514 := n0_
  have BK515 := n1_
  have HB := n2_
  clear n0_ n1_ n2_
  (try clear hb)
  (try clear hb2)
  (try clear hk)
  (try clear hi)
  refine hK.out _ _ ⟨(blk_cell BK514.out 0).trans rfl, (blk_cell BK514.out 1).trans rfl, (blk_cell BK514.out 2).trans rfl, (blk_cell BK514.out 3).trans rfl, (blk_cell BK514.out 4).trans rfl, (blk_cell BK514.out 5).trans rfl, (blk_cell BK515.out 0).trans rfl, (blk_cell BK515.out 1).trans rfl⟩ (fun hHeld => ?_)
  clear hK K
  refine norm_ (a' := ?_) ?_ ?_
  rotate_left
  ·show Act.put _ (some 23) _ = _
   simp only [Act.put, List.setIfInBounds_toArray, List.set_cons_zero, List.set_cons_succ, i64_w, i32_w]
   rfl
  refine pure_ (i := 19) (N := some 24) (v := ?_) (a' := ?_) #[true, true, true, true, true, true, true, true, true, true, true, true, true, true, true, true, true, true, true, true, false] rfl rfl (any_of HT_.out (by kernel_rfl)) (fun _ _ _ h => h) (Or.inl ⟨by rfl, ?_⟩) ?_ ?_
  rotate_left
  ·intro w'
   go_simp
   with_reducible rfl
  rotate_left
  ·simp only [Act.put, List.setIfInBounds_toArray, List.set_cons_zero, List.set_cons_succ, i64_w, i32_w]
   rfl
  refine pure_ (i := 20) (N := some 4) (v := ?_) (a' := ?_) #[true, true, true, true, true, true, true, true, true, true, true, true, true, true, true, true, true, true, true, true, true] rfl rfl (any_of HT_.out (by kernel_rfl)) (fun _ _ _ h => h) (Or.inl ⟨by rfl, ?_⟩) ?_ ?_
  rotate_left
  ·intro w'
   go_simp
   with_reducible rfl
  rotate_left
  ·simp only [Act.put, List.setIfInBounds_toArray, List.set_cons_zero, List.set_cons_succ, i64_w, i32_w]
   rfl
  refine done_ (done_of HT_.out (by kernel_rfl)) ?_
  try go_wp2
  go_ret
  exact ⟨by first | rfl | (simp [errW_none, errW_some] <;> rfl) | (simp [*, errW_none, errW_some] <;> rfl), by repeat (first | (with_reducible first | exact HB.out | apply below_alloc | apply pw_below_drewN | apply below_drew1 | refine below_set ?_ GE514.out | refine below_set ?_ GE515.out) | exact HB.out)⟩
 ·rw [if_neg c5] at H
  have c5b0 : (t516 == t517) = false := beq_eq_false_iff_ne.mpr c5
  have c5b1 : (t516 != t517) = true := bne_iff_ne.mpr c5
  obtain rfl := Option.some.inj H
  go_enter Try.func4, Try.ntmps4
  try go_wp2_with (first | ((with_reducible refine gate_dst (N := 2) rfl ?_); refine box_event ?hg (N := 2) ?hd (cs := #[.int .i64 a0_0, .int .i64 a0_1, .int .i64 a0_2, .int .i64 a0_3, .int .i64 a0_4, .int .i64 a0_5]) (t := 24) ?hr ?_; (case hd => rfl); (case hg => rfl); (case hr => first | (go_simp; done) | (go_simp; rfl)); intro gb514 hg w13 hbox hb; have n0_ := Aside0.mk (below_step (bw HB.out) hb); have n1_ := Aside0.mk (hbox); have n2_ := Aside0.mk ((by rw [hg]; exact (below_size (bw HB.out)) : w.heap.size ≤ gb514)); have n3_ := Aside0.mk ((by rw [hg]; exact (below_size (bw HB.out)) : w.heap.size ≤ gb514)); clear HB; have HB := n0_; have BK514 := n1_; have GW514 := n2_; have GE514 := n3_; clear n0_ n1_ n2_ n3_; clear hb hbox hg) | ((with_reducible refine gate_dst (N := 3) rfl ?_); refine box_event ?hg (N := 3) ?hd (cs := #[.int .i64 a1_0, .int .i64 a1_1]) (t := 23) ?hr ?_; (case hd => rfl); (case hg => rfl); (case hr => first | (go_simp; done) | (go_simp; rfl)); intro gb515 hg w14 hbox hb; have n0_ := Aside0.mk (blk_below (g := gb514) (o := .cells #[.int .i64 a0_0, .int .i64 a0_1, .int .i64 a0_2, .int .i64 a0_3, .int .i64 a0_4, .int .i64 a0_5] 24 (0, 0)) (bk BK514.out) hb); have n1_ := Aside0.mk (below_step (by repeat (first | (with_reducible first | exact HB.out | apply below_alloc | apply pw_below_drewN | apply below_drew1 | refine below_set ?_ GE514.out) | exact HB.out)) hb); have n2_ := Aside0.mk (hbox); have n3_ := Aside0.mk ((by rw [hg]; exact (below_size (by repeat (first | (with_reducible first | exact HB.out | apply below_alloc | apply pw_below_drewN | apply below_drew1 | refine below_set ?_ GE514.out) | exact HB.out))) : w.heap.size ≤ gb515)); have n4_ := Aside0.mk ((by rw [hg]; exact (below_size (by repeat (first | (with_reducible first | exact HB.out | apply below_alloc | apply pw_below_drewN | apply below_drew1 | refine below_set ?_ GE514.out) | exact HB.out))) : w.heap.size ≤ gb515)); have n5_ := Aside0.mk ((by rw [hg]; exact Nat.ne_of_lt (blk_lt (g := gb514) (o := .cells #[.int .i64 a0_0, .int .i64 a0_1, .int .i64 a0_2, .int .i64 a0_3, .int .i64 a0_4, .int .i64 a0_5] 24 (0, 0)) (bk BK514.out)) : gb514 ≠ gb515)); have n6_ := Aside0.mk ((by rw [hg]; exact Nat.ne_of_gt (blk_lt (g := gb514) (o := .cells #[.int .i64 a0_0, .int .i64 a0_1, .int .i64 a0_2, .int .i64 a0_3, .int .i64 a0_4, .int .i64 a0_5] 24 (0, 0)) (bk BK514.out)) : gb515 ≠ gb514)); clear BK514; clear HB; have BK514 := n0_; have HB := n1_; have BK515 := n2_; have GW515 := n3_; have GE515 := n4_; have NB514_515 := n5_; have NB515_514 := n6_; clear n0_ n1_ n2_ n3_ n4_ n5_ n6_; clear hb hbox hg))
  have n0_ := Aside0.mk (blk_drew BK514.out)
  have n1_ := Aside0.mk (blk_drew BK515.out)
  have n2_ := Aside0.mk (below_drew1 HB.out)
  clear BK514
  clear BK515
  clear HB
  have BK514 := n0_
  have BK515 := n1_
  have HB := n2_
  clear n0_ n1_ n2_
  refine start_ (n := 21) (S := fun w' => w'.cell? ⟨gb514, 0, none⟩ = some (.int .i64 a0_0) ∧ w'.cell? ⟨gb514, 1, none⟩ = some (.int .i64 a0_1) ∧ w'.cell? ⟨gb514, 2, none⟩ = some (.int .i64 a0_2) ∧ w'.cell? ⟨gb514, 3, none⟩ = some (.int .i64 a0_3) ∧ w'.cell? ⟨gb514, 4, none⟩ = some (.int .i64 a0_4) ∧ w'.cell? ⟨gb514, 5, none⟩ = some (.int .i64 a0_5) ∧ w'.cell? ⟨gb515, 0, none⟩ = some (.int .i64 a1_0) ∧ w'.cell? ⟨gb515, 1, none⟩ = some (.int .i64 a1_1)) (ds := []) #[false, false, false, false, false, false, false, false, false, false, false, false, false, false, false, false, false, false, false, false, false] (by kernel_rfl) rfl rfl ⟨(blk_cell BK514.out 0).trans rfl, (blk_cell BK514.out 1).trans rfl, (blk_cell BK514.out 2).trans rfl, (blk_cell BK514.out 3).trans rfl, (blk_cell BK514.out 4).trans rfl, (blk_cell BK514.out 5).trans rfl, (blk_cell BK515.out 0).trans rfl, (blk_cell BK515.out 1).trans rfl⟩ (fun hHeld => ?_); refine with_tabW zelligelaw07_PredWhere.tab1 zelligelaw07_PredWhere.bits1 (fun HT_ HW_ => ?_)
  generalize w14.drew = w15 at BK514 BK515 HB hHeld ⊢
  refine pure_ (i := 0) (N := some 5) (v := ?_) (a' := ?_) #[true, false, false, false, false, false, false, false, false, false, false, false, false, false, false, false, false, false, false, false, false] rfl rfl (any_of HT_.out (by kernel_rfl)) (fun _ _ _ h => h) (Or.inl ⟨by rfl, ?_⟩) ?_ ?_
  rotate_left
  ·intro w'
   go_simp
   with_reducible rfl
  rotate_left
  ·simp only [Act.put, List.setIfInBounds_toArray, List.set_cons_zero, List.set_cons_succ, i64_w, i32_w]
   rfl
  refine pure_ (i := 2) (N := some 7) (v := ?_) (a' := ?_) #[true, false, true, false, false, false, false, false, false, false, false, false, false, false, false, false, false, false, false, false, false] rfl rfl (any_of HT_.out (by kernel_rfl)) (fun _ _ _ h => h) (Or.inl ⟨by rfl, ?_⟩) ?_ ?_
  rotate_left
  ·intro w'
   go_simp
   with_reducible rfl
  rotate_left
  ·simp only [Act.put, List.setIfInBounds_toArray, List.set_cons_zero, List.set_cons_succ, i64_w, i32_w]
   rfl
  refine pure_ (i := 4) (N := some 9) (v := ?_) (a' := ?_) #[true, false, true, false, true, false, false, false, false, false, false, false, false, false, false, false, false, false, false, false, false] rfl rfl (any_of HT_.out (by kernel_rfl)) (fun _ _ _ h => h) (Or.inl ⟨by rfl, ?_⟩) ?_ ?_
  rotate_left
  ·intro w'
   go_simp
   with_reducible rfl
  rotate_left
  ·simp only [Act.put, List.setIfInBounds_toArray, List.set_cons_zero, List.set_cons_succ, i64_w, i32_w]
   rfl
  refine pure_ (i := 8) (N := some 13) (v := ?_) (a' := ?_) #[true, false, true, false, true, false, false, false, true, false, false, false, false, false, false, false, false, false, false, false, false] rfl rfl (any_of HT_.out (by kernel_rfl)) (fun _ _ _ h => h) (Or.inl ⟨by rfl, ?_⟩) ?_ ?_
  rotate_left
  ·intro w'
   go_simp
   with_reducible rfl
  rotate_left
  ·simp only [Act.put, List.setIfInBounds_toArray, List.set_cons_zero, List.set_cons_succ, i64_w, i32_w]
   rfl
  refine pure_ (i := 10) (N := some 15) (v := ?_) (a' := ?_) #[true, false, true, false, true, false, false, false, true, false, true, false, false, false, false, false, false, false, false, false, false] rfl rfl (any_of HT_.out (by kernel_rfl)) (fun _ _ _ h => h) (Or.inl ⟨by rfl, ?_⟩) ?_ ?_
  rotate_left
  ·intro w'
   go_simp
   with_reducible rfl
  rotate_left
  ·simp only [Act.put, List.setIfInBounds_toArray, List.set_cons_zero, List.set_cons_succ, i64_w, i32_w]
   rfl
  refine pure_ (i := 12) (N := some 17) (v := ?_) (a' := ?_) #[true, false, true, false, true, false, false, false, true, false, true, false, true, false, false, false, false, false, false, false, false] rfl rfl (any_of HT_.out (by kernel_rfl)) (fun _ _ _ h => h) (Or.inl ⟨by rfl, ?_⟩) ?_ ?_
  rotate_left
  ·intro w'
   go_simp
   with_reducible rfl
  rotate_left
  ·simp only [Act.put, List.setIfInBounds_toArray, List.set_cons_zero, List.set_cons_succ, i64_w, i32_w]
   rfl
  refine take_ (i := 1) (N := some 6) (v := ?_) (a' := ?_) #[true, true, true, false, true, false, false, false, true, false, true, false, true, false, false, false, false, false, false, false, false] rfl rfl (take_ofW HT_.out HW_.out (by kernel_rfl)) (fun _ _ _ h => h) (Or.inl ⟨by rfl, ?_⟩) hHeld ?_ ?_
  rotate_left
  ·rintro w' ⟨s0, s1, s2, s3, s4, s5, s6, s7⟩
   go_simp
   with_reducible rfl
  rotate_left
  ·simp only [Act.put, List.setIfInBounds_toArray, List.set_cons_zero, List.set_cons_succ, i64_w, i32_w]
   rfl
  refine take_ (i := 3) (N := some 8) (v := ?_) (a' := ?_) #[true, true, true, true, true, false, false, false, true, false, true, false, true, false, false, false, false, false, false, false, false] rfl rfl (take_ofW HT_.out HW_.out (by kernel_rfl)) (fun _ _ _ h => h) (Or.inl ⟨by rfl, ?_⟩) hHeld ?_ ?_
  rotate_left
  ·rintro w' ⟨s0, s1, s2, s3, s4, s5, s6, s7⟩
   go_simp
   with_reducible rfl
  rotate_left
  ·simp only [Act.put, List.setIfInBounds_toArray, List.set_cons_zero, List.set_cons_succ, i64_w, i32_w]
   rfl
  refine take_ (i := 5) (N := some 10) (v := ?_) (a' := ?_) #[true, true, true, true, true, true, false, false, true, false, true, false, true, false, false, false, false, false, false, false, false] rfl rfl (take_ofW HT_.out HW_.out (by kernel_rfl)) (fun _ _ _ h => h) (Or.inl ⟨by rfl, ?_⟩) hHeld ?_ ?_
  rotate_left
  ·rintro w' ⟨s0, s1, s2, s3, s4, s5, s6, s7⟩
   go_simp
   with_reducible rfl
  rotate_left
  ·simp only [Act.put, List.setIfInBounds_toArray, List.set_cons_zero, List.set_cons_succ, i64_w, i32_w]
   rfl
  refine take_ (i := 6) (N := some 11) (v := ?_) (a' := ?_) #[true, true, true, true, true, true, true, false, true, false, true, false, true, false, false, false, false, false, false, false, false] rfl rfl (take_ofW HT_.out HW_.out (by kernel_rfl)) (fun _ _ _ h => h) (Or.inl ⟨by rfl, ?_⟩) hHeld ?_ ?_
  rotate_left
  ·rintro w' ⟨s0, s1, s2, s3, s4, s5, s6, s7⟩
   go_simp
   with_reducible rfl
  rotate_left
  ·simp only [Act.put, List.setIfInBounds_toArray, List.set_cons_zero, List.set_cons_succ, i64_w, i32_w]
   rfl
  refine take_ (i := 9) (N := some 14) (v := ?_) (a' := ?_) #[true, true, true, true, true, true, true, false, true, true, true, false, true, false, false, false, false, false, false, false, false] rfl rfl (take_ofW HT_.out HW_.out (by kernel_rfl)) (fun _ _ _ h => h) (Or.inl ⟨by rfl, ?_⟩) hHeld ?_ ?_
  rotate_left
  ·rintro w' ⟨s0, s1, s2, s3, s4, s5, s6, s7⟩
   go_simp
   with_reducible rfl
  rotate_left
  ·simp only [Act.put, List.setIfInBounds_toArray, List.set_cons_zero, List.set_cons_succ, i64_w, i32_w]
   rfl
  refine take_ (i := 11) (N := some 16) (v := ?_) (a' := ?_) #[true, true, true, true, true, true, true, false, true, true, true, true, true, false, false, false, false, false, false, false, false] rfl rfl (take_ofW HT_.out HW_.out (by kernel_rfl)) (fun _ _ _ h => h) (Or.inl ⟨by rfl, ?_⟩) hHeld ?_ ?_
  rotate_left
  ·rintro w' ⟨s0, s1, s2, s3, s4, s5, s6, s7⟩
   go_simp
   with_reducible rfl
  rotate_left
  ·simp only [Act.put, List.setIfInBounds_toArray, List.set_cons_zero, List.set_cons_succ, i64_w, i32_w]
   rfl
  refine take_ (i := 13) (N := some 18) (v := ?_) (a' := ?_) #[true, true, true, true, true, true, true, false, true, true, true, true, true, true, false, false, false, false, false, false, false] rfl rfl (take_ofW HT_.out HW_.out (by kernel_rfl)) (fun _ _ _ h => h) (Or.inl ⟨by rfl, ?_⟩) hHeld ?_ ?_
  rotate_left
  ·rintro w' ⟨s0, s1, s2, s3, s4, s5, s6, s7⟩
   go_simp
   with_reducible rfl
  rotate_left
  ·simp only [Act.put, List.setIfInBounds_toArray, List.set_cons_zero, List.set_cons_succ, i64_w, i32_w]
   rfl
  refine take_ (i := 14) (N := some 19) (v := ?_) (a' := ?_) #[true, true, true, true, true, true, true, false, true, true, true, true, true, true, true, false, false, false, false, false, false] rfl rfl (take_ofW HT_.out HW_.out (by kernel_rfl)) (fun _ _ _ h => h) (Or.inl ⟨by rfl, ?_⟩) hHeld ?_ ?_
  rotate_left
  ·rintro w' ⟨s0, s1, s2, s3, s4, s5, s6, s7⟩
   go_simp
   with_reducible rfl
  rotate_left
  ·simp only [Act.put, List.setIfInBounds_toArray, List.set_cons_zero, List.set_cons_succ, i64_w, i32_w]
   rfl
  refine one_ (i := 7) (N := some 12) #[true, true, true, true, true, true, true, true, true, true, true, true, true, true, true, false, false, false, false, false, false] rfl rfl (one_of HT_.out (by kernel_rfl)) (by decide) (fun K hK => ?_)
  refine goes_ Try.func12 (by kernel_rfl) rfl #[.agg #[.int .i64 a0_0, .int .i64 a0_1], .agg #[.int .i64 a0_2, .int .i64 a0_3], .agg #[.int .i64 a0_4, .int .i64 a0_5], .agg #[.int .i64 a1_0, .int .i64 a1_1]] (by rfl) rfl rfl (by (try simp only [List.map_toArray, List.map_cons, List.map_nil]); first | done | rfl | (simp only [List.length_drop, List.length_take]; rfl)) ?_
  with_reducible refine (pred_Where.calls k a0_0 a0_1 a0_2 a0_3 a0_4 a0_5 a1_0 a1_1 t516 _ A3.out).mono ?_
  rintro e w16 ⟨rfl, hb⟩
  refine ⟨_, rfl, ?_⟩
  have n0_ := Aside0.mk (blk_below (g := gb514) (o := .cells #[.int .i64 a0_0, .int .i64 a0_1, .int .i64 a0_2, .int .i64 a0_3, .int .i64 a0_4, .int .i64 a0_5] 24 (0, 0)) (bk BK514.out) hb)
  have n1_ := Aside0.mk (blk_below (g := gb515) (o := .cells #[.int .i64 a1_0, .int .i64 a1_1] 23 (0, 0)) (bk BK515.out) hb)
  have n2_ := Aside0.mk (below_step (by repeat (first | (with_reducible first | exact HB.out | apply below_alloc | apply pw_below_drewN | apply below_drew1 | refine below_set ?_ GE514.out | refine below_set ?_ GE515.out) | exact HB.out)) hb)
  clear BK514
  clear BK515
  clear HB
  have BK514 := n0_
  have BK515 := n1_
  have HB := n2_
  clear n0_ n1_ n2_
  (try clear hb)
  (try clear hb2)
  (try clear hk)
  (try clear hi)
  refine hK.out _ _ ⟨(blk_cell BK514.out 0).trans rfl, (blk_cell BK514.out 1).trans rfl, (blk_cell BK514.out 2).trans rfl, (blk_cell BK514.out 3).trans rfl, (blk_cell BK514.out 4).trans rfl, (blk_cell BK514.out 5).trans rfl, (blk_cell BK515.out 0).trans rfl, (blk_cell BK515.out 1).trans rfl⟩ (fun hHeld => ?_)
  clear hK K
  refine norm_ (a' := ?_) ?_ ?_
  rotate_left
  ·show Act.put _ (some 12) _ = _
   simp only [Act.put, List.setIfInBounds_toArray, List.set_cons_zero, List.set_cons_succ, i64_w, i32_w]
   rfl
  refine one_ (i := 15) (N := some 20) #[true, true, true, true, true, true, true, true, true, true, true, true, true, true, true, true, false, false, false, false, false] rfl rfl (one_of HT_.out (by kernel_rfl)) (by decide) (fun K hK => ?_)
  refine goes_ Try.func13 (by kernel_rfl) rfl #[.agg #[.int .i64 a0_0, .int .i64 a0_1], .agg #[.int .i64 a0_2, .int .i64 a0_3], .agg #[.int .i64 a0_4, .int .i64 a0_5], .agg #[.int .i64 a1_0, .int .i64 a1_1]] (by rfl) rfl rfl (by (try simp only [List.map_toArray, List.map_cons, List.map_nil]); first | done | rfl | (simp only [List.length_drop, List.length_take]; rfl)) ?_
  with_reducible refine (zelligeref07_Where.calls k a0_0 a0_1 a0_2 a0_3 a0_4 a0_5 a1_0 a1_1 t517 _ A4.out).mono ?_
  rintro e w17 ⟨rfl, hb⟩
  refine ⟨_, rfl, ?_⟩
  have n0_ := Aside0.mk (blk_below (g := gb514) (o := .cells #[.int .i64 a0_0, .int .i64 a0_1, .int .i64 a0_2, .int .i64 a0_3, .int .i64 a0_4, .int .i64 a0_5] 24 (0, 0)) (bk BK514.out) hb)
  have n1_ := Aside0.mk (blk_below (g := gb515) (o := .cells #[.int .i64 a1_0, .int .i64 a1_1] 23 (0, 0)) (bk BK515.out) hb)
  have n2_ := Aside0.mk (below_step (by repeat (first | (with_reducible first | exact HB.out | apply below_alloc | apply pw_below_drewN | apply below_drew1 | refine below_set ?_ GE514.out | refine below_set ?_ GE515.out) | exact HB.out)) hb)
  clear BK514
  clear BK515
  clear HB
  have BK514 := n0_
  have BK515 := n1_
  have HB := n2_
  clear n0_ n1_ n2_
  (try clear hb)
  (try clear hb2)
  (try clear hk)
  (try clear hi)
  refine hK.out _ _ ⟨(blk_cell BK514.out 0).trans rfl, (blk_cell BK514.out 1).trans rfl, (blk_cell BK514.out 2).trans rfl, (blk_cell BK514.out 3).trans rfl, (blk_cell BK514.out 4).trans rfl, (blk_cell BK514.out 5).trans rfl, (blk_cell BK515.out 0).trans rfl, (blk_cell BK515.out 1).trans rfl⟩ (fun hHeld => ?_)
  clear hK K
  refine norm_ (a' := ?_) ?_ ?_
  rotate_left
  ·show Act.put _ (some 20) _ = _
   simp only [Act.put, List.setIfInBounds_toArray, List.set_cons_zero, List.set_cons_succ, i64_w, i32_w]
   rfl
  refine pure_ (i := 16) (N := some 21) (v := ?_) (a' := ?_) #[true, true, true, true, true, true, true, true, true, true, true, true, true, true, true, true, true, false, false, false, false] rfl rfl (any_of HT_.out (by kernel_rfl)) (fun _ _ _ h => h) (Or.inl ⟨by rfl, ?_⟩) ?_ ?_
  rotate_left
  ·intro w'
   go_simp
   with_reducible rfl
  rotate_left
  ·simp only [Act.put, List.setIfInBounds_toArray, List.set_cons_zero, List.set_cons_succ, i64_w, i32_w]
   rfl
  refine pure_ (i := 17) (N := some 22) (v := ?_) (a' := ?_) #[true, true, true, true, true, true, true, true, true, true, true, true, true, true, true, true, true, true, false, false, false] rfl rfl (any_of HT_.out (by kernel_rfl)) (fun _ _ _ h => h) (Or.inl ⟨by rfl, ?_⟩) ?_ ?_
  rotate_left
  ·intro w'
   go_simp
   with_reducible rfl
  rotate_left
  ·simp only [Act.put, List.setIfInBounds_toArray, List.set_cons_zero, List.set_cons_succ, i64_w, i32_w]
   rfl
  refine pure_ (i := 18) (N := some 23) (v := undef) (a' := ?_) #[true, true, true, true, true, true, true, true, true, true, true, true, true, true, true, true, true, true, true, false, false] rfl rfl (any_of HT_.out (by kernel_rfl)) (fun _ _ _ h => h) (Or.inr ⟨by rfl, rfl⟩) ?_ ?_
  rotate_left
  ·simp only [Act.put, List.setIfInBounds_toArray, List.set_cons_zero, List.set_cons_succ, i64_w, i32_w]
   rfl
  refine pure_ (i := 19) (N := some 24) (v := ?_) (a' := ?_) #[true, true, true, true, true, true, true, true, true, true, true, true, true, true, true, true, true, true, true, true, false] rfl rfl (any_of HT_.out (by kernel_rfl)) (fun _ _ _ h => h) (Or.inl ⟨by rfl, ?_⟩) ?_ ?_
  rotate_left
  ·intro w'
   go_simp
   with_reducible rfl
  rotate_left
  ·simp only [Act.put, List.setIfInBounds_toArray, List.set_cons_zero, List.set_cons_succ, i64_w, i32_w]
   rfl
  refine pure_ (i := 20) (N := some 4) (v := ?_) (a' := ?_) #[true, true, true, true, true, true, true, true, true, true, true, true, true, true, true, true, true, true, true, true, true] rfl rfl (any_of HT_.out (by kernel_rfl)) (fun _ _ _ h => h) (Or.inl ⟨by rfl, ?_⟩) ?_ ?_
  rotate_left
  ·intro w'
   go_simp
   with_reducible rfl
  rotate_left
  ·simp only [Act.put, List.setIfInBounds_toArray, List.set_cons_zero, List.set_cons_succ, i64_w, i32_w]
   rfl
  refine done_ (done_of HT_.out (by kernel_rfl)) ?_
  try go_wp2
  go_ret
  exact ⟨by first | rfl | (simp [errW_none, errW_some] <;> rfl) | (simp [*, errW_none, errW_some] <;> rfl), by repeat (first | (with_reducible first | exact HB.out | apply below_alloc | apply pw_below_drewN | apply below_drew1 | refine below_set ?_ GE514.out | refine below_set ?_ GE515.out) | exact HB.out)⟩
end Go.Proofs.Ytmeckkckjikjiaa.F
end
section
namespace Go.Proofs.Ytmeckkckjikjiaa.Pd
open Go Go.RowKit Go.Proofs.YtmeckkckjikjiaaW.PrintWords Go.Proofs.Ytmeckkckjikjiaa.F Go.Proofs.Ytmeckkckjikjiaa.Wd Go.Proofs.Ytmeckkckjikjiaa.Pm
set_option linter.unusedVariables false
theorem wheres_f {a0 a1 b0 b1 c0 c1 d0 d1 : Int} (h0 : -9223372036854775808 ≤ a0 ∧ a0 ≤ 9223372036854775807) (h1 : -9223372036854775808 ≤ a1 ∧ a1 ≤ 9223372036854775807) (h2 : -9223372036854775808 ≤ b0 ∧ b0 ≤ 9223372036854775807) (h3 : -9223372036854775808 ≤ b1 ∧ b1 ≤ 9223372036854775807) (h4 : -9223372036854775808 ≤ c0 ∧ c0 ≤ 9223372036854775807)
  (h5 : -9223372036854775808 ≤ c1 ∧ c1 ≤ 9223372036854775807) (h6 : -9223372036854775808 ≤ d0 ∧ d0 ≤ 9223372036854775807) (h7 : -9223372036854775808 ≤ d1 ∧ d1 ≤ 9223372036854775807) : zelligelaw07_PredWhere.f 30000000 a0 a1 b0 b1 c0 c1 d0 d1 = some true := by
 obtain ⟨k, hk⟩ : ∃ k, k = 30000000 := ⟨_, rfl⟩
 unfold zelligelaw07_PredWhere.f
 rw [← hk, Where_f _ _ _ _ _ _ _ _ (by omega), Option.bind_some, where_r h0 h1 h2 h3 h4 h5 h6 h7 (by omega), Option.bind_some, if_pos rfl, lives_true (by omega)]
 rfl
theorem wheres_calls (a0_0 a0_1 a0_2 a0_3 a0_4 a0_5 a1_0 a1_1 : Int) (w : World) (h0_0 : (Lit.int .i64 a0_0).wf = true) (h0_1 : (Lit.int .i64 a0_1).wf = true) (h0_2 : (Lit.int .i64 a0_2).wf = true) (h0_3 : (Lit.int .i64 a0_3).wf = true) (h0_4 : (Lit.int .i64 a0_4).wf = true) (h0_5 : (Lit.int .i64 a0_5).wf = true) (h1_0 : (Lit.int .i64 a1_0).wf = true) (h1_1 : (Lit.int .i64 a1_1).wf = true) :
  Calls Try.prog 4 #[.agg #[.int .i64 a0_0, .int .i64 a0_1, .int .i64 a0_2, .int .i64 a0_3, .int .i64 a0_4, .int .i64 a0_5], .agg #[.int .i64 a1_0, .int .i64 a1_1]] w fun e w' => e = .returned (.bool true) ∧ Below w.heap.size w w' :=
 zelligelaw07_PredWhere.calls 30000000 _ _ _ _ _ _ _ _ true w (wheres_f (bounds_i64 h0_0) (bounds_i64 h0_1) (bounds_i64 h0_2) (bounds_i64 h0_3) (bounds_i64 h0_4) (bounds_i64 h0_5) (bounds_i64 h1_0) (bounds_i64 h1_1))
end Go.Proofs.Ytmeckkckjikjiaa.Pd
end
section
namespace Go.Proofs.Ytmeckkckjikjiaa.RK
open Go Go.ChangeShapes Go.WideShapes Go.ChangeAt Go.RowKit Go.WideElems Go.Maps Go.Deep
variable {H : Type} {enc : TypeId × Value → H} {P : Program}
theorem okWide_array {k e : TypeId} {n : Nat} (hu : P.underlying k = some (.array n e)) {W : World} {r : Reach} {b0 : Nat} {v : Value} (h : Value.okWide P W r b0 k v) : ∃ cs : Array Value, v = .agg cs ∧ cs.size = P.cellsOf k := by
 simp only [Value.okWide, hu] at h
 obtain ⟨cs, h1, h2, _⟩ := h
 exact ⟨cs, h1, h2⟩
theorem list6 {α : Type} {l : List α} (h : l.length = 6) : ∃ a b c d e f, l = [a, b, c, d, e, f] := by
 match l, h with
 | [a, b, c, d, e, f], _ => exact ⟨a, b, c, d, e, f, rfl⟩
theorem cells_two {w : World} {sp : Nat → Bool} {held : Bool} {base fuel : Nat} {e : TypeId} {f0 f1 : Field} {k0 k1 : IntKind} {v0 v1 : Value} {x : DataW H × List MemPlace} (hs : P.underlying e = some (.struct #[f0, f1]))
  (o0 : f0.offset = 0) (o1 : f1.offset = 1) (s0 : P.cellsOf f0.type = 1) (s1 : P.cellsOf f1.type = 1) (h0 : P.underlying f0.type = some (.int k0)) (h1 : P.underlying f1.type = some (.int k1)) (h : DataW.trod enc P w base sp held fuel e [v0, v1] = some x) :
  ∃ a b : Int, v0 = .int k0 a ∧ v1 = .int k1 b ∧ (Lit.int k0 a).wf = true ∧ (Lit.int k1 b).wf = true := by
 obtain ⟨y0, y1, n, _, _, g0, g1⟩ := trod_struct2 hs h
 rw [o0, s0] at g0
 rw [o1, s1] at g1
 obtain ⟨a, ea, _, wa⟩ := DataW.trod_int h0 g0
 obtain ⟨b, eb, _, wb⟩ := DataW.trod_int h1 g1
 simp at ea eb
 exact ⟨a, b, ea, eb, wa, wb⟩
theorem open_pairs3 {w : World} {sp : Nat → Bool} {held : Bool} {r : Reach} {b0 base : Nat} {t e : TypeId} {f0 f1 : Field} {k0 k1 : IntKind} {v : Value} {d : DataW H} {p : List MemPlace} (hu : P.underlying t = some (.array 3 e)) (hs : P.underlying e = some (.struct #[f0, f1]))
  (o0 : f0.offset = 0) (o1 : f1.offset = 1) (s0 : P.cellsOf f0.type = 1) (s1 : P.cellsOf f1.type = 1) (h0 : P.underlying f0.type = some (.int k0)) (h1 : P.underlying f1.type = some (.int k1)) (two : P.cellsOf e = 2) (size : P.cellsOf t = 6)
  (hv : Value.okWide P w r b0 t v) (h : DataW.Trod enc P w base sp held t v d p) :
  ∃ a b a' b' a'' b'' : Int, v = .agg #[.int k0 a, .int k1 b, .int k0 a', .int k1 b', .int k0 a'', .int k1 b''] ∧ (Lit.int k0 a).wf = true ∧ (Lit.int k1 b).wf = true ∧ (Lit.int k0 a').wf = true ∧ (Lit.int k1 b').wf = true ∧ (Lit.int k0 a'').wf = true ∧ (Lit.int k1 b'').wf = true := by
 obtain ⟨cs, rfl, hsz⟩ := okWide_array hu hv
 obtain ⟨l⟩ := cs
 obtain ⟨c0, c1, c2, c3, c4, c5, rfl⟩ := list6 (hsz.trans size)
 obtain ⟨fuel, hf⟩ := h
 cases fuel with
 | zero => simp [DataW.trod] at hf
 | succ n =>
  rw [DataW.trod_step] at hf
  unfold DataW.trodStep at hf
  simp only [hu, Value.cells] at hf
  rw [if_pos (by rw [size]; rfl)] at hf
  simp only [Option.map_eq_some_iff] at hf
  obtain ⟨xs, hx, e1⟩ := hf
  rw [show List.range 3 = [0, 1, 2] from rfl, List.mapM_cons, List.mapM_cons, List.mapM_cons, List.mapM_nil] at hx
  simp only [bind, Option.bind_eq_some_iff, pure, Option.some.injEq, two] at hx
  obtain ⟨y0, g0, _, ⟨y1, g1, _, ⟨y2, g2, _, rfl, rfl⟩, rfl⟩, rfl⟩ := hx
  obtain ⟨a, b, rfl, rfl, wa, wb⟩ := cells_two hs o0 o1 s0 s1 h0 h1 g0
  obtain ⟨a', b', rfl, rfl, wa', wb'⟩ := cells_two hs o0 o1 s0 s1 h0 h1 g1
  obtain ⟨a'', b'', rfl, rfl, wa'', wb''⟩ := cells_two hs o0 o1 s0 s1 h0 h1 g2
  exact ⟨a, b, a', b', a'', b'', rfl, wa, wb, wa', wb', wa'', wb''⟩
end Go.Proofs.Ytmeckkckjikjiaa.RK
end
