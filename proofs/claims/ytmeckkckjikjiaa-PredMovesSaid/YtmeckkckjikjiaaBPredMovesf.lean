/- PredMoves: own texts in one (part 6 of 6): contracts of the functions that the law reaches. -/
import Derived.Test.YtmeckkckjikjiaaBPredMovese

section
namespace Go.Proofs.Ytmeckkckjikjiaa.F
open Go.RowKit Go.Proofs.YtmeckkckjikjiaaW.PrintWords Go.Proofs.YtmeckkckjikjiaaW.PrintLast Go.Proofs.YtmeckkckjikjiaaW.PrintMore
attribute [local go_sem] max2_int min2_int max_two min_two max_three min_three max_four min_four
set_option linter.unusedVariables false
set_option linter.unusedSimpArgs false
attribute [local go_sem high] eqA37
def zelligelaw07_PredMoves.j0 : Nat → Bool → Int → Int → Int → Int → Int → Int → Int → Int → Int → Int → Int → Int → Int → Int → Int → Int → Option (Bool)
 | 0, _, _, _, _, _, _, _, _, _, _, _, _, _, _, _, _, _ => none
 | k + 1, x55, x647000, x647001, x647002, x647003, x647004, x647005, x648000, x648001, x653000, x653001, x657000, x657001, x661000, x661001, x665000, x665001 => if x55 = true then ((zelligelaw07_lives.f k).bind fun t665 => (some t665)) else ((pred_Area2.f k x653000 x653001 x657000 x657001 x661000 x661001).bind fun bt666 => ((pred_Area2.f k x647000 x647001 x647002 x647003 x647004 x647005).bind fun bt668 => (if (bt666.1 == bt668.1 && (bt666.2 == bt668.2)) = true then ((pred_Dist2.f k x653000 x653001 x665000 x665001).bind fun bt670 => ((pred_Dist2.f k x647000 x647001 x648000 x648001).bind fun bt672 => (if (bt670.1 == bt672.1 && (bt670.2 == bt672.2)) = true then ((pred_InCircle.f k x653000 x653001 x657000 x657001 x661000 x661001 x665000 x665001).bind fun t674 => ((pred_InCircle.f k x647000 x647001 x647002 x647003 x647004 x647005 x648000 x648001).bind fun t675 => (if t674 = t675 then ((pred_Where.f k x653000 x653001 x657000 x657001 x661000 x661001 x665000 x665001).bind fun t676 => ((pred_Where.f k x647000 x647001 x647002 x647003 x647004 x647005 x648000 x648001).bind fun t677 => (if t676 = t677 then ((zelligelaw07_lives.f k).bind fun t678 => (some t678)) else (some false)))) else (some false)))) else (some false)))) else (some false))))
def zelligelaw07_PredMoves.f (k : Nat) (a0_0 : Int) (a0_1 : Int) (a0_2 : Int) (a0_3 : Int) (a0_4 : Int) (a0_5 : Int) (a1_0 : Int) (a1_1 : Int) (a2_0 : Int) (a2_1 : Int) : Option (Bool) := (zelligelaw07_moved.f a0_0 a0_1 a2_0 a2_1).bind fun bt649 => ((zelligelaw07_moved.f a0_2 a0_3 a2_0 a2_1).bind fun bt653 => ((zelligelaw07_moved.f a0_4 a0_5 a2_0 a2_1).bind fun bt657 => ((zelligelaw07_moved.f a1_0 a1_1 a2_0 a2_1).bind fun bt661 => (if bt649.2.2 = true then (if bt653.2.2 = true then (if bt657.2.2 = true then (zelligelaw07_PredMoves.j0 k (!bt661.2.2) a0_0 a0_1 a0_2 a0_3 a0_4 a0_5 a1_0 a1_1 bt649.1 bt649.2.1 bt653.1 bt653.2.1 bt657.1 bt657.2.1 bt661.1 bt661.2.1) else (zelligelaw07_PredMoves.j0 k true a0_0 a0_1 a0_2 a0_3 a0_4 a0_5 a1_0 a1_1 bt649.1 bt649.2.1 bt653.1 bt653.2.1 bt657.1 bt657.2.1 bt661.1 bt661.2.1)) else (zelligelaw07_PredMoves.j0 k true a0_0 a0_1 a0_2 a0_3 a0_4 a0_5 a1_0 a1_1 bt649.1 bt649.2.1 bt653.1 bt653.2.1 bt657.1 bt657.2.1 bt661.1 bt661.2.1)) else (zelligelaw07_PredMoves.j0 k true a0_0 a0_1 a0_2 a0_3 a0_4 a0_5 a1_0 a1_1 bt649.1 bt649.2.1 bt653.1 bt653.2.1 bt657.1 bt657.2.1 bt661.1 bt661.2.1)))))
theorem zelligelaw07_PredMoves.mono_l : ∀ k, (∀ y0 y1 y2 y3 y4 y5 y6 y7 y8 y9 y10 y11 y12 y13 y14 y15 y16, LeO (zelligelaw07_PredMoves.j0 k y0 y1 y2 y3 y4 y5 y6 y7 y8 y9 y10 y11 y12 y13 y14 y15 y16) (zelligelaw07_PredMoves.j0 (k + 1) y0 y1 y2 y3 y4 y5 y6 y7 y8 y9 y10 y11 y12 y13 y14 y15 y16))
 | 0 => fun _ _ _ _ _ _ _ _ _ _ _ _ _ _ _ _ _ r h => by simp [zelligelaw07_PredMoves.j0] at h
 | k + 1 => by
  have ih0 := zelligelaw07_PredMoves.mono_l k
  ·intro y0 y1 y2 y3 y4 y5 y6 y7 y8 y9 y10 y11 y12 y13 y14 y15 y16
   unfold zelligelaw07_PredMoves.j0
   repeat' first
   | (with_reducible exact ih0 _ _ _ _ _ _ _ _ _ _ _ _ _ _ _ _ _)
   | (with_reducible exact pred_Area2.mono _ _ _ _ _ _ _)
   | (with_reducible exact pred_Dist2.mono _ _ _ _ _)
   | (with_reducible exact pred_InCircle.mono _ _ _ _ _ _ _ _ _)
   | (with_reducible exact pred_Where.mono _ _ _ _ _ _ _ _ _)
   | (with_reducible exact zelligelaw07_lives.mono _)
   | (with_reducible exact LeO.refl _)
   | (with_reducible exact LeO.none _)
   | (with_reducible refine LeO.ite ?_ ?_)
   | (with_reducible refine LeO.bind ?_ (fun _ => ?_))
   | exact ih0 _ _ _ _ _ _ _ _ _ _ _ _ _ _ _ _ _
   | exact pred_Area2.mono _ _ _ _ _ _ _
   | exact pred_Dist2.mono _ _ _ _ _
   | exact pred_InCircle.mono _ _ _ _ _ _ _ _ _
   | exact pred_Where.mono _ _ _ _ _ _ _ _ _
   | exact zelligelaw07_lives.mono _
   | exact LeO.none _
   | refine LeO.ite ?_ ?_
   | refine LeO.bind ?_ (fun _ => ?_)
theorem zelligelaw07_PredMoves.mono : ∀ a0 a1 a2 a3 a4 a5 a6 a7 a8 a9 k, LeO (zelligelaw07_PredMoves.f k a0 a1 a2 a3 a4 a5 a6 a7 a8 a9) (zelligelaw07_PredMoves.f (k + 1) a0 a1 a2 a3 a4 a5 a6 a7 a8 a9) := by
 intro a0 a1 a2 a3 a4 a5 a6 a7 a8 a9 k
 have ih0 := zelligelaw07_PredMoves.mono_l k
 unfold zelligelaw07_PredMoves.f
 repeat' first
   | (with_reducible exact ih0 _ _ _ _ _ _ _ _ _ _ _ _ _ _ _ _ _)
   | (with_reducible exact pred_Area2.mono _ _ _ _ _ _ _)
   | (with_reducible exact pred_Dist2.mono _ _ _ _ _)
   | (with_reducible exact pred_InCircle.mono _ _ _ _ _ _ _ _ _)
   | (with_reducible exact pred_Where.mono _ _ _ _ _ _ _ _ _)
   | (with_reducible exact zelligelaw07_lives.mono _)
   | (with_reducible exact LeO.refl _)
   | (with_reducible exact LeO.none _)
   | (with_reducible refine LeO.ite ?_ ?_)
   | (with_reducible refine LeO.bind ?_ (fun _ => ?_))
   | exact ih0 _ _ _ _ _ _ _ _ _ _ _ _ _ _ _ _ _
   | exact pred_Area2.mono _ _ _ _ _ _ _
   | exact pred_Dist2.mono _ _ _ _ _
   | exact pred_InCircle.mono _ _ _ _ _ _ _ _ _
   | exact pred_Where.mono _ _ _ _ _ _ _ _ _
   | exact zelligelaw07_lives.mono _
   | exact LeO.none _
   | refine LeO.ite ?_ ?_
   | refine LeO.bind ?_ (fun _ => ?_)
def zelligelaw07_PredMoves.T7 : Bool × List (List Nat × List Nat) := (true, [([], []), ([], []), ([], []), ([0, 1, 2], [0, 1, 2]), ([], []), ([4], [4]), ([], []), ([6], [6]), ([], []), ([8], [8]), ([5, 7, 9, 3], [5, 7, 9]), ([3, 10], [3, 10]), ([11, 10], [11]), ([12], [12]), ([12], [12]), ([13, 14, 12, 12], [12, 13, 14]), ([12], [12]), ([16, 12], [12, 16]), ([12], [12]), ([17, 18, 15, 12], [12, 17, 18]), ([15, 19, 12], [12, 15, 19]), ([12, 20], [12, 20]), ([21, 19], [21]), ([22], [22]), ([22], [22]), ([22], [22]), ([22], [22]), ([23, 24, 25, 26, 22, 22], [22, 23, 24, 25, 26]), ([22], [22]), ([28, 22], [22, 28]), ([22], [22]), ([30, 22], [22, 30]), ([22], [22]), ([32, 22], [22, 32]), ([22], [22]), ([29, 31, 33, 34, 27, 22], [22, 29, 31, 33, 34]), ([27, 35, 22], [22, 27, 35]), ([22, 36], [22, 36]), ([37, 35], [37]), ([38], [38]), ([38], [38]), ([38], [38]), ([38], [38]), ([39, 40, 41, 42, 38, 38], [38, 39, 40, 41, 42]), ([38], [38]), ([44, 38], [38, 44]), ([38], [38]), ([46, 38], [38, 46]), ([38], [38]), ([48, 38], [38, 48]), ([38], [38]), ([45, 47, 49, 50, 43, 38], [38, 45, 47, 49, 50]), ([43, 51, 38], [38, 43, 51]), ([38, 52], [38, 52]), ([53, 51], [53]), ([54, 54], [54]), ([54, 55], [54, 55]), ([56, 55, 0, 1, 2, 3, 4, 5, 6, 7, 8, 9, 10, 11, 12, 13, 14, 15, 16, 17, 18, 19, 20, 21, 22, 23, 24, 25, 26, 27, 28, 29, 30, 31, 32, 33, 34, 35, 36, 37, 38, 39, 40, 41, 42, 43, 44, 45, 46, 47, 48, 49, 50, 51, 52, 53, 54, 55, 56], [56])])
def zelligelaw07_PredMoves.B7 : List Nat := [0, 0, 0, 7, 0, 16, 0, 64, 0, 256, 1023, 2047, 4095, 8191, 8191, 32767, 8191, 73727, 8191, 524287, 1048575, 2097151, 4194303, 8388607, 8388607, 8388607, 8388607, 134217727, 8388607, 276824063, 8388607, 1082130431, 8388607, 4303355903, 8388607, 34359738367, 68719476735, 137438953471, 274877906943, 549755813887, 549755813887, 549755813887, 549755813887, 8796093022207, 549755813887, 18141941858303, 549755813887, 70918499991551, 549755813887, 282024732524543, 549755813887, 2251799813685247, 4503599627370495, 9007199254740991, 18014398509481983, 36028797018963967, 72057594037927935, 144115188075855871]
theorem zelligelaw07_PredMoves.tab7 : rtab .any (opsOf Try.f7 7) = zelligelaw07_PredMoves.T7 := by kernel_rfl
theorem zelligelaw07_PredMoves.bits7 : waitsOk zelligelaw07_PredMoves.T7.2 zelligelaw07_PredMoves.B7 = true := by kernel_rfl
set_option maxHeartbeats 8000000 in
set_option maxRecDepth 100000 in
theorem zelligelaw07_PredMoves.calls (k : Nat) (a0_0 : Int) (a0_1 : Int) (a0_2 : Int) (a0_3 : Int) (a0_4 : Int) (a0_5 : Int) (a1_0 : Int) (a1_1 : Int) (a2_0 : Int) (a2_1 : Int) (w : World) (h : zelligelaw07_PredMoves.f k a0_0 a0_1 a0_2 a0_3 a0_4 a0_5 a1_0 a1_1 a2_0 a2_1 = some true) :
  Calls Try.prog 7 #[.agg #[.int .i64 a0_0, .int .i64 a0_1, .int .i64 a0_2, .int .i64 a0_3, .int .i64 a0_4, .int .i64 a0_5], .agg #[.int .i64 a1_0, .int .i64 a1_1], .agg #[.int .i64 a2_0, .int .i64 a2_1]] w fun e w' => e = .returned (.bool true) ∧ Below w.heap.size w w' := by
 have hu24 := Try.underlying24
 have hu23 := Try.underlying23
 have HB := Aside0.mk (Below.refl w.heap.size w)
 have H : ((zelligelaw07_moved.f a0_0 a0_1 a2_0 a2_1).bind fun bt649 => ((zelligelaw07_moved.f a0_2 a0_3 a2_0 a2_1).bind fun bt653 => ((zelligelaw07_moved.f a0_4 a0_5 a2_0 a2_1).bind fun bt657 => ((zelligelaw07_moved.f a1_0 a1_1 a2_0 a2_1).bind fun bt661 => (if bt649.2.2 = true then (if bt653.2.2 = true then (if bt657.2.2 = true then (zelligelaw07_PredMoves.j0 k (!bt661.2.2) a0_0 a0_1 a0_2 a0_3 a0_4 a0_5 a1_0 a1_1 bt649.1 bt649.2.1 bt653.1 bt653.2.1 bt657.1 bt657.2.1 bt661.1 bt661.2.1) else (zelligelaw07_PredMoves.j0 k true a0_0 a0_1 a0_2 a0_3 a0_4 a0_5 a1_0 a1_1 bt649.1 bt649.2.1 bt653.1 bt653.2.1 bt657.1 bt657.2.1 bt661.1 bt661.2.1)) else (zelligelaw07_PredMoves.j0 k true a0_0 a0_1 a0_2 a0_3 a0_4 a0_5 a1_0 a1_1 bt649.1 bt649.2.1 bt653.1 bt653.2.1 bt657.1 bt657.2.1 bt661.1 bt661.2.1)) else (zelligelaw07_PredMoves.j0 k true a0_0 a0_1 a0_2 a0_3 a0_4 a0_5 a1_0 a1_1 bt649.1 bt649.2.1 bt653.1 bt653.2.1 bt657.1 bt657.2.1 bt661.1 bt661.2.1)))))) = some true := h
 clear h
 replace H := Option.bind_eq_some_iff.mp H
 obtain ⟨⟨t649, t650, t651⟩, A40, H⟩ := H
 replace H : ((zelligelaw07_moved.f a0_2 a0_3 a2_0 a2_1).bind fun bt653 => ((zelligelaw07_moved.f a0_4 a0_5 a2_0 a2_1).bind fun bt657 => ((zelligelaw07_moved.f a1_0 a1_1 a2_0 a2_1).bind fun bt661 => (if t651 = true then (if bt653.2.2 = true then (if bt657.2.2 = true then (zelligelaw07_PredMoves.j0 k (!bt661.2.2) a0_0 a0_1 a0_2 a0_3 a0_4 a0_5 a1_0 a1_1 t649 t650 bt653.1 bt653.2.1 bt657.1 bt657.2.1 bt661.1 bt661.2.1) else (zelligelaw07_PredMoves.j0 k true a0_0 a0_1 a0_2 a0_3 a0_4 a0_5 a1_0 a1_1 t649 t650 bt653.1 bt653.2.1 bt657.1 bt657.2.1 bt661.1 bt661.2.1)) else (zelligelaw07_PredMoves.j0 k true a0_0 a0_1 a0_2 a0_3 a0_4 a0_5 a1_0 a1_1 t649 t650 bt653.1 bt653.2.1 bt657.1 bt657.2.1 bt661.1 bt661.2.1)) else (zelligelaw07_PredMoves.j0 k true a0_0 a0_1 a0_2 a0_3 a0_4 a0_5 a1_0 a1_1 t649 t650 bt653.1 bt653.2.1 bt657.1 bt657.2.1 bt661.1 bt661.2.1))))) = some true := H
 have A4 := Aside0.mk A40
 clear A40
 replace H := Option.bind_eq_some_iff.mp H
 obtain ⟨⟨t653, t654, t655⟩, A50, H⟩ := H
 replace H : ((zelligelaw07_moved.f a0_4 a0_5 a2_0 a2_1).bind fun bt657 => ((zelligelaw07_moved.f a1_0 a1_1 a2_0 a2_1).bind fun bt661 => (if t651 = true then (if t655 = true then (if bt657.2.2 = true then (zelligelaw07_PredMoves.j0 k (!bt661.2.2) a0_0 a0_1 a0_2 a0_3 a0_4 a0_5 a1_0 a1_1 t649 t650 t653 t654 bt657.1 bt657.2.1 bt661.1 bt661.2.1) else (zelligelaw07_PredMoves.j0 k true a0_0 a0_1 a0_2 a0_3 a0_4 a0_5 a1_0 a1_1 t649 t650 t653 t654 bt657.1 bt657.2.1 bt661.1 bt661.2.1)) else (zelligelaw07_PredMoves.j0 k true a0_0 a0_1 a0_2 a0_3 a0_4 a0_5 a1_0 a1_1 t649 t650 t653 t654 bt657.1 bt657.2.1 bt661.1 bt661.2.1)) else (zelligelaw07_PredMoves.j0 k true a0_0 a0_1 a0_2 a0_3 a0_4 a0_5 a1_0 a1_1 t649 t650 t653 t654 bt657.1 bt657.2.1 bt661.1 bt661.2.1)))) = some true := H
 have A5 := Aside0.mk A50
 clear A50
 replace H := Option.bind_eq_some_iff.mp H
 obtain ⟨⟨t657, t658, t659⟩, A60, H⟩ := H
 replace H : ((zelligelaw07_moved.f a1_0 a1_1 a2_0 a2_1).bind fun bt661 => (if t651 = true then (if t655 = true then (if t659 = true then (zelligelaw07_PredMoves.j0 k (!bt661.2.2) a0_0 a0_1 a0_2 a0_3 a0_4 a0_5 a1_0 a1_1 t649 t650 t653 t654 t657 t658 bt661.1 bt661.2.1) else (zelligelaw07_PredMoves.j0 k true a0_0 a0_1 a0_2 a0_3 a0_4 a0_5 a1_0 a1_1 t649 t650 t653 t654 t657 t658 bt661.1 bt661.2.1)) else (zelligelaw07_PredMoves.j0 k true a0_0 a0_1 a0_2 a0_3 a0_4 a0_5 a1_0 a1_1 t649 t650 t653 t654 t657 t658 bt661.1 bt661.2.1)) else (zelligelaw07_PredMoves.j0 k true a0_0 a0_1 a0_2 a0_3 a0_4 a0_5 a1_0 a1_1 t649 t650 t653 t654 t657 t658 bt661.1 bt661.2.1))) = some true := H
 have A6 := Aside0.mk A60
 clear A60
 replace H := Option.bind_eq_some_iff.mp H
 obtain ⟨⟨t661, t662, t663⟩, A70, H⟩ := H
 replace H : (if t651 = true then (if t655 = true then (if t659 = true then (zelligelaw07_PredMoves.j0 k (!t663) a0_0 a0_1 a0_2 a0_3 a0_4 a0_5 a1_0 a1_1 t649 t650 t653 t654 t657 t658 t661 t662) else (zelligelaw07_PredMoves.j0 k true a0_0 a0_1 a0_2 a0_3 a0_4 a0_5 a1_0 a1_1 t649 t650 t653 t654 t657 t658 t661 t662)) else (zelligelaw07_PredMoves.j0 k true a0_0 a0_1 a0_2 a0_3 a0_4 a0_5 a1_0 a1_1 t649 t650 t653 t654 t657 t658 t661 t662)) else (zelligelaw07_PredMoves.j0 k true a0_0 a0_1 a0_2 a0_3 a0_4 a0_5 a1_0 a1_1 t649 t650 t653 t654 t657 t658 t661 t662)) = some true := H
 have A7 := Aside0.mk A70
 clear A70
 have HC8 := Aside0.mk H
 clear H
 go_enter Try.func7, Try.ntmps7
 go_upto_region 5 with (first | ((with_reducible refine gate_dst (N := 3) rfl ?_); refine box_event ?hg (N := 3) ?hd (cs := #[.int .i64 a0_0, .int .i64 a0_1, .int .i64 a0_2, .int .i64 a0_3, .int .i64 a0_4, .int .i64 a0_5]) (t := 24) ?hr ?_; (case hd => rfl); (case hg => rfl); (case hr => first | (go_simp; done) | (go_simp; rfl)); intro gb646 hg w9 hbox hb; have n0_ := Aside0.mk (below_step (bw HB.out) hb); have n1_ := Aside0.mk (hbox); have n2_ := Aside0.mk ((by rw [hg]; exact (below_size (bw HB.out)) : w.heap.size ≤ gb646)); have n3_ := Aside0.mk ((by rw [hg]; exact (below_size (bw HB.out)) : w.heap.size ≤ gb646)); clear HB; have HB := n0_; have BK646 := n1_; have GW646 := n2_; have GE646 := n3_; clear n0_ n1_ n2_ n3_; clear hb hbox hg) | ((with_reducible refine gate_dst (N := 4) rfl ?_); refine box_event ?hg (N := 4) ?hd (cs := #[.int .i64 a1_0, .int .i64 a1_1]) (t := 23) ?hr ?_; (case hd => rfl); (case hg => rfl); (case hr => first | (go_simp; done) | (go_simp; rfl)); intro gb647 hg w10 hbox hb; have n0_ := Aside0.mk (blk_below (g := gb646) (o := .cells #[.int .i64 a0_0, .int .i64 a0_1, .int .i64 a0_2, .int .i64 a0_3, .int .i64 a0_4, .int .i64 a0_5] 24 (0, 0)) (bk BK646.out) hb); have n1_ := Aside0.mk (below_step (by repeat (first | (with_reducible first | exact HB.out | apply below_alloc | apply pw_below_drewN | apply below_drew1 | refine below_set ?_ GE646.out) | exact HB.out)) hb); have n2_ := Aside0.mk (hbox); have n3_ := Aside0.mk ((by rw [hg]; exact (below_size (by repeat (first | (with_reducible first | exact HB.out | apply below_alloc | apply pw_below_drewN | apply below_drew1 | refine below_set ?_ GE646.out) | exact HB.out))) : w.heap.size ≤ gb647)); have n4_ := Aside0.mk ((by rw [hg]; exact (below_size (by repeat (first | (with_reducible first | exact HB.out | apply below_alloc | apply pw_below_drewN | apply below_drew1 | refine below_set ?_ GE646.out) | exact HB.out))) : w.heap.size ≤ gb647)); have n5_ := Aside0.mk ((by rw [hg]; exact Nat.ne_of_lt (blk_lt (g := gb646) (o := .cells #[.int .i64 a0_0, .int .i64 a0_1, .int .i64 a0_2, .int .i64 a0_3, .int .i64 a0_4, .int .i64 a0_5] 24 (0, 0)) (bk BK646.out)) : gb646 ≠ gb647)); have n6_ := Aside0.mk ((by rw [hg]; exact Nat.ne_of_gt (blk_lt (g := gb646) (o := .cells #[.int .i64 a0_0, .int .i64 a0_1, .int .i64 a0_2, .int .i64 a0_3, .int .i64 a0_4, .int .i64 a0_5] 24 (0, 0)) (bk BK646.out)) : gb647 ≠ gb646)); clear BK646; clear HB; have BK646 := n0_; have HB := n1_; have BK647 := n2_; have GW647 := n3_; have GE647 := n4_; have NB646_647 := n5_; have NB647_646 := n6_; clear n0_ n1_ n2_ n3_ n4_ n5_ n6_; clear hb hbox hg) | ((with_reducible refine gate_dst (N := 5) rfl ?_); refine box_event ?hg (N := 5) ?hd (cs := #[.int .i64 a2_0, .int .i64 a2_1]) (t := 23) ?hr ?_; (case hd => rfl); (case hg => rfl); (case hr => first | (go_simp; done) | (go_simp; rfl)); intro gb648 hg w11 hbox hb; have n0_ := Aside0.mk (blk_below (g := gb646) (o := .cells #[.int .i64 a0_0, .int .i64 a0_1, .int .i64 a0_2, .int .i64 a0_3, .int .i64 a0_4, .int .i64 a0_5] 24 (0, 0)) (bk BK646.out) hb); have n1_ := Aside0.mk (blk_below (g := gb647) (o := .cells #[.int .i64 a1_0, .int .i64 a1_1] 23 (0, 0)) (bk BK647.out) hb); have n2_ := Aside0.mk (below_step (by repeat (first | (with_reducible first | exact HB.out | apply below_alloc | apply pw_below_drewN | apply below_drew1 | refine below_set ?_ GE646.out | refine below_set ?_ GE647.out) | exact HB.out)) hb); have n3_ := Aside0.mk (hbox); have n4_ := Aside0.mk ((by rw [hg]; exact (below_size (by repeat (first | (with_reducible first | exact HB.out | apply below_alloc | apply pw_below_drewN | apply below_drew1 | refine below_set ?_ GE646.out | refine below_set ?_ GE647.out) | exact HB.out))) : w.heap.size ≤ gb648)); have n5_ := Aside0.mk ((by rw [hg]; exact (below_size (by repeat (first | (with_reducible first | exact HB.out | apply below_alloc | apply pw_below_drewN | apply below_drew1 | refine below_set ?_ GE646.out | refine below_set ?_ GE647.out) | exact HB.out))) : w.heap.size ≤ gb648)); have n6_ := Aside0.mk ((by rw [hg]; exact Nat.ne_of_lt (blk_lt (g := gb646) (o := .cells #[.int .i64 a0_0, .int .i64 a0_1, .int .i64 a0_2, .int .i64 a0_3, .int .i64 a0_4, .int .i64 a0_5] 24 (0, 0)) (bk BK646.out)) : gb646 ≠ gb648)); have n7_ := Aside0.mk ((by rw [hg]; exact Nat.ne_of_gt (blk_lt (g := gb646) (o := .cells #[.int .i64 a0_0, .int .i64 a0_1, .int .i64 a0_2, .int .i64 a0_3, .int .i64 a0_4, .int .i64 a0_5] 24 (0, 0)) (bk BK646.out)) : gb648 ≠ gb646)); have n8_ := Aside0.mk ((by rw [hg]; exact Nat.ne_of_lt (blk_lt (g := gb647) (o := .cells #[.int .i64 a1_0, .int .i64 a1_1] 23 (0, 0)) (bk BK647.out)) : gb647 ≠ gb648)); have n9_ := Aside0.mk ((by rw [hg]; exact Nat.ne_of_gt (blk_lt (g := gb647) (o := .cells #[.int .i64 a1_0, .int .i64 a1_1] 23 (0, 0)) (bk BK647.out)) : gb648 ≠ gb647)); clear BK646; clear BK647; clear HB; have BK646 := n0_; have BK647 := n1_; have HB := n2_; have BK648 := n3_; have GW648 := n4_; have GE648 := n5_; have NB646_648 := n6_; have NB648_646 := n7_; have NB647_648 := n8_; have NB648_647 := n9_; clear n0_ n1_ n2_ n3_ n4_ n5_ n6_ n7_ n8_ n9_; clear hb hbox hg; have hnb12 := NB646_647.out; have hnc12 := NB647_646.out; have hnb13 := NB646_648.out; have hnc13 := NB648_646.out; have hcz14_0 : w11.cell? ⟨gb646, 0, none⟩ = some (.int .i64 a0_0) := (blk_cell BK646.out 0).trans rfl; have hcz14_1 : w11.cell? ⟨gb646, 1, none⟩ = some (.int .i64 a0_1) := (blk_cell BK646.out 1).trans rfl; have hcz14_2 : w11.cell? ⟨gb646, 2, none⟩ = some (.int .i64 a0_2) := (blk_cell BK646.out 2).trans rfl; have hcz14_3 : w11.cell? ⟨gb646, 3, none⟩ = some (.int .i64 a0_3) := (blk_cell BK646.out 3).trans rfl; have hcz14_4 : w11.cell? ⟨gb646, 4, none⟩ = some (.int .i64 a0_4) := (blk_cell BK646.out 4).trans rfl; have hcz14_5 : w11.cell? ⟨gb646, 5, none⟩ = some (.int .i64 a0_5) := (blk_cell BK646.out 5).trans rfl; have hfz14_0 := blk_frozen BK646.out 0; have hfz14_1 := blk_frozen BK646.out 1; have hfz14_2 := blk_frozen BK646.out 2; have hfz14_3 := blk_frozen BK646.out 3; have hfz14_4 := blk_frozen BK646.out 4; have hfz14_5 := blk_frozen BK646.out 5; have hnb15 := NB648_647.out; have hnc15 := NB647_648.out; have hcz16_0 : w11.cell? ⟨gb648, 0, none⟩ = some (.int .i64 a2_0) := (blk_cell BK648.out 0).trans rfl; have hcz16_1 : w11.cell? ⟨gb648, 1, none⟩ = some (.int .i64 a2_1) := (blk_cell BK648.out 1).trans rfl; have hfz16_0 := blk_frozen BK648.out 0; have hfz16_1 := blk_frozen BK648.out 1) | ((with_reducible refine gate_callee (f := 22) rfl ?_); refine goesL_ (some 19) rfl rfl Try.func22 (by kernel_rfl) rfl #[.agg #[.int .i64 a0_0, .int .i64 a0_1], .agg #[.int .i64 a2_0, .int .i64 a2_1]] rfl (by (try simp only [List.map_toArray, List.map_cons, List.map_nil]); first | done | rfl | (simp only [List.length_drop, List.length_take]; rfl)) ?_; (with_reducible refine (zelligelaw07_moved.calls a0_0 a0_1 a2_0 a2_1 t649 t650 t651 _ A4.out).mono ?_); rintro e w17 ⟨rfl, hb⟩; refine ⟨_, rfl, ?_⟩; have n0_ := Aside0.mk (blk_below (g := gb646) (o := .cells #[.int .i64 a0_0, .int .i64 a0_1, .int .i64 a0_2, .int .i64 a0_3, .int .i64 a0_4, .int .i64 a0_5] 24 (0, 0)) (bk BK646.out) hb); have n1_ := Aside0.mk (blk_below (g := gb647) (o := .cells #[.int .i64 a1_0, .int .i64 a1_1] 23 (0, 0)) (bk BK647.out) hb); have n2_ := Aside0.mk (blk_below (g := gb648) (o := .cells #[.int .i64 a2_0, .int .i64 a2_1] 23 (0, 0)) (bk BK648.out) hb); have n3_ := Aside0.mk (below_step (by repeat (first | (with_reducible first | exact HB.out | apply below_alloc | apply pw_below_drewN | apply below_drew1 | refine below_set ?_ GE646.out | refine below_set ?_ GE647.out | refine below_set ?_ GE648.out) | exact HB.out)) hb); clear BK646; clear BK647; clear BK648; clear HB; have BK646 := n0_; have BK647 := n1_; have BK648 := n2_; have HB := n3_; clear n0_ n1_ n2_ n3_; (try clear hb); (try clear hb2); (try clear hk); (try clear hi)) | ((with_reducible refine gate_dst (N := 7) rfl ?_); refine box_event ?hg (N := 7) ?hd (cs := #[.int .i64 0, .int .i64 0]) (t := 23) ?hr ?_; (case hd => rfl); (case hg => rfl); (case hr => first | (go_simp; done) | (go_simp; rfl)); intro gb652 hg w18 hbox hb; have n0_ := Aside0.mk (blk_below (g := gb646) (o := .cells #[.int .i64 a0_0, .int .i64 a0_1, .int .i64 a0_2, .int .i64 a0_3, .int .i64 a0_4, .int .i64 a0_5] 24 (0, 0)) (bk BK646.out) hb); have n1_ := Aside0.mk (blk_below (g := gb647) (o := .cells #[.int .i64 a1_0, .int .i64 a1_1] 23 (0, 0)) (bk BK647.out) hb); have n2_ := Aside0.mk (blk_below (g := gb648) (o := .cells #[.int .i64 a2_0, .int .i64 a2_1] 23 (0, 0)) (bk BK648.out) hb); have n3_ := Aside0.mk (below_step (by repeat (first | (with_reducible first | exact HB.out | apply below_alloc | apply pw_below_drewN | apply below_drew1 | refine below_set ?_ GE646.out | refine below_set ?_ GE647.out | refine below_set ?_ GE648.out) | exact HB.out)) hb); have n4_ := Aside0.mk (hbox); have n5_ := Aside0.mk ((by rw [hg]; exact (below_size (by repeat (first | (with_reducible first | exact HB.out | apply below_alloc | apply pw_below_drewN | apply below_drew1 | refine below_set ?_ GE646.out | refine below_set ?_ GE647.out | refine below_set ?_ GE648.out) | exact HB.out))) : w.heap.size ≤ gb652)); have n6_ := Aside0.mk ((by rw [hg]; exact (below_size (by repeat (first | (with_reducible first | exact HB.out | apply below_alloc | apply pw_below_drewN | apply below_drew1 | refine below_set ?_ GE646.out | refine below_set ?_ GE647.out | refine below_set ?_ GE648.out) | exact HB.out))) : w.heap.size ≤ gb652)); have n7_ := Aside0.mk ((by rw [hg]; exact Nat.ne_of_lt (blk_lt (g := gb646) (o := .cells #[.int .i64 a0_0, .int .i64 a0_1, .int .i64 a0_2, .int .i64 a0_3, .int .i64 a0_4, .int .i64 a0_5] 24 (0, 0)) (bk BK646.out)) : gb646 ≠ gb652)); have n8_ := Aside0.mk ((by rw [hg]; exact Nat.ne_of_gt (blk_lt (g := gb646) (o := .cells #[.int .i64 a0_0, .int .i64 a0_1, .int .i64 a0_2, .int .i64 a0_3, .int .i64 a0_4, .int .i64 a0_5] 24 (0, 0)) (bk BK646.out)) : gb652 ≠ gb646)); have n9_ := Aside0.mk ((by rw [hg]; exact Nat.ne_of_lt (blk_lt (g := gb647) (o := .cells #[.int .i64 a1_0, .int .i64 a1_1] 23 (0, 0)) (bk BK647.out)) : gb647 ≠ gb652)); have n10_ := Aside0.mk ((by rw [hg]; exact Nat.ne_of_gt (blk_lt (g := gb647) (o := .cells #[.int .i64 a1_0, .int .i64 a1_1] 23 (0, 0)) (bk BK647.out)) : gb652 ≠ gb647)); have n11_ := Aside0.mk ((by rw [hg]; exact Nat.ne_of_lt (blk_lt (g := gb648) (o := .cells #[.int .i64 a2_0, .int .i64 a2_1] 23 (0, 0)) (bk BK648.out)) : gb648 ≠ gb652)); have n12_ := Aside0.mk ((by rw [hg]; exact Nat.ne_of_gt (blk_lt (g := gb648) (o := .cells #[.int .i64 a2_0, .int .i64 a2_1] 23 (0, 0)) (bk BK648.out)) : gb652 ≠ gb648)); clear BK646; clear BK647; clear BK648; clear HB; have BK646 := n0_; have BK647 := n1_; have BK648 := n2_; have HB := n3_; have BK652 := n4_; have GW652 := n5_; have GE652 := n6_; have NB646_652 := n7_; have NB652_646 := n8_; have NB647_652 := n9_; have NB652_647 := n10_; have NB648_652 := n11_; have NB652_648 := n12_; clear n0_ n1_ n2_ n3_ n4_ n5_ n6_ n7_ n8_ n9_ n10_ n11_ n12_; clear hb hbox hg; have hnb19 := NB652_646.out; have hnc19 := NB646_652.out; have hnb20 := NB652_647.out; have hnc20 := NB647_652.out; have hnb21 := NB652_648.out; have hnc21 := NB648_652.out; have hcz22_0 : w18.cell? ⟨gb652, 0, none⟩ = some (.int .i64 0) := (blk_cell BK652.out 0).trans rfl; have hcz22_1 : w18.cell? ⟨gb652, 1, none⟩ = some (.int .i64 0) := (blk_cell BK652.out 1).trans rfl; have hfz22_0 := blk_frozen BK652.out 0; have hfz22_1 := blk_frozen BK652.out 1; have hcz23_0 : w18.cell? ⟨gb646, 0, none⟩ = some (.int .i64 a0_0) := (blk_cell BK646.out 0).trans rfl; have hcz23_1 : w18.cell? ⟨gb646, 1, none⟩ = some (.int .i64 a0_1) := (blk_cell BK646.out 1).trans rfl; have hcz23_2 : w18.cell? ⟨gb646, 2, none⟩ = some (.int .i64 a0_2) := (blk_cell BK646.out 2).trans rfl; have hcz23_3 : w18.cell? ⟨gb646, 3, none⟩ = some (.int .i64 a0_3) := (blk_cell BK646.out 3).trans rfl; have hcz23_4 : w18.cell? ⟨gb646, 4, none⟩ = some (.int .i64 a0_4) := (blk_cell BK646.out 4).trans rfl; have hcz23_5 : w18.cell? ⟨gb646, 5, none⟩ = some (.int .i64 a0_5) := (blk_cell BK646.out 5).trans rfl; have hfz23_0 := blk_frozen BK646.out 0; have hfz23_1 := blk_frozen BK646.out 1; have hfz23_2 := blk_frozen BK646.out 2; have hfz23_3 := blk_frozen BK646.out 3; have hfz23_4 := blk_frozen BK646.out 4; have hfz23_5 := blk_frozen BK646.out 5; have hcz24_0 : w18.cell? ⟨gb648, 0, none⟩ = some (.int .i64 a2_0) := (blk_cell BK648.out 0).trans rfl; have hcz24_1 : w18.cell? ⟨gb648, 1, none⟩ = some (.int .i64 a2_1) := (blk_cell BK648.out 1).trans rfl; have hfz24_0 := blk_frozen BK648.out 0; have hfz24_1 := blk_frozen BK648.out 1) | ((with_reducible refine gate_callee (f := 22) rfl ?_); refine goesL_ (some 26) rfl rfl Try.func22 (by kernel_rfl) rfl #[.agg #[.int .i64 a0_2, .int .i64 a0_3], .agg #[.int .i64 a2_0, .int .i64 a2_1]] rfl (by (try simp only [List.map_toArray, List.map_cons, List.map_nil]); first | done | rfl | (simp only [List.length_drop, List.length_take]; rfl)) ?_; (with_reducible refine (zelligelaw07_moved.calls a0_2 a0_3 a2_0 a2_1 t653 t654 t655 _ A5.out).mono ?_); rintro e w25 ⟨rfl, hb⟩; refine ⟨_, rfl, ?_⟩; have n0_ := Aside0.mk (blk_below (g := gb646) (o := .cells #[.int .i64 a0_0, .int .i64 a0_1, .int .i64 a0_2, .int .i64 a0_3, .int .i64 a0_4, .int .i64 a0_5] 24 (0, 0)) (by (with_reducible repeat (first | refine blk_drewN ?_ _ | refine blk_drew ?_ | refine blk_alloc ?_ _)); refine blk_far ?_ NB646_652.out _; (with_reducible repeat (first | refine blk_drewN ?_ _ | refine blk_drew ?_ | refine blk_alloc ?_ _)); refine blk_far ?_ NB646_652.out _; (with_reducible repeat (first | refine blk_drewN ?_ _ | refine blk_drew ?_ | refine blk_alloc ?_ _)); exact BK646.out) hb); have n1_ := Aside0.mk (blk_below (g := gb647) (o := .cells #[.int .i64 a1_0, .int .i64 a1_1] 23 (0, 0)) (by (with_reducible repeat (first | refine blk_drewN ?_ _ | refine blk_drew ?_ | refine blk_alloc ?_ _)); refine blk_far ?_ NB647_652.out _; (with_reducible repeat (first | refine blk_drewN ?_ _ | refine blk_drew ?_ | refine blk_alloc ?_ _)); refine blk_far ?_ NB647_652.out _; (with_reducible repeat (first | refine blk_drewN ?_ _ | refine blk_drew ?_ | refine blk_alloc ?_ _)); exact BK647.out) hb); have n2_ := Aside0.mk (blk_below (g := gb648) (o := .cells #[.int .i64 a2_0, .int .i64 a2_1] 23 (0, 0)) (by (with_reducible repeat (first | refine blk_drewN ?_ _ | refine blk_drew ?_ | refine blk_alloc ?_ _)); refine blk_far ?_ NB648_652.out _; (with_reducible repeat (first | refine blk_drewN ?_ _ | refine blk_drew ?_ | refine blk_alloc ?_ _)); refine blk_far ?_ NB648_652.out _; (with_reducible repeat (first | refine blk_drewN ?_ _ | refine blk_drew ?_ | refine blk_alloc ?_ _)); exact BK648.out) hb); have n3_ := Aside0.mk (blk_below (g := gb652) (o := .cells #[.int .i64 t649, .int .i64 t650] 23 (0, 0)) (by (with_reducible repeat (first | refine blk_drewN ?_ _ | refine blk_drew ?_ | refine blk_alloc ?_ _)); refine blk_put (cs := #[.int .i64 t649, .int .i64 0]) ?_ 1 _ rfl; (with_reducible repeat (first | refine blk_drewN ?_ _ | refine blk_drew ?_ | refine blk_alloc ?_ _)); refine blk_put (cs := #[.int .i64 0, .int .i64 0]) ?_ 0 _ rfl; (with_reducible repeat (first | refine blk_drewN ?_ _ | refine blk_drew ?_ | refine blk_alloc ?_ _)); exact BK652.out) hb); have n4_ := Aside0.mk (below_step (by repeat (first | (with_reducible first | exact HB.out | apply below_alloc | apply pw_below_drewN | apply below_drew1 | refine below_set ?_ GE646.out | refine below_set ?_ GE647.out | refine below_set ?_ GE648.out | refine below_set ?_ GE652.out) | exact HB.out)) hb); clear BK646; clear BK647; clear BK648; clear BK652; clear HB; have BK646 := n0_; have BK647 := n1_; have BK648 := n2_; have BK652 := n3_; have HB := n4_; clear n0_ n1_ n2_ n3_ n4_; (try clear hb); (try clear hb2); (try clear hk); (try clear hi)) | ((with_reducible refine gate_dst (N := 9) rfl ?_); refine box_event ?hg (N := 9) ?hd (cs := #[.int .i64 0, .int .i64 0]) (t := 23) ?hr ?_; (case hd => rfl); (case hg => rfl); (case hr => first | (go_simp; done) | (go_simp; rfl)); intro gb656 hg w26 hbox hb; have n0_ := Aside0.mk (blk_below (g := gb646) (o := .cells #[.int .i64 a0_0, .int .i64 a0_1, .int .i64 a0_2, .int .i64 a0_3, .int .i64 a0_4, .int .i64 a0_5] 24 (0, 0)) (bk BK646.out) hb); have n1_ := Aside0.mk (blk_below (g := gb647) (o := .cells #[.int .i64 a1_0, .int .i64 a1_1] 23 (0, 0)) (bk BK647.out) hb); have n2_ := Aside0.mk (blk_below (g := gb648) (o := .cells #[.int .i64 a2_0, .int .i64 a2_1] 23 (0, 0)) (bk BK648.out) hb); have n3_ := Aside0.mk (blk_below (g := gb652) (o := .cells #[.int .i64 t649, .int .i64 t650] 23 (0, 0)) (bk BK652.out) hb); have n4_ := Aside0.mk (below_step (by repeat (first | (with_reducible first | exact HB.out | apply below_alloc | apply pw_below_drewN | apply below_drew1 | refine below_set ?_ GE646.out | refine below_set ?_ GE647.out | refine below_set ?_ GE648.out | refine below_set ?_ GE652.out) | exact HB.out)) hb); have n5_ := Aside0.mk (hbox); have n6_ := Aside0.mk ((by rw [hg]; exact (below_size (by repeat (first | (with_reducible first | exact HB.out | apply below_alloc | apply pw_below_drewN | apply below_drew1 | refine below_set ?_ GE646.out | refine below_set ?_ GE647.out | refine below_set ?_ GE648.out | refine below_set ?_ GE652.out) | exact HB.out))) : w.heap.size ≤ gb656)); have n7_ := Aside0.mk ((by rw [hg]; exact (below_size (by repeat (first | (with_reducible first | exact HB.out | apply below_alloc | apply pw_below_drewN | apply below_drew1 | refine below_set ?_ GE646.out | refine below_set ?_ GE647.out | refine below_set ?_ GE648.out | refine below_set ?_ GE652.out) | exact HB.out))) : w.heap.size ≤ gb656)); have n8_ := Aside0.mk ((by rw [hg]; exact Nat.ne_of_lt (blk_lt (g := gb646) (o := .cells #[.int .i64 a0_0, .int .i64 a0_1, .int .i64 a0_2, .int .i64 a0_3, .int .i64 a0_4, .int .i64 a0_5] 24 (0, 0)) (bk BK646.out)) : gb646 ≠ gb656)); have n9_ := Aside0.mk ((by rw [hg]; exact Nat.ne_of_gt (blk_lt (g := gb646) (o := .cells #[.int .i64 a0_0, .int .i64 a0_1, .int .i64 a0_2, .int .i64 a0_3, .int .i64 a0_4, .int .i64 a0_5] 24 (0, 0)) (bk BK646.out)) : gb656 ≠ gb646)); have n10_ := Aside0.mk ((by rw [hg]; exact Nat.ne_of_lt (blk_lt (g := gb647) (o := .cells #[.int .i64 a1_0, .int .i64 a1_1] 23 (0, 0)) (bk BK647.out)) : gb647 ≠ gb656)); have n11_ := Aside0.mk ((by rw [hg]; exact Nat.ne_of_gt (blk_lt (g := gb647) (o := .cells #[.int .i64 a1_0, .int .i64 a1_1] 23 (0, 0)) (bk BK647.out)) : gb656 ≠ gb647)); have n12_ := Aside0.mk ((by rw [hg]; exact Nat.ne_of_lt (blk_lt (g := gb648) (o := .cells #[.int .i64 a2_0, .int .i64 a2_1] 23 (0, 0)) (bk BK648.out)) : gb648 ≠ gb656)); have n13_ := Aside0.mk ((by rw [hg]; exact Nat.ne_of_gt (blk_lt (g := gb648) (o := .cells #[.int .i64 a2_0, .int .i64 a2_1] 23 (0, 0)) (bk BK648.out)) : gb656 ≠ gb648)); have n14_ := Aside0.mk ((by rw [hg]; exact Nat.ne_of_lt (blk_lt (g := gb652) (o := .cells #[.int .i64 t649, .int .i64 t650] 23 (0, 0)) (bk BK652.out)) : gb652 ≠ gb656)); have n15_ := Aside0.mk ((by rw [hg]; exact Nat.ne_of_gt (blk_lt (g := gb652) (o := .cells #[.int .i64 t649, .int .i64 t650] 23 (0, 0)) (bk BK652.out)) : gb656 ≠ gb652)); clear BK646; clear BK647; clear BK648; clear BK652; clear HB; have BK646 := n0_; have BK647 := n1_; have BK648 := n2_; have BK652 := n3_; have HB := n4_; have BK656 := n5_; have GW656 := n6_; have GE656 := n7_; have NB646_656 := n8_; have NB656_646 := n9_; have NB647_656 := n10_; have NB656_647 := n11_; have NB648_656 := n12_; have NB656_648 := n13_; have NB652_656 := n14_; have NB656_652 := n15_; clear n0_ n1_ n2_ n3_ n4_ n5_ n6_ n7_ n8_ n9_ n10_ n11_ n12_ n13_ n14_ n15_; clear hb hbox hg; have hnb27 := NB656_646.out; have hnc27 := NB646_656.out; have hnb28 := NB656_647.out; have hnc28 := NB647_656.out; have hnb29 := NB656_648.out; have hnc29 := NB648_656.out; have hnb30 := NB656_652.out; have hnc30 := NB652_656.out; have hcz31_0 : w26.cell? ⟨gb656, 0, none⟩ = some (.int .i64 0) := (blk_cell BK656.out 0).trans rfl; have hcz31_1 : w26.cell? ⟨gb656, 1, none⟩ = some (.int .i64 0) := (blk_cell BK656.out 1).trans rfl; have hfz31_0 := blk_frozen BK656.out 0; have hfz31_1 := blk_frozen BK656.out 1; have hcz32_0 : w26.cell? ⟨gb646, 0, none⟩ = some (.int .i64 a0_0) := (blk_cell BK646.out 0).trans rfl; have hcz32_1 : w26.cell? ⟨gb646, 1, none⟩ = some (.int .i64 a0_1) := (blk_cell BK646.out 1).trans rfl; have hcz32_2 : w26.cell? ⟨gb646, 2, none⟩ = some (.int .i64 a0_2) := (blk_cell BK646.out 2).trans rfl; have hcz32_3 : w26.cell? ⟨gb646, 3, none⟩ = some (.int .i64 a0_3) := (blk_cell BK646.out 3).trans rfl; have hcz32_4 : w26.cell? ⟨gb646, 4, none⟩ = some (.int .i64 a0_4) := (blk_cell BK646.out 4).trans rfl; have hcz32_5 : w26.cell? ⟨gb646, 5, none⟩ = some (.int .i64 a0_5) := (blk_cell BK646.out 5).trans rfl; have hfz32_0 := blk_frozen BK646.out 0; have hfz32_1 := blk_frozen BK646.out 1; have hfz32_2 := blk_frozen BK646.out 2; have hfz32_3 := blk_frozen BK646.out 3; have hfz32_4 := blk_frozen BK646.out 4; have hfz32_5 := blk_frozen BK646.out 5; have hcz33_0 : w26.cell? ⟨gb648, 0, none⟩ = some (.int .i64 a2_0) := (blk_cell BK648.out 0).trans rfl; have hcz33_1 : w26.cell? ⟨gb648, 1, none⟩ = some (.int .i64 a2_1) := (blk_cell BK648.out 1).trans rfl; have hfz33_0 := blk_frozen BK648.out 0; have hfz33_1 := blk_frozen BK648.out 1) | ((with_reducible refine gate_callee (f := 22) rfl ?_); refine goesL_ (some 33) rfl rfl Try.func22 (by kernel_rfl) rfl #[.agg #[.int .i64 a0_4, .int .i64 a0_5], .agg #[.int .i64 a2_0, .int .i64 a2_1]] rfl (by (try simp only [List.map_toArray, List.map_cons, List.map_nil]); first | done | rfl | (simp only [List.length_drop, List.length_take]; rfl)) ?_; (with_reducible refine (zelligelaw07_moved.calls a0_4 a0_5 a2_0 a2_1 t657 t658 t659 _ A6.out).mono ?_); rintro e w34 ⟨rfl, hb⟩; refine ⟨_, rfl, ?_⟩; have n0_ := Aside0.mk (blk_below (g := gb646) (o := .cells #[.int .i64 a0_0, .int .i64 a0_1, .int .i64 a0_2, .int .i64 a0_3, .int .i64 a0_4, .int .i64 a0_5] 24 (0, 0)) (by (with_reducible repeat (first | refine blk_drewN ?_ _ | refine blk_drew ?_ | refine blk_alloc ?_ _)); refine blk_far ?_ NB646_656.out _; (with_reducible repeat (first | refine blk_drewN ?_ _ | refine blk_drew ?_ | refine blk_alloc ?_ _)); refine blk_far ?_ NB646_656.out _; (with_reducible repeat (first | refine blk_drewN ?_ _ | refine blk_drew ?_ | refine blk_alloc ?_ _)); exact BK646.out) hb); have n1_ := Aside0.mk (blk_below (g := gb647) (o := .cells #[.int .i64 a1_0, .int .i64 a1_1] 23 (0, 0)) (by (with_reducible repeat (first | refine blk_drewN ?_ _ | refine blk_drew ?_ | refine blk_alloc ?_ _)); refine blk_far ?_ NB647_656.out _; (with_reducible repeat (first | refine blk_drewN ?_ _ | refine blk_drew ?_ | refine blk_alloc ?_ _)); refine blk_far ?_ NB647_656.out _; (with_reducible repeat (first | refine blk_drewN ?_ _ | refine blk_drew ?_ | refine blk_alloc ?_ _)); exact BK647.out) hb); have n2_ := Aside0.mk (blk_below (g := gb648) (o := .cells #[.int .i64 a2_0, .int .i64 a2_1] 23 (0, 0)) (by (with_reducible repeat (first | refine blk_drewN ?_ _ | refine blk_drew ?_ | refine blk_alloc ?_ _)); refine blk_far ?_ NB648_656.out _; (with_reducible repeat (first | refine blk_drewN ?_ _ | refine blk_drew ?_ | refine blk_alloc ?_ _)); refine blk_far ?_ NB648_656.out _; (with_reducible repeat (first | refine blk_drewN ?_ _ | refine blk_drew ?_ | refine blk_alloc ?_ _)); exact BK648.out) hb); have n3_ := Aside0.mk (blk_below (g := gb652) (o := .cells #[.int .i64 t649, .int .i64 t650] 23 (0, 0)) (by (with_reducible repeat (first | refine blk_drewN ?_ _ | refine blk_drew ?_ | refine blk_alloc ?_ _)); refine blk_far ?_ NB652_656.out _; (with_reducible repeat (first | refine blk_drewN ?_ _ | refine blk_drew ?_ | refine blk_alloc ?_ _)); refine blk_far ?_ NB652_656.out _; (with_reducible repeat (first | refine blk_drewN ?_ _ | refine blk_drew ?_ | refine blk_alloc ?_ _)); exact BK652.out) hb); have n4_ := Aside0.mk (blk_below (g := gb656) (o := .cells #[.int .i64 t653, .int .i64 t654] 23 (0, 0)) (by (with_reducible repeat (first | refine blk_drewN ?_ _ | refine blk_drew ?_ | refine blk_alloc ?_ _)); refine blk_put (cs := #[.int .i64 t653, .int .i64 0]) ?_ 1 _ rfl; (with_reducible repeat (first | refine blk_drewN ?_ _ | refine blk_drew ?_ | refine blk_alloc ?_ _)); refine blk_put (cs := #[.int .i64 0, .int .i64 0]) ?_ 0 _ rfl; (with_reducible repeat (first | refine blk_drewN ?_ _ | refine blk_drew ?_ | refine blk_alloc ?_ _)); exact BK656.out) hb); have n5_ := Aside0.mk (below_step (by repeat (first | (with_reducible first | exact HB.out | apply below_alloc | apply pw_below_drewN | apply below_drew1 | refine below_set ?_ GE646.out | refine below_set ?_ GE647.out | refine below_set ?_ GE648.out | refine below_set ?_ GE652.out | refine below_set ?_ GE656.out) | exact HB.out)) hb); clear BK646; clear BK647; clear BK648; clear BK652; clear BK656; clear HB; have BK646 := n0_; have BK647 := n1_; have BK648 := n2_; have BK652 := n3_; have BK656 := n4_; have HB := n5_; clear n0_ n1_ n2_ n3_ n4_ n5_; (try clear hb); (try clear hb2); (try clear hk); (try clear hi)) | ((with_reducible refine gate_dst (N := 11) rfl ?_); refine box_event ?hg (N := 11) ?hd (cs := #[.int .i64 0, .int .i64 0]) (t := 23) ?hr ?_; (case hd => rfl); (case hg => rfl); (case hr => first | (go_simp; done) | (go_simp; rfl)); intro gb660 hg w35 hbox hb; have n0_ := Aside0.mk (blk_below (g := gb646) (o := .cells #[.int .i64 a0_0, .int .i64 a0_1, .int .i64 a0_2, .int .i64 a0_3, .int .i64 a0_4, .int .i64 a0_5] 24 (0, 0)) (bk BK646.out) hb); have n1_ := Aside0.mk (blk_below (g := gb647) (o := .cells #[.int .i64 a1_0, .int .i64 a1_1] 23 (0, 0)) (bk BK647.out) hb); have n2_ := Aside0.mk (blk_below (g := gb648) (o := .cells #[.int .i64 a2_0, .int .i64 a2_1] 23 (0, 0)) (bk BK648.out) hb); have n3_ := Aside0.mk (blk_below (g := gb652) (o := .cells #[.int .i64 t649, .int .i64 t650] 23 (0, 0)) (bk BK652.out) hb); have n4_ := Aside0.mk (blk_below (g := gb656) (o := .cells #[.int .i64 t653, .int .i64 t654] 23 (0, 0)) (bk BK656.out) hb); have n5_ := Aside0.mk (below_step (by repeat (first | (with_reducible first | exact HB.out | apply below_alloc | apply pw_below_drewN | apply below_drew1 | refine below_set ?_ GE646.out | refine below_set ?_ GE647.out | refine below_set ?_ GE648.out | refine below_set ?_ GE652.out | refine below_set ?_ GE656.out) | exact HB.out)) hb); have n6_ := Aside0.mk (hbox); have n7_ := Aside0.mk ((by rw [hg]; exact (below_size (by repeat (first | (with_reducible first | exact HB.out | apply below_alloc | apply pw_below_drewN | apply below_drew1 | refine below_set ?_ GE646.out | refine below_set ?_ GE647.out | refine below_set ?_ GE648.out | refine below_set ?_ GE652.out | refine below_set ?_ GE656.out) | exact HB.out))) : w.heap.size ≤ gb660)); have n8_ := Aside0.mk ((by rw [hg]; exact (below_size (by repeat (first | (with_reducible first | exact HB.out | apply below_alloc | apply pw_below_drewN | apply below_drew1 | refine below_set ?_ GE646.out | refine below_set ?_ GE647.out | refine below_set ?_ GE648.out | refine below_set ?_ GE652.out | refine below_set ?_ GE656.out) | exact HB.out))) : w.heap.size ≤ gb660)); have n9_ := Aside0.mk ((by rw [hg]; exact Nat.ne_of_lt (blk_lt (g := gb646) (o := .cells #[.int .i64 a0_0, .int .i64 a0_1, .int .i64 a0_2, .int .i64 a0_3, .int .i64 a0_4, .int .i64 a0_5] 24 (0, 0)) (bk BK646.out)) : gb646 ≠ gb660)); have n10_ := Aside0.mk ((by rw [hg]; exact Nat.ne_of_gt (blk_lt (g := gb646) (o := .cells #[.int .i64 a0_0, .int .i64 a0_1, .int .i64 a0_2, .int .i64 a0_3, .int .i64 a0_4, .int .i64 a0_5] 24 (0, 0)) (bk BK646.out)) : gb660 ≠ gb646)); have n11_ := Aside0.mk ((by rw [hg]; exact Nat.ne_of_lt (blk_lt (g := gb647) (o := .cells #[.int .i64 a1_0, .int .i64 a1_1] 23 (0, 0)) (bk BK647.out)) : gb647 ≠ gb660)); have n12_ := Aside0.mk ((by rw [hg]; exact Nat.ne_of_gt (blk_lt (g := gb647) (o := .cells #[.int .i64 a1_0, .int .i64 a1_1] 23 (0, 0)) (bk BK647.out)) : gb660 ≠ gb647)); have n13_ := Aside0.mk ((by rw [hg]; exact Nat.ne_of_lt (blk_lt (g := gb648) (o := .cells #[.int .i64 a2_0, .int .i64 a2_1] 23 (0, 0)) (bk BK648.out)) : gb648 ≠ gb660)); have n14_ := Aside0.mk ((by rw [hg]; exact Nat.ne_of_gt (blk_lt (g := gb648) (o := .cells #[.int .i64 a2_0, .int .i64 a2_1] 23 (0, 0)) (bk BK648.out)) : gb660 ≠ gb648)); have n15_ := Aside0.mk ((by rw [hg]; exact Nat.ne_of_lt (blk_lt (g := gb652) (o := .cells #[.int .i64 t649, .int .i64 t650] 23 (0, 0)) (bk BK652.out)) : gb652 ≠ gb660)); have n16_ := Aside0.mk ((by rw [hg]; exact Nat.ne_of_gt (blk_lt (g := gb652) (o := .cells #[.int .i64 t649, .int .i64 t650] 23 (0, 0)) (bk BK652.out)) : gb660 ≠ gb652)); have n17_ := Aside0.mk ((by rw [hg]; exact Nat.ne_of_lt (blk_lt (g := gb656) (o := .cells #[.int .i64 t653, .int .i64 t654] 23 (0, 0)) (bk BK656.out)) : gb656 ≠ gb660)); have n18_ := Aside0.mk ((by rw [hg]; exact Nat.ne_of_gt (blk_lt (g := gb656) (o := .cells #[.int .i64 t653, .int .i64 t654] 23 (0, 0)) (bk BK656.out)) : gb660 ≠ gb656)); clear BK646; clear BK647; clear BK648; clear BK652; clear BK656; clear HB; have BK646 := n0_; have BK647 := n1_; have BK648 := n2_; have BK652 := n3_; have BK656 := n4_; have HB := n5_; have BK660 := n6_; have GW660 := n7_; have GE660 := n8_; have NB646_660 := n9_; have NB660_646 := n10_; have NB647_660 := n11_; have NB660_647 := n12_; have NB648_660 := n13_; have NB660_648 := n14_; have NB652_660 := n15_; have NB660_652 := n16_; have NB656_660 := n17_; have NB660_656 := n18_; clear n0_ n1_ n2_ n3_ n4_ n5_ n6_ n7_ n8_ n9_ n10_ n11_ n12_ n13_ n14_ n15_ n16_ n17_ n18_; clear hb hbox hg; have hnb36 := NB660_646.out; have hnc36 := NB646_660.out; have hnb37 := NB660_647.out; have hnc37 := NB647_660.out; have hnb38 := NB660_648.out; have hnc38 := NB648_660.out; have hnb39 := NB660_652.out; have hnc39 := NB652_660.out; have hnb40 := NB660_656.out; have hnc40 := NB656_660.out; have hcz41_0 : w35.cell? ⟨gb660, 0, none⟩ = some (.int .i64 0) := (blk_cell BK660.out 0).trans rfl; have hcz41_1 : w35.cell? ⟨gb660, 1, none⟩ = some (.int .i64 0) := (blk_cell BK660.out 1).trans rfl; have hfz41_0 := blk_frozen BK660.out 0; have hfz41_1 := blk_frozen BK660.out 1; have hcz42_0 : w35.cell? ⟨gb647, 0, none⟩ = some (.int .i64 a1_0) := (blk_cell BK647.out 0).trans rfl; have hcz42_1 : w35.cell? ⟨gb647, 1, none⟩ = some (.int .i64 a1_1) := (blk_cell BK647.out 1).trans rfl; have hfz42_0 := blk_frozen BK647.out 0; have hfz42_1 := blk_frozen BK647.out 1; have hcz43_0 : w35.cell? ⟨gb648, 0, none⟩ = some (.int .i64 a2_0) := (blk_cell BK648.out 0).trans rfl; have hcz43_1 : w35.cell? ⟨gb648, 1, none⟩ = some (.int .i64 a2_1) := (blk_cell BK648.out 1).trans rfl; have hfz43_0 := blk_frozen BK648.out 0; have hfz43_1 := blk_frozen BK648.out 1) | ((with_reducible refine gate_callee (f := 22) rfl ?_); refine goesL_ (some 39) rfl rfl Try.func22 (by kernel_rfl) rfl #[.agg #[.int .i64 a1_0, .int .i64 a1_1], .agg #[.int .i64 a2_0, .int .i64 a2_1]] rfl (by (try simp only [List.map_toArray, List.map_cons, List.map_nil]); first | done | rfl | (simp only [List.length_drop, List.length_take]; rfl)) ?_; (with_reducible refine (zelligelaw07_moved.calls a1_0 a1_1 a2_0 a2_1 t661 t662 t663 _ A7.out).mono ?_); rintro e w44 ⟨rfl, hb⟩; refine ⟨_, rfl, ?_⟩; have n0_ := Aside0.mk (blk_below (g := gb646) (o := .cells #[.int .i64 a0_0, .int .i64 a0_1, .int .i64 a0_2, .int .i64 a0_3, .int .i64 a0_4, .int .i64 a0_5] 24 (0, 0)) (by (with_reducible repeat (first | refine blk_drewN ?_ _ | refine blk_drew ?_ | refine blk_alloc ?_ _)); refine blk_far ?_ NB646_660.out _; (with_reducible repeat (first | refine blk_drewN ?_ _ | refine blk_drew ?_ | refine blk_alloc ?_ _)); refine blk_far ?_ NB646_660.out _; (with_reducible repeat (first | refine blk_drewN ?_ _ | refine blk_drew ?_ | refine blk_alloc ?_ _)); exact BK646.out) hb); have n1_ := Aside0.mk (blk_below (g := gb647) (o := .cells #[.int .i64 a1_0, .int .i64 a1_1] 23 (0, 0)) (by (with_reducible repeat (first | refine blk_drewN ?_ _ | refine blk_drew ?_ | refine blk_alloc ?_ _)); refine blk_far ?_ NB647_660.out _; (with_reducible repeat (first | refine blk_drewN ?_ _ | refine blk_drew ?_ | refine blk_alloc ?_ _)); refine blk_far ?_ NB647_660.out _; (with_reducible repeat (first | refine blk_drewN ?_ _ | refine blk_drew ?_ | refine blk_alloc ?_ _)); exact BK647.out) hb); have n2_ := Aside0.mk (blk_below (g := gb648) (o := .cells #[.int .i64 a2_0, .int .i64 a2_1] 23 (0, 0)) (by (with_reducible repeat (first | refine blk_drewN ?_ _ | refine blk_drew ?_ | refine blk_alloc ?_ _)); refine blk_far ?_ NB648_660.out _; (with_reducible repeat (first | refine blk_drewN ?_ _ | refine blk_drew ?_ | refine blk_alloc ?_ _)); refine blk_far ?_ NB648_660.out _; (with_reducible repeat (first | refine blk_drewN ?_ _ | refine blk_drew ?_ | refine blk_alloc ?_ _)); exact BK648.out) hb); have n3_ := Aside0.mk (blk_below (g := gb652) (o := .cells #[.int .i64 t649, .int .i64 t650] 23 (0, 0)) (by (with_reducible repeat (first | refine blk_drewN ?_ _ | refine blk_drew ?_ | refine blk_alloc ?_ _)); refine blk_far ?_ NB652_660.out _; (with_reducible repeat (first | refine blk_drewN ?_ _ | refine blk_drew ?_ | refine blk_alloc ?_ _)); refine blk_far ?_ NB652_660.out _; (with_reducible repeat (first | refine blk_drewN ?_ _ | refine blk_drew ?_ | refine blk_alloc ?_ _)); exact BK652.out) hb); have n4_ := Aside0.mk (blk_below (g := gb656) (o := .cells #[.int .i64 t653, .int .i64 t654] 23 (0, 0)) (by (with_reducible repeat (first | refine blk_drewN ?_ _ | refine blk_drew ?_ | refine blk_alloc ?_ _)); refine blk_far ?_ NB656_660.out _; (with_reducible repeat (first | refine blk_drewN ?_ _ | refine blk_drew ?_ | refine blk_alloc ?_ _)); refine blk_far ?_ NB656_660.out _; (with_reducible repeat (first | refine blk_drewN ?_ _ | refine blk_drew ?_ | refine blk_alloc ?_ _)); exact BK656.out) hb); have n5_ := Aside0.mk (blk_below (g := gb660) (o := .cells #[.int .i64 t657, .int .i64 t658] 23 (0, 0)) (by (with_reducible repeat (first | refine blk_drewN ?_ _ | refine blk_drew ?_ | refine blk_alloc ?_ _)); refine blk_put (cs := #[.int .i64 t657, .int .i64 0]) ?_ 1 _ rfl; (with_reducible repeat (first | refine blk_drewN ?_ _ | refine blk_drew ?_ | refine blk_alloc ?_ _)); refine blk_put (cs := #[.int .i64 0, .int .i64 0]) ?_ 0 _ rfl; (with_reducible repeat (first | refine blk_drewN ?_ _ | refine blk_drew ?_ | refine blk_alloc ?_ _)); exact BK660.out) hb); have n6_ := Aside0.mk (below_step (by repeat (first | (with_reducible first | exact HB.out | apply below_alloc | apply pw_below_drewN | apply below_drew1 | refine below_set ?_ GE646.out | refine below_set ?_ GE647.out | refine below_set ?_ GE648.out | refine below_set ?_ GE652.out | refine below_set ?_ GE656.out | refine below_set ?_ GE660.out) | exact HB.out)) hb); clear BK646; clear BK647; clear BK648; clear BK652; clear BK656; clear BK660; clear HB; have BK646 := n0_; have BK647 := n1_; have BK648 := n2_; have BK652 := n3_; have BK656 := n4_; have BK660 := n5_; have HB := n6_; clear n0_ n1_ n2_ n3_ n4_ n5_ n6_; (try clear hb); (try clear hb2); (try clear hk); (try clear hi)) | ((with_reducible refine gate_dst (N := 13) rfl ?_); refine box_event ?hg (N := 13) ?hd (cs := #[.int .i64 0, .int .i64 0]) (t := 23) ?hr ?_; (case hd => rfl); (case hg => rfl); (case hr => first | (go_simp; done) | (go_simp; rfl)); intro gb664 hg w45 hbox hb; have n0_ := Aside0.mk (blk_below (g := gb646) (o := .cells #[.int .i64 a0_0, .int .i64 a0_1, .int .i64 a0_2, .int .i64 a0_3, .int .i64 a0_4, .int .i64 a0_5] 24 (0, 0)) (bk BK646.out) hb); have n1_ := Aside0.mk (blk_below (g := gb647) (o := .cells #[.int .i64 a1_0, .int .i64 a1_1] 23 (0, 0)) (bk BK647.out) hb); have n2_ := Aside0.mk (blk_below (g := gb648) (o := .cells #[.int .i64 a2_0, .int .i64 a2_1] 23 (0, 0)) (bk BK648.out) hb); have n3_ := Aside0.mk (blk_below (g := gb652) (o := .cells #[.int .i64 t649, .int .i64 t650] 23 (0, 0)) (bk BK652.out) hb); have n4_ := Aside0.mk (blk_below (g := gb656) (o := .cells #[.int .i64 t653, .int .i64 t654] 23 (0, 0)) (bk BK656.out) hb); have n5_ := Aside0.mk (blk_below (g := gb660) (o := .cells #[.int .i64 t657, .int .i64 t658] 23 (0, 0)) (bk BK660.out) hb); have n6_ := Aside0.mk (below_step (by repeat (first | (with_reducible first | exact HB.out | apply below_alloc | apply pw_below_drewN | apply below_drew1 | refine below_set ?_ GE646.out | refine below_set ?_ GE647.out | refine below_set ?_ GE648.out | refine below_set ?_ GE652.out | refine below_set ?_ GE656.out | refine below_set ?_ GE660.out) | exact HB.out)) hb); have n7_ := Aside0.mk (hbox); have n8_ := Aside0.mk ((by rw [hg]; exact (below_size (by repeat (first | (with_reducible first | exact HB.out | apply below_alloc | apply pw_below_drewN | apply below_drew1 | refine below_set ?_ GE646.out | refine below_set ?_ GE647.out | refine below_set ?_ GE648.out | refine below_set ?_ GE652.out | refine below_set ?_ GE656.out | refine below_set ?_ GE660.out) | exact HB.out))) : w.heap.size ≤ gb664)); have n9_ := Aside0.mk ((by rw [hg]; exact (below_size (by repeat (first | (with_reducible first | exact HB.out | apply below_alloc | apply pw_below_drewN | apply below_drew1 | refine below_set ?_ GE646.out | refine below_set ?_ GE647.out | refine below_set ?_ GE648.out | refine below_set ?_ GE652.out | refine below_set ?_ GE656.out | refine below_set ?_ GE660.out) | exact HB.out))) : w.heap.size ≤ gb664)); have n10_ := Aside0.mk ((by rw [hg]; exact Nat.ne_of_lt (blk_lt (g := gb646) (o := .cells #[.int .i64 a0_0, .int .i64 a0_1, .int .i64 a0_2, .int .i64 a0_3, .int .i64 a0_4, .int .i64 a0_5] 24 (0, 0)) (bk BK646.out)) : gb646 ≠ gb664)); have n11_ := Aside0.mk ((by rw [hg]; exact Nat.ne_of_gt (blk_lt (g := gb646) (o := .cells #[.int .i64 a0_0, .int .i64 a0_1, .int .i64 a0_2, .int .i64 a0_3, .int .i64 a0_4, .int .i64 a0_5] 24 (0, 0)) (bk BK646.out)) : gb664 ≠ gb646)); have n12_ := Aside0.mk ((by rw [hg]; exact Nat.ne_of_lt (blk_lt (g := gb647) (o := .cells #[.int .i64 a1_0, .int .i64 a1_1] 23 (0, 0)) (bk BK647.out)) : gb647 ≠ gb664)); have n13_ := Aside0.mk ((by rw [hg]; exact Nat.ne_of_gt (blk_lt (g := gb647) (o := .cells #[.int .i64 a1_0, .int .i64 a1_1] 23 (0, 0)) (bk BK647.out)) : gb664 ≠ gb647)); have n14_ := Aside0.mk ((by rw [hg]; exact Nat.ne_of_lt (blk_lt (g := gb648) (o := .cells #[.int .i64 a2_0, .int .i64 a2_1] 23 (0, 0)) (bk BK648.out)) : gb648 ≠ gb664)); have n15_ := Aside0.mk ((by rw [hg]; exact Nat.ne_of_gt (blk_lt (g := gb648) (o := .cells #[.int .i64 a2_0, .int .i64 a2_1] 23 (0, 0)) (bk BK648.out)) : gb664 ≠ gb648)); have n16_ := Aside0.mk ((by rw [hg]; exact Nat.ne_of_lt (blk_lt (g := gb652) (o := .cells #[.int .i64 t649, .int .i64 t650] 23 (0, 0)) (bk BK652.out)) : gb652 ≠ gb664)); have n17_ := Aside0.mk ((by rw [hg]; exact Nat.ne_of_gt (blk_lt (g := gb652) (o := .cells #[.int .i64 t649, .int .i64 t650] 23 (0, 0)) (bk BK652.out)) : gb664 ≠ gb652)); have n18_ := Aside0.mk ((by rw [hg]; exact Nat.ne_of_lt (blk_lt (g := gb656) (o := .cells #[.int .i64 t653, .int .i64 t654] 23 (0, 0)) (bk BK656.out)) : gb656 ≠ gb664)); have n19_ := Aside0.mk ((by rw [hg]; exact Nat.ne_of_gt (blk_lt (g := gb656) (o := .cells #[.int .i64 t653, .int .i64 t654] 23 (0, 0)) (bk BK656.out)) : gb664 ≠ gb656)); have n20_ := Aside0.mk ((by rw [hg]; exact Nat.ne_of_lt (blk_lt (g := gb660) (o := .cells #[.int .i64 t657, .int .i64 t658] 23 (0, 0)) (bk BK660.out)) : gb660 ≠ gb664)); have n21_ := Aside0.mk ((by rw [hg]; exact Nat.ne_of_gt (blk_lt (g := gb660) (o := .cells #[.int .i64 t657, .int .i64 t658] 23 (0, 0)) (bk BK660.out)) : gb664 ≠ gb660)); clear BK646; clear BK647; clear BK648; clear BK652; clear BK656; clear BK660; clear HB; have BK646 := n0_; have BK647 := n1_; have BK648 := n2_; have BK652 := n3_; have BK656 := n4_; have BK660 := n5_; have HB := n6_; have BK664 := n7_; have GW664 := n8_; have GE664 := n9_; have NB646_664 := n10_; have NB664_646 := n11_; have NB647_664 := n12_; have NB664_647 := n13_; have NB648_664 := n14_; have NB664_648 := n15_; have NB652_664 := n16_; have NB664_652 := n17_; have NB656_664 := n18_; have NB664_656 := n19_; have NB660_664 := n20_; have NB664_660 := n21_; clear n0_ n1_ n2_ n3_ n4_ n5_ n6_ n7_ n8_ n9_ n10_ n11_ n12_ n13_ n14_ n15_ n16_ n17_ n18_ n19_ n20_ n21_; clear hb hbox hg; have hnb46 := NB664_646.out; have hnc46 := NB646_664.out; have hnb47 := NB664_647.out; have hnc47 := NB647_664.out; have hnb48 := NB664_648.out; have hnc48 := NB648_664.out; have hnb49 := NB664_652.out; have hnc49 := NB652_664.out; have hnb50 := NB664_656.out; have hnc50 := NB656_664.out; have hnb51 := NB664_660.out; have hnc51 := NB660_664.out; have hcz52_0 : w45.cell? ⟨gb664, 0, none⟩ = some (.int .i64 0) := (blk_cell BK664.out 0).trans rfl; have hcz52_1 : w45.cell? ⟨gb664, 1, none⟩ = some (.int .i64 0) := (blk_cell BK664.out 1).trans rfl; have hfz52_0 := blk_frozen BK664.out 0; have hfz52_1 := blk_frozen BK664.out 1))
 (try simp only [Act.put, List.setIfInBounds_toArray, List.set_cons_zero, List.set_cons_succ])
 go_cut [55] (fun v55 wc => ∃ (kq : Nat) (x55_7 : Bool), v55 = .bool x55_7 ∧ Aside0 (zelligelaw07_PredMoves.j0 kq x55_7 a0_0 a0_1 a0_2 a0_3 a0_4 a0_5 a1_0 a1_1 t649 t650 t653 t654 t657 t658 t661 t662 = some true) ∧ Aside0 (kq ≤ k) ∧ Aside0 (wc.heap[gb646]? = some (.cells #[.int .i64 a0_0, .int .i64 a0_1, .int .i64 a0_2, .int .i64 a0_3, .int .i64 a0_4, .int .i64 a0_5] 24 (0, 0))) ∧ Aside0 (wc.heap[gb647]? = some (.cells #[.int .i64 a1_0, .int .i64 a1_1] 23 (0, 0))) ∧ Aside0 (wc.heap[gb648]? = some (.cells #[.int .i64 a2_0, .int .i64 a2_1] 23 (0, 0))) ∧ Aside0 (wc.heap[gb652]? = some (.cells #[.int .i64 t649, .int .i64 t650] 23 (0, 0))) ∧ Aside0 (wc.heap[gb656]? = some (.cells #[.int .i64 t653, .int .i64 t654] 23 (0, 0))) ∧ Aside0 (wc.heap[gb660]? = some (.cells #[.int .i64 t657, .int .i64 t658] 23 (0, 0))) ∧ Aside0 (wc.heap[gb664]? = some (.cells #[.int .i64 t661, .int .i64 t662] 23 (0, 0))) ∧ Aside0 (Below w.heap.size w wc))
 case first =>
  have H := HC8.out
  clear HC8
  by_cases c53 : t651 = true
  ·subst c53
   have H1 : (if t655 = true then (if t659 = true then (zelligelaw07_PredMoves.j0 k (!t663) a0_0 a0_1 a0_2 a0_3 a0_4 a0_5 a1_0 a1_1 t649 t650 t653 t654 t657 t658 t661 t662) else (zelligelaw07_PredMoves.j0 k true a0_0 a0_1 a0_2 a0_3 a0_4 a0_5 a1_0 a1_1 t649 t650 t653 t654 t657 t658 t661 t662)) else (zelligelaw07_PredMoves.j0 k true a0_0 a0_1 a0_2 a0_3 a0_4 a0_5 a1_0 a1_1 t649 t650 t653 t654 t657 t658 t661 t662)) = some true := by rw [if_pos rfl] at H; exact H
   clear H
   have H := H1
   clear H1
   by_cases c54 : t655 = true
   ·subst c54
    have H1 : (if t659 = true then (zelligelaw07_PredMoves.j0 k (!t663) a0_0 a0_1 a0_2 a0_3 a0_4 a0_5 a1_0 a1_1 t649 t650 t653 t654 t657 t658 t661 t662) else (zelligelaw07_PredMoves.j0 k true a0_0 a0_1 a0_2 a0_3 a0_4 a0_5 a1_0 a1_1 t649 t650 t653 t654 t657 t658 t661 t662)) = some true := by rw [if_pos rfl] at H; exact H
    clear H
    have H := H1
    clear H1
    by_cases c55 : t659 = true
    ·subst c55
     have H1 : (zelligelaw07_PredMoves.j0 k (!t663) a0_0 a0_1 a0_2 a0_3 a0_4 a0_5 a1_0 a1_1 t649 t650 t653 t654 t657 t658 t661 t662) = some true := by rw [if_pos rfl] at H; exact H
     clear H
     have H := H1
     clear H1
     have H' := Aside0.mk H
     clear H
     go_wp2
     go_meet
     case rel => exact ⟨_, (!t663), (by first | rfl | (simp; done) | (simp [*]; done)), H', ⟨by first | omega | exact Nat.le_refl _⟩, ⟨by (with_reducible repeat (first | refine blk_drewN ?_ _ | refine blk_drew ?_ | refine blk_alloc ?_ _)); refine blk_far ?_ NB646_664.out _; (with_reducible repeat (first | refine blk_drewN ?_ _ | refine blk_drew ?_ | refine blk_alloc ?_ _)); refine blk_far ?_ NB646_664.out _; (with_reducible repeat (first | refine blk_drewN ?_ _ | refine blk_drew ?_ | refine blk_alloc ?_ _)); exact BK646.out⟩, ⟨by (with_reducible repeat (first | refine blk_drewN ?_ _ | refine blk_drew ?_ | refine blk_alloc ?_ _)); refine blk_far ?_ NB647_664.out _; (with_reducible repeat (first | refine blk_drewN ?_ _ | refine blk_drew ?_ | refine blk_alloc ?_ _)); refine blk_far ?_ NB647_664.out _; (with_reducible repeat (first | refine blk_drewN ?_ _ | refine blk_drew ?_ | refine blk_alloc ?_ _)); exact BK647.out⟩, ⟨by (with_reducible repeat (first | refine blk_drewN ?_ _ | refine blk_drew ?_ | refine blk_alloc ?_ _)); refine blk_far ?_ NB648_664.out _; (with_reducible repeat (first | refine blk_drewN ?_ _ | refine blk_drew ?_ | refine blk_alloc ?_ _)); refine blk_far ?_ NB648_664.out _; (with_reducible repeat (first | refine blk_drewN ?_ _ | refine blk_drew ?_ | refine blk_alloc ?_ _)); exact BK648.out⟩, ⟨by (with_reducible repeat (first | refine blk_drewN ?_ _ | refine blk_drew ?_ | refine blk_alloc ?_ _)); refine blk_far ?_ NB652_664.out _; (with_reducible repeat (first | refine blk_drewN ?_ _ | refine blk_drew ?_ | refine blk_alloc ?_ _)); refine blk_far ?_ NB652_664.out _; (with_reducible repeat (first | refine blk_drewN ?_ _ | refine blk_drew ?_ | refine blk_alloc ?_ _)); exact BK652.out⟩, ⟨by (with_reducible repeat (first | refine blk_drewN ?_ _ | refine blk_drew ?_ | refine blk_alloc ?_ _)); refine blk_far ?_ NB656_664.out _; (with_reducible repeat (first | refine blk_drewN ?_ _ | refine blk_drew ?_ | refine blk_alloc ?_ _)); refine blk_far ?_ NB656_664.out _; (with_reducible repeat (first | refine blk_drewN ?_ _ | refine blk_drew ?_ | refine blk_alloc ?_ _)); exact BK656.out⟩, ⟨by (with_reducible repeat (first | refine blk_drewN ?_ _ | refine blk_drew ?_ | refine blk_alloc ?_ _)); refine blk_far ?_ NB660_664.out _; (with_reducible repeat (first | refine blk_drewN ?_ _ | refine blk_drew ?_ | refine blk_alloc ?_ _)); refine blk_far ?_ NB660_664.out _; (with_reducible repeat (first | refine blk_drewN ?_ _ | refine blk_drew ?_ | refine blk_alloc ?_ _)); exact BK660.out⟩, ⟨by (with_reducible repeat (first | refine blk_drewN ?_ _ | refine blk_drew ?_ | refine blk_alloc ?_ _)); refine blk_put (cs := #[.int .i64 t661, .int .i64 0]) ?_ 1 _ rfl; (with_reducible repeat (first | refine blk_drewN ?_ _ | refine blk_drew ?_ | refine blk_alloc ?_ _)); refine blk_put (cs := #[.int .i64 0, .int .i64 0]) ?_ 0 _ rfl; (with_reducible repeat (first | refine blk_drewN ?_ _ | refine blk_drew ?_ | refine blk_alloc ?_ _)); exact BK664.out⟩, ⟨by repeat (first | (with_reducible first | exact HB.out | apply below_alloc | apply pw_below_drewN | apply below_drew1 | refine below_set ?_ GE646.out | refine below_set ?_ GE647.out | refine below_set ?_ GE648.out | refine below_set ?_ GE652.out | refine below_set ?_ GE656.out | refine below_set ?_ GE660.out | refine below_set ?_ GE664.out) | exact HB.out)⟩⟩
    ·replace c55 := Bool.eq_false_iff.mpr c55
     subst c55
     have H1 : (zelligelaw07_PredMoves.j0 k true a0_0 a0_1 a0_2 a0_3 a0_4 a0_5 a1_0 a1_1 t649 t650 t653 t654 t657 t658 t661 t662) = some true := by rw [if_neg (show ¬ (false = true) by decide)] at H; exact H
     clear H
     have H := H1
     clear H1
     have H' := Aside0.mk H
     clear H
     go_wp2
     go_meet
     case rel => exact ⟨_, (true), (by first | rfl | (simp; done) | (simp [*]; done)), H', ⟨by first | omega | exact Nat.le_refl _⟩, ⟨by (with_reducible repeat (first | refine blk_drewN ?_ _ | refine blk_drew ?_ | refine blk_alloc ?_ _)); refine blk_far ?_ NB646_664.out _; (with_reducible repeat (first | refine blk_drewN ?_ _ | refine blk_drew ?_ | refine blk_alloc ?_ _)); refine blk_far ?_ NB646_664.out _; (with_reducible repeat (first | refine blk_drewN ?_ _ | refine blk_drew ?_ | refine blk_alloc ?_ _)); exact BK646.out⟩, ⟨by (with_reducible repeat (first | refine blk_drewN ?_ _ | refine blk_drew ?_ | refine blk_alloc ?_ _)); refine blk_far ?_ NB647_664.out _; (with_reducible repeat (first | refine blk_drewN ?_ _ | refine blk_drew ?_ | refine blk_alloc ?_ _)); refine blk_far ?_ NB647_664.out _; (with_reducible repeat (first | refine blk_drewN ?_ _ | refine blk_drew ?_ | refine blk_alloc ?_ _)); exact BK647.out⟩, ⟨by (with_reducible repeat (first | refine blk_drewN ?_ _ | refine blk_drew ?_ | refine blk_alloc ?_ _)); refine blk_far ?_ NB648_664.out _; (with_reducible repeat (first | refine blk_drewN ?_ _ | refine blk_drew ?_ | refine blk_alloc ?_ _)); refine blk_far ?_ NB648_664.out _; (with_reducible repeat (first | refine blk_drewN ?_ _ | refine blk_drew ?_ | refine blk_alloc ?_ _)); exact BK648.out⟩, ⟨by (with_reducible repeat (first | refine blk_drewN ?_ _ | refine blk_drew ?_ | refine blk_alloc ?_ _)); refine blk_far ?_ NB652_664.out _; (with_reducible repeat (first | refine blk_drewN ?_ _ | refine blk_drew ?_ | refine blk_alloc ?_ _)); refine blk_far ?_ NB652_664.out _; (with_reducible repeat (first | refine blk_drewN ?_ _ | refine blk_drew ?_ | refine blk_alloc ?_ _)); exact BK652.out⟩, ⟨by (with_reducible repeat (first | refine blk_drewN ?_ _ | refine blk_drew ?_ | refine blk_alloc ?_ _)); refine blk_far ?_ NB656_664.out _; (with_reducible repeat (first | refine blk_drewN ?_ _ | refine blk_drew ?_ | refine blk_alloc ?_ _)); refine blk_far ?_ NB656_664.out _; (with_reducible repeat (first | refine blk_drewN ?_ _ | refine blk_drew ?_ | refine blk_alloc ?_ _)); exact BK656.out⟩, ⟨by (with_reducible repeat (first | refine blk_drewN ?_ _ | refine blk_drew ?_ | refine blk_alloc ?_ _)); refine blk_far ?_ NB660_664.out _; (with_reducible repeat (first | refine blk_drewN ?_ _ | refine blk_drew ?_ | refine blk_alloc ?_ _)); refine blk_far ?_ NB660_664.out _; (with_reducible repeat (first | refine blk_drewN ?_ _ | refine blk_drew ?_ | refine blk_alloc ?_ _)); exact BK660.out⟩, ⟨by (with_reducible repeat (first | refine blk_drewN ?_ _ | refine blk_drew ?_ | refine blk_alloc ?_ _)); refine blk_put (cs := #[.int .i64 t661, .int .i64 0]) ?_ 1 _ rfl; (with_reducible repeat (first | refine blk_drewN ?_ _ | refine blk_drew ?_ | refine blk_alloc ?_ _)); refine blk_put (cs := #[.int .i64 0, .int .i64 0]) ?_ 0 _ rfl; (with_reducible repeat (first | refine blk_drewN ?_ _ | refine blk_drew ?_ | refine blk_alloc ?_ _)); exact BK664.out⟩, ⟨by repeat (first | (with_reducible first | exact HB.out | apply below_alloc | apply pw_below_drewN | apply below_drew1 | refine below_set ?_ GE646.out | refine below_set ?_ GE647.out | refine below_set ?_ GE648.out | refine below_set ?_ GE652.out | refine below_set ?_ GE656.out | refine below_set ?_ GE660.out | refine below_set ?_ GE664.out) | exact HB.out)⟩⟩
   ·replace c54 := Bool.eq_false_iff.mpr c54
    subst c54
    have H1 : (zelligelaw07_PredMoves.j0 k true a0_0 a0_1 a0_2 a0_3 a0_4 a0_5 a1_0 a1_1 t649 t650 t653 t654 t657 t658 t661 t662) = some true := by rw [if_neg (show ¬ (false = true) by decide)] at H; exact H
    clear H
    have H := H1
    clear H1
    have H' := Aside0.mk H
    clear H
    go_wp2
    go_meet
    case rel => exact ⟨_, (true), (by first | rfl | (simp; done) | (simp [*]; done)), H', ⟨by first | omega | exact Nat.le_refl _⟩, ⟨by (with_reducible repeat (first | refine blk_drewN ?_ _ | refine blk_drew ?_ | refine blk_alloc ?_ _)); refine blk_far ?_ NB646_664.out _; (with_reducible repeat (first | refine blk_drewN ?_ _ | refine blk_drew ?_ | refine blk_alloc ?_ _)); refine blk_far ?_ NB646_664.out _; (with_reducible repeat (first | refine blk_drewN ?_ _ | refine blk_drew ?_ | refine blk_alloc ?_ _)); exact BK646.out⟩, ⟨by (with_reducible repeat (first | refine blk_drewN ?_ _ | refine blk_drew ?_ | refine blk_alloc ?_ _)); refine blk_far ?_ NB647_664.out _; (with_reducible repeat (first | refine blk_drewN ?_ _ | refine blk_drew ?_ | refine blk_alloc ?_ _)); refine blk_far ?_ NB647_664.out _; (with_reducible repeat (first | refine blk_drewN ?_ _ | refine blk_drew ?_ | refine blk_alloc ?_ _)); exact BK647.out⟩, ⟨by (with_reducible repeat (first | refine blk_drewN ?_ _ | refine blk_drew ?_ | refine blk_alloc ?_ _)); refine blk_far ?_ NB648_664.out _; (with_reducible repeat (first | refine blk_drewN ?_ _ | refine blk_drew ?_ | refine blk_alloc ?_ _)); refine blk_far ?_ NB648_664.out _; (with_reducible repeat (first | refine blk_drewN ?_ _ | refine blk_drew ?_ | refine blk_alloc ?_ _)); exact BK648.out⟩, ⟨by (with_reducible repeat (first | refine blk_drewN ?_ _ | refine blk_drew ?_ | refine blk_alloc ?_ _)); refine blk_far ?_ NB652_664.out _; (with_reducible repeat (first | refine blk_drewN ?_ _ | refine blk_drew ?_ | refine blk_alloc ?_ _)); refine blk_far ?_ NB652_664.out _; (with_reducible repeat (first | refine blk_drewN ?_ _ | refine blk_drew ?_ | refine blk_alloc ?_ _)); exact BK652.out⟩, ⟨by (with_reducible repeat (first | refine blk_drewN ?_ _ | refine blk_drew ?_ | refine blk_alloc ?_ _)); refine blk_far ?_ NB656_664.out _; (with_reducible repeat (first | refine blk_drewN ?_ _ | refine blk_drew ?_ | refine blk_alloc ?_ _)); refine blk_far ?_ NB656_664.out _; (with_reducible repeat (first | refine blk_drewN ?_ _ | refine blk_drew ?_ | refine blk_alloc ?_ _)); exact BK656.out⟩, ⟨by (with_reducible repeat (first | refine blk_drewN ?_ _ | refine blk_drew ?_ | refine blk_alloc ?_ _)); refine blk_far ?_ NB660_664.out _; (with_reducible repeat (first | refine blk_drewN ?_ _ | refine blk_drew ?_ | refine blk_alloc ?_ _)); refine blk_far ?_ NB660_664.out _; (with_reducible repeat (first | refine blk_drewN ?_ _ | refine blk_drew ?_ | refine blk_alloc ?_ _)); exact BK660.out⟩, ⟨by (with_reducible repeat (first | refine blk_drewN ?_ _ | refine blk_drew ?_ | refine blk_alloc ?_ _)); refine blk_put (cs := #[.int .i64 t661, .int .i64 0]) ?_ 1 _ rfl; (with_reducible repeat (first | refine blk_drewN ?_ _ | refine blk_drew ?_ | refine blk_alloc ?_ _)); refine blk_put (cs := #[.int .i64 0, .int .i64 0]) ?_ 0 _ rfl; (with_reducible repeat (first | refine blk_drewN ?_ _ | refine blk_drew ?_ | refine blk_alloc ?_ _)); exact BK664.out⟩, ⟨by repeat (first | (with_reducible first | exact HB.out | apply below_alloc | apply pw_below_drewN | apply below_drew1 | refine below_set ?_ GE646.out | refine below_set ?_ GE647.out | refine below_set ?_ GE648.out | refine below_set ?_ GE652.out | refine below_set ?_ GE656.out | refine below_set ?_ GE660.out | refine below_set ?_ GE664.out) | exact HB.out)⟩⟩
  ·replace c53 := Bool.eq_false_iff.mpr c53
   subst c53
   have H1 : (zelligelaw07_PredMoves.j0 k true a0_0 a0_1 a0_2 a0_3 a0_4 a0_5 a1_0 a1_1 t649 t650 t653 t654 t657 t658 t661 t662) = some true := by rw [if_neg (show ¬ (false = true) by decide)] at H; exact H
   clear H
   have H := H1
   clear H1
   have H' := Aside0.mk H
   clear H
   go_wp2
   go_meet
   case rel => exact ⟨_, (true), (by first | rfl | (simp; done) | (simp [*]; done)), H', ⟨by first | omega | exact Nat.le_refl _⟩, ⟨by (with_reducible repeat (first | refine blk_drewN ?_ _ | refine blk_drew ?_ | refine blk_alloc ?_ _)); refine blk_far ?_ NB646_664.out _; (with_reducible repeat (first | refine blk_drewN ?_ _ | refine blk_drew ?_ | refine blk_alloc ?_ _)); refine blk_far ?_ NB646_664.out _; (with_reducible repeat (first | refine blk_drewN ?_ _ | refine blk_drew ?_ | refine blk_alloc ?_ _)); exact BK646.out⟩, ⟨by (with_reducible repeat (first | refine blk_drewN ?_ _ | refine blk_drew ?_ | refine blk_alloc ?_ _)); refine blk_far ?_ NB647_664.out _; (with_reducible repeat (first | refine blk_drewN ?_ _ | refine blk_drew ?_ | refine blk_alloc ?_ _)); refine blk_far ?_ NB647_664.out _; (with_reducible repeat (first | refine blk_drewN ?_ _ | refine blk_drew ?_ | refine blk_alloc ?_ _)); exact BK647.out⟩, ⟨by (with_reducible repeat (first | refine blk_drewN ?_ _ | refine blk_drew ?_ | refine blk_alloc ?_ _)); refine blk_far ?_ NB648_664.out _; (with_reducible repeat (first | refine blk_drewN ?_ _ | refine blk_drew ?_ | refine blk_alloc ?_ _)); refine blk_far ?_ NB648_664.out _; (with_reducible repeat (first | refine blk_drewN ?_ _ | refine blk_drew ?_ | refine blk_alloc ?_ _)); exact BK648.out⟩, ⟨by (with_reducible repeat (first | refine blk_drewN ?_ _ | refine blk_drew ?_ | refine blk_alloc ?_ _)); refine blk_far ?_ NB652_664.out _; (with_reducible repeat (first | refine blk_drewN ?_ _ | refine blk_drew ?_ | refine blk_alloc ?_ _)); refine blk_far ?_ NB652_664.out _; (with_reducible repeat (first | refine blk_drewN ?_ _ | refine blk_drew ?_ | refine blk_alloc ?_ _)); exact BK652.out⟩, ⟨by (with_reducible repeat (first | refine blk_drewN ?_ _ | refine blk_drew ?_ | refine blk_alloc ?_ _)); refine blk_far ?_ NB656_664.out _; (with_reducible repeat (first | refine blk_drewN ?_ _ | refine blk_drew ?_ | refine blk_alloc ?_ _)); refine blk_far ?_ NB656_664.out _; (with_reducible repeat (first | refine blk_drewN ?_ _ | refine blk_drew ?_ | refine blk_alloc ?_ _)); exact BK656.out⟩, ⟨by (with_reducible repeat (first | refine blk_drewN ?_ _ | refine blk_drew ?_ | refine blk_alloc ?_ _)); refine blk_far ?_ NB660_664.out _; (with_reducible repeat (first | refine blk_drewN ?_ _ | refine blk_drew ?_ | refine blk_alloc ?_ _)); refine blk_far ?_ NB660_664.out _; (with_reducible repeat (first | refine blk_drewN ?_ _ | refine blk_drew ?_ | refine blk_alloc ?_ _)); exact BK660.out⟩, ⟨by (with_reducible repeat (first | refine blk_drewN ?_ _ | refine blk_drew ?_ | refine blk_alloc ?_ _)); refine blk_put (cs := #[.int .i64 t661, .int .i64 0]) ?_ 1 _ rfl; (with_reducible repeat (first | refine blk_drewN ?_ _ | refine blk_drew ?_ | refine blk_alloc ?_ _)); refine blk_put (cs := #[.int .i64 0, .int .i64 0]) ?_ 0 _ rfl; (with_reducible repeat (first | refine blk_drewN ?_ _ | refine blk_drew ?_ | refine blk_alloc ?_ _)); exact BK664.out⟩, ⟨by repeat (first | (with_reducible first | exact HB.out | apply below_alloc | apply pw_below_drewN | apply below_drew1 | refine below_set ?_ GE646.out | refine below_set ?_ GE647.out | refine below_set ?_ GE648.out | refine below_set ?_ GE652.out | refine below_set ?_ GE656.out | refine below_set ?_ GE660.out | refine below_set ?_ GE664.out) | exact HB.out)⟩⟩
 case rest =>
  clear HC8
  try clear c1
  try clear c2
  try clear p2
  try clear c3
  try clear c4
  try clear c5
  try clear c7
  try clear c12
  try clear c13
  try clear c15
  try clear c19
  try clear c20
  try clear c21
  try clear c22
  try clear c27
  try clear c28
  try clear c29
  try clear c30
  try clear c36
  try clear c37
  try clear c38
  try clear c39
  try clear c40
  try clear c46
  try clear c47
  try clear c48
  try clear c49
  try clear c50
  try clear c51
  try clear c53
  try clear c54
  try clear c55
  try clear hcz14_0
  try clear hcz14_1
  try clear hcz14_2
  try clear hcz14_3
  try clear hcz14_4
  try clear hcz14_5
  try clear hcz16_0
  try clear hcz16_1
  try clear hcz22_0
  try clear hcz22_1
  try clear hcz23_0
  try clear hcz23_1
  try clear hcz23_2
  try clear hcz23_3
  try clear hcz23_4
  try clear hcz23_5
  try clear hcz24_0
  try clear hcz24_1
  try clear hcz31_0
  try clear hcz31_1
  try clear hcz32_0
  try clear hcz32_1
  try clear hcz32_2
  try clear hcz32_3
  try clear hcz32_4
  try clear hcz32_5
  try clear hcz33_0
  try clear hcz33_1
  try clear hcz41_0
  try clear hcz41_1
  try clear hcz42_0
  try clear hcz42_1
  try clear hcz43_0
  try clear hcz43_1
  try clear hcz52_0
  try clear hcz52_1
  try clear hfz14_0
  try clear hfz14_1
  try clear hfz14_2
  try clear hfz14_3
  try clear hfz14_4
  try clear hfz14_5
  try clear hfz16_0
  try clear hfz16_1
  try clear hfz22_0
  try clear hfz22_1
  try clear hfz23_0
  try clear hfz23_1
  try clear hfz23_2
  try clear hfz23_3
  try clear hfz23_4
  try clear hfz23_5
  try clear hfz24_0
  try clear hfz24_1
  try clear hfz31_0
  try clear hfz31_1
  try clear hfz32_0
  try clear hfz32_1
  try clear hfz32_2
  try clear hfz32_3
  try clear hfz32_4
  try clear hfz32_5
  try clear hfz33_0
  try clear hfz33_1
  try clear hfz41_0
  try clear hfz41_1
  try clear hfz42_0
  try clear hfz42_1
  try clear hfz43_0
  try clear hfz43_1
  try clear hfz52_0
  try clear hfz52_1
  obtain ⟨kq, x55_7, rfl, HA, HJ7, BK646, BK647, BK648, BK652, BK656, BK660, BK664, HB⟩ := hcut
  cases kq with
  | zero => exact absurd HA.out (by simp [zelligelaw07_PredMoves.j0])
  | succ kj7 =>
   have H := HA.out
   clear HA
   simp only [zelligelaw07_PredMoves.j0] at H
   by_cases c56 : x55_7 = true
   ·subst c56
    have H1 : ((zelligelaw07_lives.f kj7).bind fun t665 => (some t665)) = some true := by rw [if_pos rfl] at H; exact H
    clear H
    have H := H1
    clear H1
    replace H := Option.bind_eq_some_iff.mp H
    obtain ⟨t665, A570, H⟩ := H
    replace H : (some t665) = some true := H
    have A57 := Aside0.mk A570
    clear A570
    obtain rfl := Option.some.inj H
    go_wp2_with (first | ((with_reducible refine gate_callee (f := 10) rfl ?_); refine goesL_ (some 56) rfl rfl Try.func10 (by kernel_rfl) rfl #[] rfl (by (try simp only [List.map_toArray, List.map_cons, List.map_nil]); first | done | rfl | (simp only [List.length_drop, List.length_take]; rfl)) ?_; (with_reducible refine (zelligelaw07_lives.calls kj7  true _ A57.out).mono ?_); rintro e w58 ⟨rfl, hb⟩; refine ⟨_, rfl, ?_⟩; have n0_ := Aside0.mk (blk_below (g := gb646) (o := .cells #[.int .i64 a0_0, .int .i64 a0_1, .int .i64 a0_2, .int .i64 a0_3, .int .i64 a0_4, .int .i64 a0_5] 24 (0, 0)) (bk BK646.out) hb); have n1_ := Aside0.mk (blk_below (g := gb647) (o := .cells #[.int .i64 a1_0, .int .i64 a1_1] 23 (0, 0)) (bk BK647.out) hb); have n2_ := Aside0.mk (blk_below (g := gb648) (o := .cells #[.int .i64 a2_0, .int .i64 a2_1] 23 (0, 0)) (bk BK648.out) hb); have n3_ := Aside0.mk (blk_below (g := gb652) (o := .cells #[.int .i64 t649, .int .i64 t650] 23 (0, 0)) (bk BK652.out) hb); have n4_ := Aside0.mk (blk_below (g := gb656) (o := .cells #[.int .i64 t653, .int .i64 t654] 23 (0, 0)) (bk BK656.out) hb); have n5_ := Aside0.mk (blk_below (g := gb660) (o := .cells #[.int .i64 t657, .int .i64 t658] 23 (0, 0)) (bk BK660.out) hb); have n6_ := Aside0.mk (blk_below (g := gb664) (o := .cells #[.int .i64 t661, .int .i64 t662] 23 (0, 0)) (bk BK664.out) hb); have n7_ := Aside0.mk (below_step (by repeat (first | (with_reducible first | exact HB.out | apply below_alloc | apply pw_below_drewN | apply below_drew1 | refine below_set ?_ GE646.out | refine below_set ?_ GE647.out | refine below_set ?_ GE648.out | refine below_set ?_ GE652.out | refine below_set ?_ GE656.out | refine below_set ?_ GE660.out | refine below_set ?_ GE664.out) | exact HB.out)) hb); clear BK646; clear BK647; clear BK648; clear BK652; clear BK656; clear BK660; clear BK664; clear HB; have BK646 := n0_; have BK647 := n1_; have BK648 := n2_; have BK652 := n3_; have BK656 := n4_; have BK660 := n5_; have BK664 := n6_; have HB := n7_; clear n0_ n1_ n2_ n3_ n4_ n5_ n6_ n7_; (try clear hb); (try clear hb2); (try clear hk); (try clear hi)))
    go_ret
    exact ⟨by first | rfl | (simp [errW_none, errW_some] <;> rfl) | (simp [*, errW_none, errW_some] <;> rfl), by repeat (first | (with_reducible first | exact HB.out | apply below_alloc | apply pw_below_drewN | apply below_drew1 | refine below_set ?_ GE646.out | refine below_set ?_ GE647.out | refine below_set ?_ GE648.out | refine below_set ?_ GE652.out | refine below_set ?_ GE656.out | refine below_set ?_ GE660.out | refine below_set ?_ GE664.out) | exact HB.out)⟩
   ·replace c56 := Bool.eq_false_iff.mpr c56
    subst c56
    have H1 : ((pred_Area2.f kj7 t649 t650 t653 t654 t657 t658).bind fun bt666 => ((pred_Area2.f kj7 a0_0 a0_1 a0_2 a0_3 a0_4 a0_5).bind fun bt668 => (if (bt666.1 == bt668.1 && (bt666.2 == bt668.2)) = true then ((pred_Dist2.f kj7 t649 t650 t661 t662).bind fun bt670 => ((pred_Dist2.f kj7 a0_0 a0_1 a1_0 a1_1).bind fun bt672 => (if (bt670.1 == bt672.1 && (bt670.2 == bt672.2)) = true then ((pred_InCircle.f kj7 t649 t650 t653 t654 t657 t658 t661 t662).bind fun t674 => ((pred_InCircle.f kj7 a0_0 a0_1 a0_2 a0_3 a0_4 a0_5 a1_0 a1_1).bind fun t675 => (if t674 = t675 then ((pred_Where.f kj7 t649 t650 t653 t654 t657 t658 t661 t662).bind fun t676 => ((pred_Where.f kj7 a0_0 a0_1 a0_2 a0_3 a0_4 a0_5 a1_0 a1_1).bind fun t677 => (if t676 = t677 then ((zelligelaw07_lives.f kj7).bind fun t678 => (some t678)) else (some false)))) else (some false)))) else (some false)))) else (some false)))) = some true := by rw [if_neg (show ¬ (false = true) by decide)] at H; exact H
    clear H
    have H := H1
    clear H1
    replace H := Option.bind_eq_some_iff.mp H
    obtain ⟨⟨t666, t667⟩, A590, H⟩ := H
    replace H : ((pred_Area2.f kj7 a0_0 a0_1 a0_2 a0_3 a0_4 a0_5).bind fun bt668 => (if (t666 == bt668.1 && (t667 == bt668.2)) = true then ((pred_Dist2.f kj7 t649 t650 t661 t662).bind fun bt670 => ((pred_Dist2.f kj7 a0_0 a0_1 a1_0 a1_1).bind fun bt672 => (if (bt670.1 == bt672.1 && (bt670.2 == bt672.2)) = true then ((pred_InCircle.f kj7 t649 t650 t653 t654 t657 t658 t661 t662).bind fun t674 => ((pred_InCircle.f kj7 a0_0 a0_1 a0_2 a0_3 a0_4 a0_5 a1_0 a1_1).bind fun t675 => (if t674 = t675 then ((pred_Where.f kj7 t649 t650 t653 t654 t657 t658 t661 t662).bind fun t676 => ((pred_Where.f kj7 a0_0 a0_1 a0_2 a0_3 a0_4 a0_5 a1_0 a1_1).bind fun t677 => (if t676 = t677 then ((zelligelaw07_lives.f kj7).bind fun t678 => (some t678)) else (some false)))) else (some false)))) else (some false)))) else (some false))) = some true := H
    have A59 := Aside0.mk A590
    clear A590
    replace H := Option.bind_eq_some_iff.mp H
    obtain ⟨⟨t668, t669⟩, A600, H⟩ := H
    replace H : (if (t666 == t668 && (t667 == t669)) = true then ((pred_Dist2.f kj7 t649 t650 t661 t662).bind fun bt670 => ((pred_Dist2.f kj7 a0_0 a0_1 a1_0 a1_1).bind fun bt672 => (if (bt670.1 == bt672.1 && (bt670.2 == bt672.2)) = true then ((pred_InCircle.f kj7 t649 t650 t653 t654 t657 t658 t661 t662).bind fun t674 => ((pred_InCircle.f kj7 a0_0 a0_1 a0_2 a0_3 a0_4 a0_5 a1_0 a1_1).bind fun t675 => (if t674 = t675 then ((pred_Where.f kj7 t649 t650 t653 t654 t657 t658 t661 t662).bind fun t676 => ((pred_Where.f kj7 a0_0 a0_1 a0_2 a0_3 a0_4 a0_5 a1_0 a1_1).bind fun t677 => (if t676 = t677 then ((zelligelaw07_lives.f kj7).bind fun t678 => (some t678)) else (some false)))) else (some false)))) else (some false)))) else (some false)) = some true := H
    have A60 := Aside0.mk A600
    clear A600
    by_cases c61 : (t666 == t668 && (t667 == t669)) = true
    ·rw [if_pos c61] at H
     have c61b0 : (t666 == t668 && (t667 == t669)) = true := c61
     (try (have c61b1 : decide (t666 = t668 && (t667 == t669)) = true := by simpa using c61))
     (try (have c61b2 : (t666 == t668 && (t667 == t669)) = true := by simpa using c61))
     clear c61
     replace H := Option.bind_eq_some_iff.mp H
     obtain ⟨⟨t670, t671⟩, A620, H⟩ := H
     replace H : ((pred_Dist2.f kj7 a0_0 a0_1 a1_0 a1_1).bind fun bt672 => (if (t670 == bt672.1 && (t671 == bt672.2)) = true then ((pred_InCircle.f kj7 t649 t650 t653 t654 t657 t658 t661 t662).bind fun t674 => ((pred_InCircle.f kj7 a0_0 a0_1 a0_2 a0_3 a0_4 a0_5 a1_0 a1_1).bind fun t675 => (if t674 = t675 then ((pred_Where.f kj7 t649 t650 t653 t654 t657 t658 t661 t662).bind fun t676 => ((pred_Where.f kj7 a0_0 a0_1 a0_2 a0_3 a0_4 a0_5 a1_0 a1_1).bind fun t677 => (if t676 = t677 then ((zelligelaw07_lives.f kj7).bind fun t678 => (some t678)) else (some false)))) else (some false)))) else (some false))) = some true := H
     have A62 := Aside0.mk A620
     clear A620
     replace H := Option.bind_eq_some_iff.mp H
     obtain ⟨⟨t672, t673⟩, A630, H⟩ := H
     replace H : (if (t670 == t672 && (t671 == t673)) = true then ((pred_InCircle.f kj7 t649 t650 t653 t654 t657 t658 t661 t662).bind fun t674 => ((pred_InCircle.f kj7 a0_0 a0_1 a0_2 a0_3 a0_4 a0_5 a1_0 a1_1).bind fun t675 => (if t674 = t675 then ((pred_Where.f kj7 t649 t650 t653 t654 t657 t658 t661 t662).bind fun t676 => ((pred_Where.f kj7 a0_0 a0_1 a0_2 a0_3 a0_4 a0_5 a1_0 a1_1).bind fun t677 => (if t676 = t677 then ((zelligelaw07_lives.f kj7).bind fun t678 => (some t678)) else (some false)))) else (some false)))) else (some false)) = some true := H
     have A63 := Aside0.mk A630
     clear A630
     by_cases c64 : (t670 == t672 && (t671 == t673)) = true
     ·rw [if_pos c64] at H
      have c64b0 : (t670 == t672 && (t671 == t673)) = true := c64
      (try (have c64b1 : decide (t670 = t672 && (t671 == t673)) = true := by simpa using c64))
      (try (have c64b2 : (t670 == t672 && (t671 == t673)) = true := by simpa using c64))
      clear c64
      replace H := Option.bind_eq_some_iff.mp H
      obtain ⟨t674, A650, H⟩ := H
      replace H : ((pred_InCircle.f kj7 a0_0 a0_1 a0_2 a0_3 a0_4 a0_5 a1_0 a1_1).bind fun t675 => (if t674 = t675 then ((pred_Where.f kj7 t649 t650 t653 t654 t657 t658 t661 t662).bind fun t676 => ((pred_Where.f kj7 a0_0 a0_1 a0_2 a0_3 a0_4 a0_5 a1_0 a1_1).bind fun t677 => (if t676 = t677 then ((zelligelaw07_lives.f kj7).bind fun t678 => (some t678)) else (some false)))) else (some false))) = some true := H
      have A65 := Aside0.mk A650
      clear A650
      replace H := Option.bind_eq_some_iff.mp H
      obtain ⟨t675, A660, H⟩ := H
      replace H : (if t674 = t675 then ((pred_Where.f kj7 t649 t650 t653 t654 t657 t658 t661 t662).bind fun t676 => ((pred_Where.f kj7 a0_0 a0_1 a0_2 a0_3 a0_4 a0_5 a1_0 a1_1).bind fun t677 => (if t676 = t677 then ((zelligelaw07_lives.f kj7).bind fun t678 => (some t678)) else (some false)))) else (some false)) = some true := H
      have A66 := Aside0.mk A660
      clear A660
      by_cases c67 : t674 = t675
      ·rw [if_pos c67] at H
       have c67b0 : (t674 == t675) = true := beq_iff_eq.mpr c67
       have c67b1 : (t674 != t675) = false := bne_eq_false_iff_eq.mpr c67
       clear c67
       replace H := Option.bind_eq_some_iff.mp H
       obtain ⟨t676, A680, H⟩ := H
       replace H : ((pred_Where.f kj7 a0_0 a0_1 a0_2 a0_3 a0_4 a0_5 a1_0 a1_1).bind fun t677 => (if t676 = t677 then ((zelligelaw07_lives.f kj7).bind fun t678 => (some t678)) else (some false))) = some true := H
       have A68 := Aside0.mk A680
       clear A680
       replace H := Option.bind_eq_some_iff.mp H
       obtain ⟨t677, A690, H⟩ := H
       replace H : (if t676 = t677 then ((zelligelaw07_lives.f kj7).bind fun t678 => (some t678)) else (some false)) = some true := H
       have A69 := Aside0.mk A690
       clear A690
       by_cases c70 : t676 = t677
       ·rw [if_pos c70] at H
        have c70b0 : (t676 == t677) = true := beq_iff_eq.mpr c70
        have c70b1 : (t676 != t677) = false := bne_eq_false_iff_eq.mpr c70
        clear c70
        replace H := Option.bind_eq_some_iff.mp H
        obtain ⟨t678, A710, H⟩ := H
        replace H : (some t678) = some true := H
        have A71 := Aside0.mk A710
        clear A710
        obtain rfl := Option.some.inj H
        try go_wp2
        have n0_ := Aside0.mk (blk_drew BK646.out)
        have n1_ := Aside0.mk (blk_drew BK647.out)
        have n2_ := Aside0.mk (blk_drew BK648.out)
        have n3_ := Aside0.mk (blk_drew BK652.out)
        have n4_ := Aside0.mk (blk_drew BK656.out)
        have n5_ := Aside0.mk (blk_drew BK660.out)
        have n6_ := Aside0.mk (blk_drew BK664.out)
        have n7_ := Aside0.mk (below_drew1 HB.out)
        clear BK646
        clear BK647
        clear BK648
        clear BK652
        clear BK656
        clear BK660
        clear BK664
        clear HB
        have BK646 := n0_
        have BK647 := n1_
        have BK648 := n2_
        have BK652 := n3_
        have BK656 := n4_
        have BK660 := n5_
        have BK664 := n6_
        have HB := n7_
        clear n0_ n1_ n2_ n3_ n4_ n5_ n6_ n7_
        refine start_ (n := 58) (S := fun w' => w'.cell? ⟨gb652, 0, none⟩ = some (.int .i64 t649) ∧ w'.cell? ⟨gb652, 1, none⟩ = some (.int .i64 t650) ∧ w'.cell? ⟨gb656, 0, none⟩ = some (.int .i64 t653) ∧ w'.cell? ⟨gb656, 1, none⟩ = some (.int .i64 t654) ∧ w'.cell? ⟨gb660, 0, none⟩ = some (.int .i64 t657) ∧ w'.cell? ⟨gb660, 1, none⟩ = some (.int .i64 t658) ∧ w'.cell? ⟨gb646, 0, none⟩ = some (.int .i64 a0_0) ∧ w'.cell? ⟨gb646, 1, none⟩ = some (.int .i64 a0_1) ∧ w'.cell? ⟨gb646, 2, none⟩ = some (.int .i64 a0_2) ∧ w'.cell? ⟨gb646, 3, none⟩ = some (.int .i64 a0_3) ∧ w'.cell? ⟨gb646, 4, none⟩ = some (.int .i64 a0_4) ∧ w'.cell? ⟨gb646, 5, none⟩ = some (.int .i64 a0_5) ∧ w'.cell? ⟨gb664, 0, none⟩ = some (.int .i64 t661) ∧ w'.cell? ⟨gb664, 1, none⟩ = some (.int .i64 t662) ∧ w'.cell? ⟨gb647, 0, none⟩ = some (.int .i64 a1_0) ∧ w'.cell? ⟨gb647, 1, none⟩ = some (.int .i64 a1_1)) (ds := []) #[false, false, false, false, false, false, false, false, false, false, false, false, false, false, false, false, false, false, false, false, false, false, false, false, false, false, false, false, false, false, false, false, false, false, false, false, false, false, false, false, false, false, false, false, false, false, false, false, false, false, false, false, false, false, false, false, false, false] (by kernel_rfl) rfl rfl ⟨(blk_cell BK652.out 0).trans rfl, (blk_cell BK652.out 1).trans rfl, (blk_cell BK656.out 0).trans rfl, (blk_cell BK656.out 1).trans rfl, (blk_cell BK660.out 0).trans rfl, (blk_cell BK660.out 1).trans rfl, (blk_cell BK646.out 0).trans rfl, (blk_cell BK646.out 1).trans rfl, (blk_cell BK646.out 2).trans rfl, (blk_cell BK646.out 3).trans rfl, (blk_cell BK646.out 4).trans rfl, (blk_cell BK646.out 5).trans rfl, (blk_cell BK664.out 0).trans rfl, (blk_cell BK664.out 1).trans rfl, (blk_cell BK647.out 0).trans rfl, (blk_cell BK647.out 1).trans rfl⟩ (fun hHeld => ?_); refine with_tabW zelligelaw07_PredMoves.tab7 zelligelaw07_PredMoves.bits7 (fun HT_ HW_ => ?_)
        generalize wc.drew = w72 at BK646 BK647 BK648 BK652 BK656 BK660 BK664 HB hHeld ⊢
        refine pure_ (i := 4) (N := some 61) (v := ?_) (a' := ?_) #[false, false, false, false, true, false, false, false, false, false, false, false, false, false, false, false, false, false, false, false, false, false, false, false, false, false, false, false, false, false, false, false, false, false, false, false, false, false, false, false, false, false, false, false, false, false, false, false, false, false, false, false, false, false, false, false, false, false] rfl rfl (any_of HT_.out (by kernel_rfl)) (fun _ _ _ h => h) (Or.inl ⟨by rfl, ?_⟩) ?_ ?_
        rotate_left
        ·intro w'
         go_simp
         with_reducible rfl
        rotate_left
        ·simp only [Act.put, List.setIfInBounds_toArray, List.set_cons_zero, List.set_cons_succ, i64_w, i32_w]
         rfl
        refine pure_ (i := 6) (N := some 63) (v := ?_) (a' := ?_) #[false, false, false, false, true, false, true, false, false, false, false, false, false, false, false, false, false, false, false, false, false, false, false, false, false, false, false, false, false, false, false, false, false, false, false, false, false, false, false, false, false, false, false, false, false, false, false, false, false, false, false, false, false, false, false, false, false, false] rfl rfl (any_of HT_.out (by kernel_rfl)) (fun _ _ _ h => h) (Or.inl ⟨by rfl, ?_⟩) ?_ ?_
        rotate_left
        ·intro w'
         go_simp
         with_reducible rfl
        rotate_left
        ·simp only [Act.put, List.setIfInBounds_toArray, List.set_cons_zero, List.set_cons_succ, i64_w, i32_w]
         rfl
        refine pure_ (i := 8) (N := some 65) (v := ?_) (a' := ?_) #[false, false, false, false, true, false, true, false, true, false, false, false, false, false, false, false, false, false, false, false, false, false, false, false, false, false, false, false, false, false, false, false, false, false, false, false, false, false, false, false, false, false, false, false, false, false, false, false, false, false, false, false, false, false, false, false, false, false] rfl rfl (any_of HT_.out (by kernel_rfl)) (fun _ _ _ h => h) (Or.inl ⟨by rfl, ?_⟩) ?_ ?_
        rotate_left
        ·intro w'
         go_simp
         with_reducible rfl
        rotate_left
        ·simp only [Act.put, List.setIfInBounds_toArray, List.set_cons_zero, List.set_cons_succ, i64_w, i32_w]
         rfl
        refine take_ (i := 0) (N := some 57) (v := ?_) (a' := ?_) #[true, false, false, false, true, false, true, false, true, false, false, false, false, false, false, false, false, false, false, false, false, false, false, false, false, false, false, false, false, false, false, false, false, false, false, false, false, false, false, false, false, false, false, false, false, false, false, false, false, false, false, false, false, false, false, false, false, false] rfl rfl (take_ofW HT_.out HW_.out (by kernel_rfl)) (fun _ _ _ h => h) (Or.inl ⟨by rfl, ?_⟩) hHeld ?_ ?_
        rotate_left
        ·rintro w' ⟨s0, s1, s2, s3, s4, s5, s6, s7, s8, s9, s10, s11, s12, s13, s14, s15⟩
         go_simp
         with_reducible rfl
        rotate_left
        ·simp only [Act.put, List.setIfInBounds_toArray, List.set_cons_zero, List.set_cons_succ, i64_w, i32_w]
         rfl
        refine take_ (i := 1) (N := some 58) (v := ?_) (a' := ?_) #[true, true, false, false, true, false, true, false, true, false, false, false, false, false, false, false, false, false, false, false, false, false, false, false, false, false, false, false, false, false, false, false, false, false, false, false, false, false, false, false, false, false, false, false, false, false, false, false, false, false, false, false, false, false, false, false, false, false] rfl rfl (take_ofW HT_.out HW_.out (by kernel_rfl)) (fun _ _ _ h => h) (Or.inl ⟨by rfl, ?_⟩) hHeld ?_ ?_
        rotate_left
        ·rintro w' ⟨s0, s1, s2, s3, s4, s5, s6, s7, s8, s9, s10, s11, s12, s13, s14, s15⟩
         go_simp
         with_reducible rfl
        rotate_left
        ·simp only [Act.put, List.setIfInBounds_toArray, List.set_cons_zero, List.set_cons_succ, i64_w, i32_w]
         rfl
        refine take_ (i := 2) (N := some 59) (v := ?_) (a' := ?_) #[true, true, true, false, true, false, true, false, true, false, false, false, false, false, false, false, false, false, false, false, false, false, false, false, false, false, false, false, false, false, false, false, false, false, false, false, false, false, false, false, false, false, false, false, false, false, false, false, false, false, false, false, false, false, false, false, false, false] rfl rfl (take_ofW HT_.out HW_.out (by kernel_rfl)) (fun _ _ _ h => h) (Or.inl ⟨by rfl, ?_⟩) hHeld ?_ ?_
        rotate_left
        ·rintro w' ⟨s0, s1, s2, s3, s4, s5, s6, s7, s8, s9, s10, s11, s12, s13, s14, s15⟩
         go_simp
         with_reducible rfl
        rotate_left
        ·simp only [Act.put, List.setIfInBounds_toArray, List.set_cons_zero, List.set_cons_succ, i64_w, i32_w]
         rfl
        refine take_ (i := 5) (N := some 62) (v := ?_) (a' := ?_) #[true, true, true, false, true, true, true, false, true, false, false, false, false, false, false, false, false, false, false, false, false, false, false, false, false, false, false, false, false, false, false, false, false, false, false, false, false, false, false, false, false, false, false, false, false, false, false, false, false, false, false, false, false, false, false, false, false, false] rfl rfl (take_ofW HT_.out HW_.out (by kernel_rfl)) (fun _ _ _ h => h) (Or.inl ⟨by rfl, ?_⟩) hHeld ?_ ?_
        rotate_left
        ·rintro w' ⟨s0, s1, s2, s3, s4, s5, s6, s7, s8, s9, s10, s11, s12, s13, s14, s15⟩
         go_simp
         with_reducible rfl
        rotate_left
        ·simp only [Act.put, List.setIfInBounds_toArray, List.set_cons_zero, List.set_cons_succ, i64_w, i32_w]
         rfl
        refine take_ (i := 7) (N := some 64) (v := ?_) (a' := ?_) #[true, true, true, false, true, true, true, true, true, false, false, false, false, false, false, false, false, false, false, false, false, false, false, false, false, false, false, false, false, false, false, false, false, false, false, false, false, false, false, false, false, false, false, false, false, false, false, false, false, false, false, false, false, false, false, false, false, false] rfl rfl (take_ofW HT_.out HW_.out (by kernel_rfl)) (fun _ _ _ h => h) (Or.inl ⟨by rfl, ?_⟩) hHeld ?_ ?_
        rotate_left
        ·rintro w' ⟨s0, s1, s2, s3, s4, s5, s6, s7, s8, s9, s10, s11, s12, s13, s14, s15⟩
         go_simp
         with_reducible rfl
        rotate_left
        ·simp only [Act.put, List.setIfInBounds_toArray, List.set_cons_zero, List.set_cons_succ, i64_w, i32_w]
         rfl
        refine take_ (i := 9) (N := some 66) (v := ?_) (a' := ?_) #[true, true, true, false, true, true, true, true, true, true, false, false, false, false, false, false, false, false, false, false, false, false, false, false, false, false, false, false, false, false, false, false, false, false, false, false, false, false, false, false, false, false, false, false, false, false, false, false, false, false, false, false, false, false, false, false, false, false] rfl rfl (take_ofW HT_.out HW_.out (by kernel_rfl)) (fun _ _ _ h => h) (Or.inl ⟨by rfl, ?_⟩) hHeld ?_ ?_
        rotate_left
        ·rintro w' ⟨s0, s1, s2, s3, s4, s5, s6, s7, s8, s9, s10, s11, s12, s13, s14, s15⟩
         go_simp
         with_reducible rfl
        rotate_left
        ·simp only [Act.put, List.setIfInBounds_toArray, List.set_cons_zero, List.set_cons_succ, i64_w, i32_w]
         rfl
        refine one_ (i := 3) (N := some 60) #[true, true, true, true, true, true, true, true, true, true, false, false, false, false, false, false, false, false, false, false, false, false, false, false, false, false, false, false, false, false, false, false, false, false, false, false, false, false, false, false, false, false, false, false, false, false, false, false, false, false, false, false, false, false, false, false, false, false] rfl rfl (one_of HT_.out (by kernel_rfl)) (by decide) (fun K hK => ?_)
        refine goes_ Try.func16 (by kernel_rfl) rfl #[.agg #[.int .i64 t649, .int .i64 t650], .agg #[.int .i64 t653, .int .i64 t654], .agg #[.int .i64 t657, .int .i64 t658]] (by rfl) rfl rfl (by (try simp only [List.map_toArray, List.map_cons, List.map_nil]); first | done | rfl | (simp only [List.length_drop, List.length_take]; rfl)) ?_
        with_reducible refine (pred_Area2.calls kj7 t649 t650 t653 t654 t657 t658 t666 t667 _ A59.out).mono ?_
        rintro e w73 ⟨rfl, hb⟩
        refine ⟨_, rfl, ?_⟩
        have n0_ := Aside0.mk (blk_below (g := gb646) (o := .cells #[.int .i64 a0_0, .int .i64 a0_1, .int .i64 a0_2, .int .i64 a0_3, .int .i64 a0_4, .int .i64 a0_5] 24 (0, 0)) (bk BK646.out) hb)
        have n1_ := Aside0.mk (blk_below (g := gb647) (o := .cells #[.int .i64 a1_0, .int .i64 a1_1] 23 (0, 0)) (bk BK647.out) hb)
        have n2_ := Aside0.mk (blk_below (g := gb648) (o := .cells #[.int .i64 a2_0, .int .i64 a2_1] 23 (0, 0)) (bk BK648.out) hb)
        have n3_ := Aside0.mk (blk_below (g := gb652) (o := .cells #[.int .i64 t649, .int .i64 t650] 23 (0, 0)) (bk BK652.out) hb)
        have n4_ := Aside0.mk (blk_below (g := gb656) (o := .cells #[.int .i64 t653, .int .i64 t654] 23 (0, 0)) (bk BK656.out) hb)
        have n5_ := Aside0.mk (blk_below (g := gb660) (o := .cells #[.int .i64 t657, .int .i64 t658] 23 (0, 0)) (bk BK660.out) hb)
        have n6_ := Aside0.mk (blk_below (g := gb664) (o := .cells #[.int .i64 t661, .int .i64 t662] 23 (0, 0)) (bk BK664.out) hb)
        have n7_ := Aside0.mk (below_step (by repeat (first | (with_reducible first | exact HB.out | apply below_alloc | apply pw_below_drewN | apply below_drew1 | refine below_set ?_ GE646.out | refine below_set ?_ GE647.out | refine below_set ?_ GE648.out | refine below_set ?_ GE652.out | refine below_set ?_ GE656.out | refine below_set ?_ GE660.out | refine below_set ?_ GE664.out) | exact HB.out)) hb)
        clear BK646
        clear BK647
        clear BK648
        clear BK652
        clear BK656
        clear BK660
        clear BK664
        clear HB
        have BK646 := n0_
        have BK647 := n1_
        have BK648 := n2_
        have BK652 := n3_
        have BK656 := n4_
        have BK660 := n5_
        have BK664 := n6_
        have HB := n7_
        clear n0_ n1_ n2_ n3_ n4_ n5_ n6_ n7_
        (try clear hb)
        (try clear hb2)
        (try clear hk)
        (try clear hi)
        refine hK.out _ _ ⟨(blk_cell BK652.out 0).trans rfl, (blk_cell BK652.out 1).trans rfl, (blk_cell BK656.out 0).trans rfl, (blk_cell BK656.out 1).trans rfl, (blk_cell BK660.out 0).trans rfl, (blk_cell BK660.out 1).trans rfl, (blk_cell BK646.out 0).trans rfl, (blk_cell BK646.out 1).trans rfl, (blk_cell BK646.out 2).trans rfl, (blk_cell BK646.out 3).trans rfl, (blk_cell BK646.out 4).trans rfl, (blk_cell BK646.out 5).trans rfl, (blk_cell BK664.out 0).trans rfl, (blk_cell BK664.out 1).trans rfl, (blk_cell BK647.out 0).trans rfl, (blk_cell BK647.out 1).trans rfl⟩ (fun hHeld => ?_)
        clear hK K
        refine norm_ (a' := ?_) ?_ ?_
        rotate_left
        ·show Act.put _ (some 60) _ = _
         simp only [Act.put, List.setIfInBounds_toArray, List.set_cons_zero, List.set_cons_succ, i64_w, i32_w]
         rfl
        refine one_ (i := 10) (N := some 67) #[true, true, true, true, true, true, true, true, true, true, true, false, false, false, false, false, false, false, false, false, false, false, false, false, false, false, false, false, false, false, false, false, false, false, false, false, false, false, false, false, false, false, false, false, false, false, false, false, false, false, false, false, false, false, false, false, false, false] rfl rfl (one_of HT_.out (by kernel_rfl)) (by decide) (fun K hK => ?_)
        refine goes_ Try.func16 (by kernel_rfl) rfl #[.agg #[.int .i64 a0_0, .int .i64 a0_1], .agg #[.int .i64 a0_2, .int .i64 a0_3], .agg #[.int .i64 a0_4, .int .i64 a0_5]] (by rfl) rfl rfl (by (try simp only [List.map_toArray, List.map_cons, List.map_nil]); first | done | rfl | (simp only [List.length_drop, List.length_take]; rfl)) ?_
        with_reducible refine (pred_Area2.calls kj7 a0_0 a0_1 a0_2 a0_3 a0_4 a0_5 t668 t669 _ A60.out).mono ?_
        rintro e w74 ⟨rfl, hb⟩
        refine ⟨_, rfl, ?_⟩
        have n0_ := Aside0.mk (blk_below (g := gb646) (o := .cells #[.int .i64 a0_0, .int .i64 a0_1, .int .i64 a0_2, .int .i64 a0_3, .int .i64 a0_4, .int .i64 a0_5] 24 (0, 0)) (bk BK646.out) hb)
        have n1_ := Aside0.mk (blk_below (g := gb647) (o := .cells #[.int .i64 a1_0, .int .i64 a1_1] 23 (0, 0)) (bk BK647.out) hb)
        have n2_ := Aside0.mk (blk_below (g := gb648) (o := .cells #[.int .i64 a2_0, .int .i64 a2_1] 23 (0, 0)) (bk BK648.out) hb)
        have n3_ := Aside0.mk (blk_below (g := gb652) (o := .cells #[.int .i64 t649, .int .i64 t650] 23 (0, 0)) (bk BK652.out) hb)
        have n4_ := Aside0.mk (blk_below (g := gb656) (o := .cells #[.int .i64 t653, .int .i64 t654] 23 (0, 0)) (bk BK656.out) hb)
        have n5_ := Aside0.mk (blk_below (g := gb660) (o := .cells #[.int .i64 t657, .int .i64 t658] 23 (0, 0)) (bk BK660.out) hb)
        have n6_ := Aside0.mk (blk_below (g := gb664) (o := .cells #[.int .i64 t661, .int .i64 t662] 23 (0, 0)) (bk BK664.out) hb)
        have n7_ := Aside0.mk (below_step (by repeat (first | (with_reducible first | exact HB.out | apply below_alloc | apply pw_below_drewN | apply below_drew1 | refine below_set ?_ GE646.out | refine below_set ?_ GE647.out | refine below_set ?_ GE648.out | refine below_set ?_ GE652.out | refine below_set ?_ GE656.out | refine below_set ?_ GE660.out | refine below_set ?_ GE664.out) | exact HB.out)) hb)
        clear BK646
        clear BK647
        clear BK648
        clear BK652
        clear BK656
        clear BK660
        clear BK664
        clear HB
        have BK646 := n0_
        have BK647 := n1_
        have BK648 := n2_
        have BK652 := n3_
        have BK656 := n4_
        have BK660 := n5_
        have BK664 := n6_
        have HB := n7_
        clear n0_ n1_ n2_ n3_ n4_ n5_ n6_ n7_
        (try clear hb)
        (try clear hb2)
        (try clear hk)
        (try clear hi)
        refine hK.out _ _ ⟨(blk_cell BK652.out 0).trans rfl, (blk_cell BK652.out 1).trans rfl, (blk_cell BK656.out 0).trans rfl, (blk_cell BK656.out 1).trans rfl, (blk_cell BK660.out 0).trans rfl, (blk_cell BK660.out 1).trans rfl, (blk_cell BK646.out 0).trans rfl, (blk_cell BK646.out 1).trans rfl, (blk_cell BK646.out 2).trans rfl, (blk_cell BK646.out 3).trans rfl, (blk_cell BK646.out 4).trans rfl, (blk_cell BK646.out 5).trans rfl, (blk_cell BK664.out 0).trans rfl, (blk_cell BK664.out 1).trans rfl, (blk_cell BK647.out 0).trans rfl, (blk_cell BK647.out 1).trans rfl⟩ (fun hHeld => ?_)
        clear hK K
        refine norm_ (a' := ?_) ?_ ?_
        rotate_left
        ·show Act.put _ (some 67) _ = _
         simp only [Act.put, List.setIfInBounds_toArray, List.set_cons_zero, List.set_cons_succ, i64_w, i32_w]
         rfl
        refine pure_ (i := 11) (N := some 68) (v := ?_) (a' := ?_) #[true, true, true, true, true, true, true, true, true, true, true, true, false, false, false, false, false, false, false, false, false, false, false, false, false, false, false, false, false, false, false, false, false, false, false, false, false, false, false, false, false, false, false, false, false, false, false, false, false, false, false, false, false, false, false, false, false, false] rfl rfl (any_of HT_.out (by kernel_rfl)) (fun _ _ _ h => h) (Or.inl ⟨by rfl, ?_⟩) ?_ ?_
        rotate_left
        ·intro w'
         go_simp
         with_reducible rfl
        rotate_left
        ·simp only [Act.put, List.setIfInBounds_toArray, List.set_cons_zero, List.set_cons_succ, i64_w, i32_w]
         rfl
        refine pure_ (i := 12) (N := some 69) (v := ?_) (a' := ?_) #[true, true, true, true, true, true, true, true, true, true, true, true, true, false, false, false, false, false, false, false, false, false, false, false, false, false, false, false, false, false, false, false, false, false, false, false, false, false, false, false, false, false, false, false, false, false, false, false, false, false, false, false, false, false, false, false, false, false] rfl rfl (any_of HT_.out (by kernel_rfl)) (fun _ _ _ h => h) (Or.inl ⟨by rfl, ?_⟩) ?_ ?_
        rotate_left
        ·intro w'
         go_simp
         with_reducible rfl
        rotate_left
        ·simp only [Act.put, List.setIfInBounds_toArray, List.set_cons_zero, List.set_cons_succ, i64_w, i32_w]
         rfl
        refine pure_ (i := 16) (N := some 73) (v := ?_) (a' := ?_) #[true, true, true, true, true, true, true, true, true, true, true, true, true, false, false, false, true, false, false, false, false, false, false, false, false, false, false, false, false, false, false, false, false, false, false, false, false, false, false, false, false, false, false, false, false, false, false, false, false, false, false, false, false, false, false, false, false, false] rfl rfl (any_of HT_.out (by kernel_rfl)) (fun _ _ _ h => h) (Or.inl ⟨by rfl, ?_⟩) ?_ ?_
        rotate_left
        ·intro w'
         go_simp
         with_reducible rfl
        rotate_left
        ·simp only [Act.put, List.setIfInBounds_toArray, List.set_cons_zero, List.set_cons_succ, i64_w, i32_w]
         rfl
        refine take_ (i := 13) (N := some 70) (v := ?_) (a' := ?_) #[true, true, true, true, true, true, true, true, true, true, true, true, true, true, false, false, true, false, false, false, false, false, false, false, false, false, false, false, false, false, false, false, false, false, false, false, false, false, false, false, false, false, false, false, false, false, false, false, false, false, false, false, false, false, false, false, false, false] rfl rfl (take_ofW HT_.out HW_.out (by kernel_rfl)) (fun _ _ _ h => h) (Or.inl ⟨by rfl, ?_⟩) hHeld ?_ ?_
        rotate_left
        ·rintro w' ⟨s0, s1, s2, s3, s4, s5, s6, s7, s8, s9, s10, s11, s12, s13, s14, s15⟩
         go_simp
         with_reducible rfl
        rotate_left
        ·simp only [Act.put, List.setIfInBounds_toArray, List.set_cons_zero, List.set_cons_succ, i64_w, i32_w]
         rfl
        refine take_ (i := 14) (N := some 71) (v := ?_) (a' := ?_) #[true, true, true, true, true, true, true, true, true, true, true, true, true, true, true, false, true, false, false, false, false, false, false, false, false, false, false, false, false, false, false, false, false, false, false, false, false, false, false, false, false, false, false, false, false, false, false, false, false, false, false, false, false, false, false, false, false, false] rfl rfl (take_ofW HT_.out HW_.out (by kernel_rfl)) (fun _ _ _ h => h) (Or.inl ⟨by rfl, ?_⟩) hHeld ?_ ?_
        rotate_left
        ·rintro w' ⟨s0, s1, s2, s3, s4, s5, s6, s7, s8, s9, s10, s11, s12, s13, s14, s15⟩
         go_simp
         with_reducible rfl
        rotate_left
        ·simp only [Act.put, List.setIfInBounds_toArray, List.set_cons_zero, List.set_cons_succ, i64_w, i32_w]
         rfl
        refine take_ (i := 17) (N := some 74) (v := ?_) (a' := ?_) #[true, true, true, true, true, true, true, true, true, true, true, true, true, true, true, false, true, true, false, false, false, false, false, false, false, false, false, false, false, false, false, false, false, false, false, false, false, false, false, false, false, false, false, false, false, false, false, false, false, false, false, false, false, false, false, false, false, false] rfl rfl (take_ofW HT_.out HW_.out (by kernel_rfl)) (fun _ _ _ h => h) (Or.inl ⟨by rfl, ?_⟩) hHeld ?_ ?_
        rotate_left
        ·rintro w' ⟨s0, s1, s2, s3, s4, s5, s6, s7, s8, s9, s10, s11, s12, s13, s14, s15⟩
         go_simp
         with_reducible rfl
        rotate_left
        ·simp only [Act.put, List.setIfInBounds_toArray, List.set_cons_zero, List.set_cons_succ, i64_w, i32_w]
         rfl
        refine take_ (i := 18) (N := some 75) (v := ?_) (a' := ?_) #[true, true, true, true, true, true, true, true, true, true, true, true, true, true, true, false, true, true, true, false, false, false, false, false, false, false, false, false, false, false, false, false, false, false, false, false, false, false, false, false, false, false, false, false, false, false, false, false, false, false, false, false, false, false, false, false, false, false] rfl rfl (take_ofW HT_.out HW_.out (by kernel_rfl)) (fun _ _ _ h => h) (Or.inl ⟨by rfl, ?_⟩) hHeld ?_ ?_
        rotate_left
        ·rintro w' ⟨s0, s1, s2, s3, s4, s5, s6, s7, s8, s9, s10, s11, s12, s13, s14, s15⟩
         go_simp
         with_reducible rfl
        rotate_left
        ·simp only [Act.put, List.setIfInBounds_toArray, List.set_cons_zero, List.set_cons_succ, i64_w, i32_w]
         rfl
        refine one_ (i := 15) (N := some 72) #[true, true, true, true, true, true, true, true, true, true, true, true, true, true, true, true, true, true, true, false, false, false, false, false, false, false, false, false, false, false, false, false, false, false, false, false, false, false, false, false, false, false, false, false, false, false, false, false, false, false, false, false, false, false, false, false, false, false] rfl rfl (one_of HT_.out (by kernel_rfl)) (by decide) (fun K hK => ?_)
        refine goes_ Try.func17 (by kernel_rfl) rfl #[.agg #[.int .i64 t649, .int .i64 t650], .agg #[.int .i64 t661, .int .i64 t662]] (by rfl) rfl rfl (by (try simp only [List.map_toArray, List.map_cons, List.map_nil]); first | done | rfl | (simp only [List.length_drop, List.length_take]; rfl)) ?_
        with_reducible refine (pred_Dist2.calls kj7 t649 t650 t661 t662 t670 t671 _ A62.out).mono ?_
        rintro e w75 ⟨rfl, hb⟩
        refine ⟨_, rfl, ?_⟩
        have n0_ := Aside0.mk (blk_below (g := gb646) (o := .cells #[.int .i64 a0_0, .int .i64 a0_1, .int .i64 a0_2, .int .i64 a0_3, .int .i64 a0_4, .int .i64 a0_5] 24 (0, 0)) (bk BK646.out) hb)
        have n1_ := Aside0.mk (blk_below (g := gb647) (o := .cells #[.int .i64 a1_0, .int .i64 a1_1] 23 (0, 0)) (bk BK647.out) hb)
        have n2_ := Aside0.mk (blk_below (g := gb648) (o := .cells #[.int .i64 a2_0, .int .i64 a2_1] 23 (0, 0)) (bk BK648.out) hb)
        have n3_ := Aside0.mk (blk_below (g := gb652) (o := .cells #[.int .i64 t649, .int .i64 t650] 23 (0, 0)) (bk BK652.out) hb)
        have n4_ := Aside0.mk (blk_below (g := gb656) (o := .cells #[.int .i64 t653, .int .i64 t654] 23 (0, 0)) (bk BK656.out) hb)
        have n5_ := Aside0.mk (blk_below (g := gb660) (o := .cells #[.int .i64 t657, .int .i64 t658] 23 (0, 0)) (bk BK660.out) hb)
        have n6_ := Aside0.mk (blk_below (g := gb664) (o := .cells #[.int .i64 t661, .int .i64 t662] 23 (0, 0)) (bk BK664.out) hb)
        have n7_ := Aside0.mk (below_step (by repeat (first | (with_reducible first | exact HB.out | apply below_alloc | apply pw_below_drewN | apply below_drew1 | refine below_set ?_ GE646.out | refine below_set ?_ GE647.out | refine below_set ?_ GE648.out | refine below_set ?_ GE652.out | refine below_set ?_ GE656.out | refine below_set ?_ GE660.out | refine below_set ?_ GE664.out) | exact HB.out)) hb)
        clear BK646
        clear BK647
        clear BK648
        clear BK652
        clear BK656
        clear BK660
        clear BK664
        clear HB
        have BK646 := n0_
        have BK647 := n1_
        have BK648 := n2_
        have BK652 := n3_
        have BK656 := n4_
        have BK660 := n5_
        have BK664 := n6_
        have HB := n7_
        clear n0_ n1_ n2_ n3_ n4_ n5_ n6_ n7_
        (try clear hb)
        (try clear hb2)
        (try clear hk)
        (try clear hi)
        refine hK.out _ _ ⟨(blk_cell BK652.out 0).trans rfl, (blk_cell BK652.out 1).trans rfl, (blk_cell BK656.out 0).trans rfl, (blk_cell BK656.out 1).trans rfl, (blk_cell BK660.out 0).trans rfl, (blk_cell BK660.out 1).trans rfl, (blk_cell BK646.out 0).trans rfl, (blk_cell BK646.out 1).trans rfl, (blk_cell BK646.out 2).trans rfl, (blk_cell BK646.out 3).trans rfl, (blk_cell BK646.out 4).trans rfl, (blk_cell BK646.out 5).trans rfl, (blk_cell BK664.out 0).trans rfl, (blk_cell BK664.out 1).trans rfl, (blk_cell BK647.out 0).trans rfl, (blk_cell BK647.out 1).trans rfl⟩ (fun hHeld => ?_)
        clear hK K
        refine norm_ (a' := ?_) ?_ ?_
        rotate_left
        ·show Act.put _ (some 72) _ = _
         simp only [Act.put, List.setIfInBounds_toArray, List.set_cons_zero, List.set_cons_succ, i64_w, i32_w]
         rfl
        refine one_ (i := 19) (N := some 76) #[true, true, true, true, true, true, true, true, true, true, true, true, true, true, true, true, true, true, true, true, false, false, false, false, false, false, false, false, false, false, false, false, false, false, false, false, false, false, false, false, false, false, false, false, false, false, false, false, false, false, false, false, false, false, false, false, false, false] rfl rfl (one_of HT_.out (by kernel_rfl)) (by decide) (fun K hK => ?_)
        refine goes_ Try.func17 (by kernel_rfl) rfl #[.agg #[.int .i64 a0_0, .int .i64 a0_1], .agg #[.int .i64 a1_0, .int .i64 a1_1]] (by rfl) rfl rfl (by (try simp only [List.map_toArray, List.map_cons, List.map_nil]); first | done | rfl | (simp only [List.length_drop, List.length_take]; rfl)) ?_
        with_reducible refine (pred_Dist2.calls kj7 a0_0 a0_1 a1_0 a1_1 t672 t673 _ A63.out).mono ?_
        rintro e w76 ⟨rfl, hb⟩
        refine ⟨_, rfl, ?_⟩
        have n0_ := Aside0.mk (blk_below (g := gb646) (o := .cells #[.int .i64 a0_0, .int .i64 a0_1, .int .i64 a0_2, .int .i64 a0_3, .int .i64 a0_4, .int .i64 a0_5] 24 (0, 0)) (bk BK646.out) hb)
        have n1_ := Aside0.mk (blk_below (g := gb647) (o := .cells #[.int .i64 a1_0, .int .i64 a1_1] 23 (0, 0)) (bk BK647.out) hb)
        have n2_ := Aside0.mk (blk_below (g := gb648) (o := .cells #[.int .i64 a2_0, .int .i64 a2_1] 23 (0, 0)) (bk BK648.out) hb)
        have n3_ := Aside0.mk (blk_below (g := gb652) (o := .cells #[.int .i64 t649, .int .i64 t650] 23 (0, 0)) (bk BK652.out) hb)
        have n4_ := Aside0.mk (blk_below (g := gb656) (o := .cells #[.int .i64 t653, .int .i64 t654] 23 (0, 0)) (bk BK656.out) hb)
        have n5_ := Aside0.mk (blk_below (g := gb660) (o := .cells #[.int .i64 t657, .int .i64 t658] 23 (0, 0)) (bk BK660.out) hb)
        have n6_ := Aside0.mk (blk_below (g := gb664) (o := .cells #[.int .i64 t661, .int .i64 t662] 23 (0, 0)) (bk BK664.out) hb)
        have n7_ := Aside0.mk (below_step (by repeat (first | (with_reducible first | exact HB.out | apply below_alloc | apply pw_below_drewN | apply below_drew1 | refine below_set ?_ GE646.out | refine below_set ?_ GE647.out | refine below_set ?_ GE648.out | refine below_set ?_ GE652.out | refine below_set ?_ GE656.out | refine below_set ?_ GE660.out | refine below_set ?_ GE664.out) | exact HB.out)) hb)
        clear BK646
        clear BK647
        clear BK648
        clear BK652
        clear BK656
        clear BK660
        clear BK664
        clear HB
        have BK646 := n0_
        have BK647 := n1_
        have BK648 := n2_
        have BK652 := n3_
        have BK656 := n4_
        have BK660 := n5_
        have BK664 := n6_
        have HB := n7_
        clear n0_ n1_ n2_ n3_ n4_ n5_ n6_ n7_
        (try clear hb)
        (try clear hb2)
        (try clear hk)
        (try clear hi)
        refine hK.out _ _ ⟨(blk_cell BK652.out 0).trans rfl, (blk_cell BK652.out 1).trans rfl, (blk_cell BK656.out 0).trans rfl, (blk_cell BK656.out 1).trans rfl, (blk_cell BK660.out 0).trans rfl, (blk_cell BK660.out 1).trans rfl, (blk_cell BK646.out 0).trans rfl, (blk_cell BK646.out 1).trans rfl, (blk_cell BK646.out 2).trans rfl, (blk_cell BK646.out 3).trans rfl, (blk_cell BK646.out 4).trans rfl, (blk_cell BK646.out 5).trans rfl, (blk_cell BK664.out 0).trans rfl, (blk_cell BK664.out 1).trans rfl, (blk_cell BK647.out 0).trans rfl, (blk_cell BK647.out 1).trans rfl⟩ (fun hHeld => ?_)
        clear hK K
        refine norm_ (a' := ?_) ?_ ?_
        rotate_left
        ·show Act.put _ (some 76) _ = _
         simp only [Act.put, List.setIfInBounds_toArray, List.set_cons_zero, List.set_cons_succ, i64_w, i32_w]
         rfl
        refine pure_ (i := 20) (N := some 77) (v := ?_) (a' := ?_) #[true, true, true, true, true, true, true, true, true, true, true, true, true, true, true, true, true, true, true, true, true, false, false, false, false, false, false, false, false, false, false, false, false, false, false, false, false, false, false, false, false, false, false, false, false, false, false, false, false, false, false, false, false, false, false, false, false, false] rfl rfl (any_of HT_.out (by kernel_rfl)) (fun _ _ _ h => h) (Or.inl ⟨by rfl, ?_⟩) ?_ ?_
        rotate_left
        ·intro w'
         go_simp
         with_reducible rfl
        rotate_left
        ·simp only [Act.put, List.setIfInBounds_toArray, List.set_cons_zero, List.set_cons_succ, i64_w, i32_w]
         rfl
        refine pure_ (i := 21) (N := some 78) (v := ?_) (a' := ?_) #[true, true, true, true, true, true, true, true, true, true, true, true, true, true, true, true, true, true, true, true, true, true, false, false, false, false, false, false, false, false, false, false, false, false, false, false, false, false, false, false, false, false, false, false, false, false, false, false, false, false, false, false, false, false, false, false, false, false] rfl rfl (any_of HT_.out (by kernel_rfl)) (fun _ _ _ h => h) (Or.inl ⟨by rfl, ?_⟩) ?_ ?_
        rotate_left
        ·intro w'
         go_simp
         with_reducible rfl
        rotate_left
        ·simp only [Act.put, List.setIfInBounds_toArray, List.set_cons_zero, List.set_cons_succ, i64_w, i32_w]
         rfl
        refine pure_ (i := 22) (N := some 79) (v := ?_) (a' := ?_) #[true, true, true, true, true, true, true, true, true, true, true, true, true, true, true, true, true, true, true, true, true, true, true, false, false, false, false, false, false, false, false, false, false, false, false, false, false, false, false, false, false, false, false, false, false, false, false, false, false, false, false, false, false, false, false, false, false, false] rfl rfl (any_of HT_.out (by kernel_rfl)) (fun _ _ _ h => h) (Or.inl ⟨by rfl, ?_⟩) ?_ ?_
        rotate_left
        ·intro w'
         go_simp
         with_reducible rfl
        rotate_left
        ·simp only [Act.put, List.setIfInBounds_toArray, List.set_cons_zero, List.set_cons_succ, i64_w, i32_w]
         rfl
        refine pure_ (i := 28) (N := some 85) (v := ?_) (a' := ?_) #[true, true, true, true, true, true, true, true, true, true, true, true, true, true, true, true, true, true, true, true, true, true, true, false, false, false, false, false, true, false, false, false, false, false, false, false, false, false, false, false, false, false, false, false, false, false, false, false, false, false, false, false, false, false, false, false, false, false] rfl rfl (any_of HT_.out (by kernel_rfl)) (fun _ _ _ h => h) (Or.inl ⟨by rfl, ?_⟩) ?_ ?_
        rotate_left
        ·intro w'
         go_simp
         with_reducible rfl
        rotate_left
        ·simp only [Act.put, List.setIfInBounds_toArray, List.set_cons_zero, List.set_cons_succ, i64_w, i32_w]
         rfl
        refine pure_ (i := 30) (N := some 87) (v := ?_) (a' := ?_) #[true, true, true, true, true, true, true, true, true, true, true, true, true, true, true, true, true, true, true, true, true, true, true, false, false, false, false, false, true, false, true, false, false, false, false, false, false, false, false, false, false, false, false, false, false, false, false, false, false, false, false, false, false, false, false, false, false, false] rfl rfl (any_of HT_.out (by kernel_rfl)) (fun _ _ _ h => h) (Or.inl ⟨by rfl, ?_⟩) ?_ ?_
        rotate_left
        ·intro w'
         go_simp
         with_reducible rfl
        rotate_left
        ·simp only [Act.put, List.setIfInBounds_toArray, List.set_cons_zero, List.set_cons_succ, i64_w, i32_w]
         rfl
        refine pure_ (i := 32) (N := some 89) (v := ?_) (a' := ?_) #[true, true, true, true, true, true, true, true, true, true, true, true, true, true, true, true, true, true, true, true, true, true, true, false, false, false, false, false, true, false, true, false, true, false, false, false, false, false, false, false, false, false, false, false, false, false, false, false, false, false, false, false, false, false, false, false, false, false] rfl rfl (any_of HT_.out (by kernel_rfl)) (fun _ _ _ h => h) (Or.inl ⟨by rfl, ?_⟩) ?_ ?_
        rotate_left
        ·intro w'
         go_simp
         with_reducible rfl
        rotate_left
        ·simp only [Act.put, List.setIfInBounds_toArray, List.set_cons_zero, List.set_cons_succ, i64_w, i32_w]
         rfl
        refine take_ (i := 23) (N := some 80) (v := ?_) (a' := ?_) #[true, true, true, true, true, true, true, true, true, true, true, true, true, true, true, true, true, true, true, true, true, true, true, true, false, false, false, false, true, false, true, false, true, false, false, false, false, false, false, false, false, false, false, false, false, false, false, false, false, false, false, false, false, false, false, false, false, false] rfl rfl (take_ofW HT_.out HW_.out (by kernel_rfl)) (fun _ _ _ h => h) (Or.inl ⟨by rfl, ?_⟩) hHeld ?_ ?_
        rotate_left
        ·rintro w' ⟨s0, s1, s2, s3, s4, s5, s6, s7, s8, s9, s10, s11, s12, s13, s14, s15⟩
         go_simp
         with_reducible rfl
        rotate_left
        ·simp only [Act.put, List.setIfInBounds_toArray, List.set_cons_zero, List.set_cons_succ, i64_w, i32_w]
         rfl
        refine take_ (i := 24) (N := some 81) (v := ?_) (a' := ?_) #[true, true, true, true, true, true, true, true, true, true, true, true, true, true, true, true, true, true, true, true, true, true, true, true, true, false, false, false, true, false, true, false, true, false, false, false, false, false, false, false, false, false, false, false, false, false, false, false, false, false, false, false, false, false, false, false, false, false] rfl rfl (take_ofW HT_.out HW_.out (by kernel_rfl)) (fun _ _ _ h => h) (Or.inl ⟨by rfl, ?_⟩) hHeld ?_ ?_
        rotate_left
        ·rintro w' ⟨s0, s1, s2, s3, s4, s5, s6, s7, s8, s9, s10, s11, s12, s13, s14, s15⟩
         go_simp
         with_reducible rfl
        rotate_left
        ·simp only [Act.put, List.setIfInBounds_toArray, List.set_cons_zero, List.set_cons_succ, i64_w, i32_w]
         rfl
        refine take_ (i := 25) (N := some 82) (v := ?_) (a' := ?_) #[true, true, true, true, true, true, true, true, true, true, true, true, true, true, true, true, true, true, true, true, true, true, true, true, true, true, false, false, true, false, true, false, true, false, false, false, false, false, false, false, false, false, false, false, false, false, false, false, false, false, false, false, false, false, false, false, false, false] rfl rfl (take_ofW HT_.out HW_.out (by kernel_rfl)) (fun _ _ _ h => h) (Or.inl ⟨by rfl, ?_⟩) hHeld ?_ ?_
        rotate_left
        ·rintro w' ⟨s0, s1, s2, s3, s4, s5, s6, s7, s8, s9, s10, s11, s12, s13, s14, s15⟩
         go_simp
         with_reducible rfl
        rotate_left
        ·simp only [Act.put, List.setIfInBounds_toArray, List.set_cons_zero, List.set_cons_succ, i64_w, i32_w]
         rfl
        refine take_ (i := 26) (N := some 83) (v := ?_) (a' := ?_) #[true, true, true, true, true, true, true, true, true, true, true, true, true, true, true, true, true, true, true, true, true, true, true, true, true, true, true, false, true, false, true, false, true, false, false, false, false, false, false, false, false, false, false, false, false, false, false, false, false, false, false, false, false, false, false, false, false, false] rfl rfl (take_ofW HT_.out HW_.out (by kernel_rfl)) (fun _ _ _ h => h) (Or.inl ⟨by rfl, ?_⟩) hHeld ?_ ?_
        rotate_left
        ·rintro w' ⟨s0, s1, s2, s3, s4, s5, s6, s7, s8, s9, s10, s11, s12, s13, s14, s15⟩
         go_simp
         with_reducible rfl
        rotate_left
        ·simp only [Act.put, List.setIfInBounds_toArray, List.set_cons_zero, List.set_cons_succ, i64_w, i32_w]
         rfl
        refine take_ (i := 29) (N := some 86) (v := ?_) (a' := ?_) #[true, true, true, true, true, true, true, true, true, true, true, true, true, true, true, true, true, true, true, true, true, true, true, true, true, true, true, false, true, true, true, false, true, false, false, false, false, false, false, false, false, false, false, false, false, false, false, false, false, false, false, false, false, false, false, false, false, false] rfl rfl (take_ofW HT_.out HW_.out (by kernel_rfl)) (fun _ _ _ h => h) (Or.inl ⟨by rfl, ?_⟩) hHeld ?_ ?_
        rotate_left
        ·rintro w' ⟨s0, s1, s2, s3, s4, s5, s6, s7, s8, s9, s10, s11, s12, s13, s14, s15⟩
         go_simp
         with_reducible rfl
        rotate_left
        ·simp only [Act.put, List.setIfInBounds_toArray, List.set_cons_zero, List.set_cons_succ, i64_w, i32_w]
         rfl
        refine take_ (i := 31) (N := some 88) (v := ?_) (a' := ?_) #[true, true, true, true, true, true, true, true, true, true, true, true, true, true, true, true, true, true, true, true, true, true, true, true, true, true, true, false, true, true, true, true, true, false, false, false, false, false, false, false, false, false, false, false, false, false, false, false, false, false, false, false, false, false, false, false, false, false] rfl rfl (take_ofW HT_.out HW_.out (by kernel_rfl)) (fun _ _ _ h => h) (Or.inl ⟨by rfl, ?_⟩) hHeld ?_ ?_
        rotate_left
        ·rintro w' ⟨s0, s1, s2, s3, s4, s5, s6, s7, s8, s9, s10, s11, s12, s13, s14, s15⟩
         go_simp
         with_reducible rfl
        rotate_left
        ·simp only [Act.put, List.setIfInBounds_toArray, List.set_cons_zero, List.set_cons_succ, i64_w, i32_w]
         rfl
        refine take_ (i := 33) (N := some 90) (v := ?_) (a' := ?_) #[true, true, true, true, true, true, true, true, true, true, true, true, true, true, true, true, true, true, true, true, true, true, true, true, true, true, true, false, true, true, true, true, true, true, false, false, false, false, false, false, false, false, false, false, false, false, false, false, false, false, false, false, false, false, false, false, false, false] rfl rfl (take_ofW HT_.out HW_.out (by kernel_rfl)) (fun _ _ _ h => h) (Or.inl ⟨by rfl, ?_⟩) hHeld ?_ ?_
        rotate_left
        ·rintro w' ⟨s0, s1, s2, s3, s4, s5, s6, s7, s8, s9, s10, s11, s12, s13, s14, s15⟩
         go_simp
         with_reducible rfl
        rotate_left
        ·simp only [Act.put, List.setIfInBounds_toArray, List.set_cons_zero, List.set_cons_succ, i64_w, i32_w]
         rfl
        refine take_ (i := 34) (N := some 91) (v := ?_) (a' := ?_) #[true, true, true, true, true, true, true, true, true, true, true, true, true, true, true, true, true, true, true, true, true, true, true, true, true, true, true, false, true, true, true, true, true, true, true, false, false, false, false, false, false, false, false, false, false, false, false, false, false, false, false, false, false, false, false, false, false, false] rfl rfl (take_ofW HT_.out HW_.out (by kernel_rfl)) (fun _ _ _ h => h) (Or.inl ⟨by rfl, ?_⟩) hHeld ?_ ?_
        rotate_left
        ·rintro w' ⟨s0, s1, s2, s3, s4, s5, s6, s7, s8, s9, s10, s11, s12, s13, s14, s15⟩
         go_simp
         with_reducible rfl
        rotate_left
        ·simp only [Act.put, List.setIfInBounds_toArray, List.set_cons_zero, List.set_cons_succ, i64_w, i32_w]
         rfl
        refine one_ (i := 27) (N := some 84) #[true, true, true, true, true, true, true, true, true, true, true, true, true, true, true, true, true, true, true, true, true, true, true, true, true, true, true, true, true, true, true, true, true, true, true, false, false, false, false, false, false, false, false, false, false, false, false, false, false, false, false, false, false, false, false, false, false, false] rfl rfl (one_of HT_.out (by kernel_rfl)) (by decide) (fun K hK => ?_)
        refine goes_ Try.func8 (by kernel_rfl) rfl #[.agg #[.int .i64 t649, .int .i64 t650], .agg #[.int .i64 t653, .int .i64 t654], .agg #[.int .i64 t657, .int .i64 t658], .agg #[.int .i64 t661, .int .i64 t662]] (by rfl) rfl rfl (by (try simp only [List.map_toArray, List.map_cons, List.map_nil]); first | done | rfl | (simp only [List.length_drop, List.length_take]; rfl)) ?_
        with_reducible refine (pred_InCircle.calls kj7 t649 t650 t653 t654 t657 t658 t661 t662 t674 _ A65.out).mono ?_
        rintro e w77 ⟨rfl, hb⟩
        refine ⟨_, rfl, ?_⟩
        have n0_ := Aside0.mk (blk_below (g := gb646) (o := .cells #[.int .i64 a0_0, .int .i64 a0_1, .int .i64 a0_2, .int .i64 a0_3, .int .i64 a0_4, .int .i64 a0_5] 24 (0, 0)) (bk BK646.out) hb)
        have n1_ := Aside0.mk (blk_below (g := gb647) (o := .cells #[.int .i64 a1_0, .int .i64 a1_1] 23 (0, 0)) (bk BK647.out) hb)
        have n2_ := Aside0.mk (blk_below (g := gb648) (o := .cells #[.int .i64 a2_0, .int .i64 a2_1] 23 (0, 0)) (bk BK648.out) hb)
        have n3_ := Aside0.mk (blk_below (g := gb652) (o := .cells #[.int .i64 t649, .int .i64 t650] 23 (0, 0)) (bk BK652.out) hb)
        have n4_ := Aside0.mk (blk_below (g := gb656) (o := .cells #[.int .i64 t653, .int .i64 t654] 23 (0, 0)) (bk BK656.out) hb)
        have n5_ := Aside0.mk (blk_below (g := gb660) (o := .cells #[.int .i64 t657, .int .i64 t658] 23 (0, 0)) (bk BK660.out) hb)
        have n6_ := Aside0.mk (blk_below (g := gb664) (o := .cells #[.int .i64 t661, .int .i64 t662] 23 (0, 0)) (bk BK664.out) hb)
        have n7_ := Aside0.mk (below_step (by repeat (first | (with_reducible first | exact HB.out | apply below_alloc | apply pw_below_drewN | apply below_drew1 | refine below_set ?_ GE646.out | refine below_set ?_ GE647.out | refine below_set ?_ GE648.out | refine below_set ?_ GE652.out | refine below_set ?_ GE656.out | refine below_set ?_ GE660.out | refine below_set ?_ GE664.out) | exact HB.out)) hb)
        clear BK646
        clear BK647
        clear BK648
        clear BK652
        clear BK656
        clear BK660
        clear BK664
        clear HB
        have BK646 := n0_
        have BK647 := n1_
        have BK648 := n2_
        have BK652 := n3_
        have BK656 := n4_
        have BK660 := n5_
        have BK664 := n6_
        have HB := n7_
        clear n0_ n1_ n2_ n3_ n4_ n5_ n6_ n7_
        (try clear hb)
        (try clear hb2)
        (try clear hk)
        (try clear hi)
        refine hK.out _ _ ⟨(blk_cell BK652.out 0).trans rfl, (blk_cell BK652.out 1).trans rfl, (blk_cell BK656.out 0).trans rfl, (blk_cell BK656.out 1).trans rfl, (blk_cell BK660.out 0).trans rfl, (blk_cell BK660.out 1).trans rfl, (blk_cell BK646.out 0).trans rfl, (blk_cell BK646.out 1).trans rfl, (blk_cell BK646.out 2).trans rfl, (blk_cell BK646.out 3).trans rfl, (blk_cell BK646.out 4).trans rfl, (blk_cell BK646.out 5).trans rfl, (blk_cell BK664.out 0).trans rfl, (blk_cell BK664.out 1).trans rfl, (blk_cell BK647.out 0).trans rfl, (blk_cell BK647.out 1).trans rfl⟩ (fun hHeld => ?_)
        clear hK K
        refine norm_ (a' := ?_) ?_ ?_
        rotate_left
        ·show Act.put _ (some 84) _ = _
         simp only [Act.put, List.setIfInBounds_toArray, List.set_cons_zero, List.set_cons_succ, i64_w, i32_w]
         rfl
        refine one_ (i := 35) (N := some 92) #[true, true, true, true, true, true, true, true, true, true, true, true, true, true, true, true, true, true, true, true, true, true, true, true, true, true, true, true, true, true, true, true, true, true, true, true, false, false, false, false, false, false, false, false, false, false, false, false, false, false, false, false, false, false, false, false, false, false] rfl rfl (one_of HT_.out (by kernel_rfl)) (by decide) (fun K hK => ?_)
        refine goes_ Try.func8 (by kernel_rfl) rfl #[.agg #[.int .i64 a0_0, .int .i64 a0_1], .agg #[.int .i64 a0_2, .int .i64 a0_3], .agg #[.int .i64 a0_4, .int .i64 a0_5], .agg #[.int .i64 a1_0, .int .i64 a1_1]] (by rfl) rfl rfl (by (try simp only [List.map_toArray, List.map_cons, List.map_nil]); first | done | rfl | (simp only [List.length_drop, List.length_take]; rfl)) ?_
        with_reducible refine (pred_InCircle.calls kj7 a0_0 a0_1 a0_2 a0_3 a0_4 a0_5 a1_0 a1_1 t675 _ A66.out).mono ?_
        rintro e w78 ⟨rfl, hb⟩
        refine ⟨_, rfl, ?_⟩
        have n0_ := Aside0.mk (blk_below (g := gb646) (o := .cells #[.int .i64 a0_0, .int .i64 a0_1, .int .i64 a0_2, .int .i64 a0_3, .int .i64 a0_4, .int .i64 a0_5] 24 (0, 0)) (bk BK646.out) hb)
        have n1_ := Aside0.mk (blk_below (g := gb647) (o := .cells #[.int .i64 a1_0, .int .i64 a1_1] 23 (0, 0)) (bk BK647.out) hb)
        have n2_ := Aside0.mk (blk_below (g := gb648) (o := .cells #[.int .i64 a2_0, .int .i64 a2_1] 23 (0, 0)) (bk BK648.out) hb)
        have n3_ := Aside0.mk (blk_below (g := gb652) (o := .cells #[.int .i64 t649, .int .i64 t650] 23 (0, 0)) (bk BK652.out) hb)
        have n4_ := Aside0.mk (blk_below (g := gb656) (o := .cells #[.int .i64 t653, .int .i64 t654] 23 (0, 0)) (bk BK656.out) hb)
        have n5_ := Aside0.mk (blk_below (g := gb660) (o := .cells #[.int .i64 t657, .int .i64 t658] 23 (0, 0)) (bk BK660.out) hb)
        have n6_ := Aside0.mk (blk_below (g := gb664) (o := .cells #[.int .i64 t661, .int .i64 t662] 23 (0, 0)) (bk BK664.out) hb)
        have n7_ := Aside0.mk (below_step (by repeat (first | (with_reducible first | exact HB.out | apply below_alloc | apply pw_below_drewN | apply below_drew1 | refine below_set ?_ GE646.out | refine below_set ?_ GE647.out | refine below_set ?_ GE648.out | refine below_set ?_ GE652.out | refine below_set ?_ GE656.out | refine below_set ?_ GE660.out | refine below_set ?_ GE664.out) | exact HB.out)) hb)
        clear BK646
        clear BK647
        clear BK648
        clear BK652
        clear BK656
        clear BK660
        clear BK664
        clear HB
        have BK646 := n0_
        have BK647 := n1_
        have BK648 := n2_
        have BK652 := n3_
        have BK656 := n4_
        have BK660 := n5_
        have BK664 := n6_
        have HB := n7_
        clear n0_ n1_ n2_ n3_ n4_ n5_ n6_ n7_
        (try clear hb)
        (try clear hb2)
        (try clear hk)
        (try clear hi)
        refine hK.out _ _ ⟨(blk_cell BK652.out 0).trans rfl, (blk_cell BK652.out 1).trans rfl, (blk_cell BK656.out 0).trans rfl, (blk_cell BK656.out 1).trans rfl, (blk_cell BK660.out 0).trans rfl, (blk_cell BK660.out 1).trans rfl, (blk_cell BK646.out 0).trans rfl, (blk_cell BK646.out 1).trans rfl, (blk_cell BK646.out 2).trans rfl, (blk_cell BK646.out 3).trans rfl, (blk_cell BK646.out 4).trans rfl, (blk_cell BK646.out 5).trans rfl, (blk_cell BK664.out 0).trans rfl, (blk_cell BK664.out 1).trans rfl, (blk_cell BK647.out 0).trans rfl, (blk_cell BK647.out 1).trans rfl⟩ (fun hHeld => ?_)
        clear hK K
        refine norm_ (a' := ?_) ?_ ?_
        rotate_left
        ·show Act.put _ (some 92) _ = _
         simp only [Act.put, List.setIfInBounds_toArray, List.set_cons_zero, List.set_cons_succ, i64_w, i32_w]
         rfl
        refine pure_ (i := 36) (N := some 93) (v := ?_) (a' := ?_) #[true, true, true, true, true, true, true, true, true, true, true, true, true, true, true, true, true, true, true, true, true, true, true, true, true, true, true, true, true, true, true, true, true, true, true, true, true, false, false, false, false, false, false, false, false, false, false, false, false, false, false, false, false, false, false, false, false, false] rfl rfl (any_of HT_.out (by kernel_rfl)) (fun _ _ _ h => h) (Or.inl ⟨by rfl, ?_⟩) ?_ ?_
        rotate_left
        ·intro w'
         go_simp
         with_reducible rfl
        rotate_left
        ·simp only [Act.put, List.setIfInBounds_toArray, List.set_cons_zero, List.set_cons_succ, i64_w, i32_w]
         rfl
        refine pure_ (i := 37) (N := some 94) (v := ?_) (a' := ?_) #[true, true, true, true, true, true, true, true, true, true, true, true, true, true, true, true, true, true, true, true, true, true, true, true, true, true, true, true, true, true, true, true, true, true, true, true, true, true, false, false, false, false, false, false, false, false, false, false, false, false, false, false, false, false, false, false, false, false] rfl rfl (any_of HT_.out (by kernel_rfl)) (fun _ _ _ h => h) (Or.inl ⟨by rfl, ?_⟩) ?_ ?_
        rotate_left
        ·intro w'
         go_simp
         with_reducible rfl
        rotate_left
        ·simp only [Act.put, List.setIfInBounds_toArray, List.set_cons_zero, List.set_cons_succ, i64_w, i32_w]
         rfl
        refine pure_ (i := 38) (N := some 95) (v := ?_) (a' := ?_) #[true, true, true, true, true, true, true, true, true, true, true, true, true, true, true, true, true, true, true, true, true, true, true, true, true, true, true, true, true, true, true, true, true, true, true, true, true, true, true, false, false, false, false, false, false, false, false, false, false, false, false, false, false, false, false, false, false, false] rfl rfl (any_of HT_.out (by kernel_rfl)) (fun _ _ _ h => h) (Or.inl ⟨by rfl, ?_⟩) ?_ ?_
        rotate_left
        ·intro w'
         go_simp
         with_reducible rfl
        rotate_left
        ·simp only [Act.put, List.setIfInBounds_toArray, List.set_cons_zero, List.set_cons_succ, i64_w, i32_w]
         rfl
        refine pure_ (i := 44) (N := some 101) (v := ?_) (a' := ?_) #[true, true, true, true, true, true, true, true, true, true, true, true, true, true, true, true, true, true, true, true, true, true, true, true, true, true, true, true, true, true, true, true, true, true, true, true, true, true, true, false, false, false, false, false, true, false, false, false, false, false, false, false, false, false, false, false, false, false] rfl rfl (any_of HT_.out (by kernel_rfl)) (fun _ _ _ h => h) (Or.inl ⟨by rfl, ?_⟩) ?_ ?_
        rotate_left
        ·intro w'
         go_simp
         with_reducible rfl
        rotate_left
        ·simp only [Act.put, List.setIfInBounds_toArray, List.set_cons_zero, List.set_cons_succ, i64_w, i32_w]
         rfl
        refine pure_ (i := 46) (N := some 103) (v := ?_) (a' := ?_) #[true, true, true, true, true, true, true, true, true, true, true, true, true, true, true, true, true, true, true, true, true, true, true, true, true, true, true, true, true, true, true, true, true, true, true, true, true, true, true, false, false, false, false, false, true, false, true, false, false, false, false, false, false, false, false, false, false, false] rfl rfl (any_of HT_.out (by kernel_rfl)) (fun _ _ _ h => h) (Or.inl ⟨by rfl, ?_⟩) ?_ ?_
        rotate_left
        ·intro w'
         go_simp
         with_reducible rfl
        rotate_left
        ·simp only [Act.put, List.setIfInBounds_toArray, List.set_cons_zero, List.set_cons_succ, i64_w, i32_w]
         rfl
        refine pure_ (i := 48) (N := some 105) (v := ?_) (a' := ?_) #[true, true, true, true, true, true, true, true, true, true, true, true, true, true, true, true, true, true, true, true, true, true, true, true, true, true, true, true, true, true, true, true, true, true, true, true, true, true, true, false, false, false, false, false, true, false, true, false, true, false, false, false, false, false, false, false, false, false] rfl rfl (any_of HT_.out (by kernel_rfl)) (fun _ _ _ h => h) (Or.inl ⟨by rfl, ?_⟩) ?_ ?_
        rotate_left
        ·intro w'
         go_simp
         with_reducible rfl
        rotate_left
        ·simp only [Act.put, List.setIfInBounds_toArray, List.set_cons_zero, List.set_cons_succ, i64_w, i32_w]
         rfl
        refine take_ (i := 39) (N := some 96) (v := ?_) (a' := ?_) #[true, true, true, true, true, true, true, true, true, true, true, true, true, true, true, true, true, true, true, true, true, true, true, true, true, true, true, true, true, true, true, true, true, true, true, true, true, true, true, true, false, false, false, false, true, false, true, false, true, false, false, false, false, false, false, false, false, false] rfl rfl (take_ofW HT_.out HW_.out (by kernel_rfl)) (fun _ _ _ h => h) (Or.inl ⟨by rfl, ?_⟩) hHeld ?_ ?_
        rotate_left
        ·rintro w' ⟨s0, s1, s2, s3, s4, s5, s6, s7, s8, s9, s10, s11, s12, s13, s14, s15⟩
         go_simp
         with_reducible rfl
        rotate_left
        ·simp only [Act.put, List.setIfInBounds_toArray, List.set_cons_zero, List.set_cons_succ, i64_w, i32_w]
         rfl
        refine take_ (i := 40) (N := some 97) (v := ?_) (a' := ?_) #[true, true, true, true, true, true, true, true, true, true, true, true, true, true, true, true, true, true, true, true, true, true, true, true, true, true, true, true, true, true, true, true, true, true, true, true, true, true, true, true, true, false, false, false, true, false, true, false, true, false, false, false, false, false, false, false, false, false] rfl rfl (take_ofW HT_.out HW_.out (by kernel_rfl)) (fun _ _ _ h => h) (Or.inl ⟨by rfl, ?_⟩) hHeld ?_ ?_
        rotate_left
        ·rintro w' ⟨s0, s1, s2, s3, s4, s5, s6, s7, s8, s9, s10, s11, s12, s13, s14, s15⟩
         go_simp
         with_reducible rfl
        rotate_left
        ·simp only [Act.put, List.setIfInBounds_toArray, List.set_cons_zero, List.set_cons_succ, i64_w, i32_w]
         rfl
        refine take_ (i := 41) (N := some 98) (v := ?_) (a' := ?_) #[true, true, true, true, true, true, true, true, true, true, true, true, true, true, true, true, true, true, true, true, true, true, true, true, true, true, true, true, true, true, true, true, true, true, true, true, true, true, true, true, true, true, false, false, true, false, true, false, true, false, false, false, false, false, false, false, false, false] rfl rfl (take_ofW HT_.out HW_.out (by kernel_rfl)) (fun _ _ _ h => h) (Or.inl ⟨by rfl, ?_⟩) hHeld ?_ ?_
        rotate_left
        ·rintro w' ⟨s0, s1, s2, s3, s4, s5, s6, s7, s8, s9, s10, s11, s12, s13, s14, s15⟩
         go_simp
         with_reducible rfl
        rotate_left
        ·simp only [Act.put, List.setIfInBounds_toArray, List.set_cons_zero, List.set_cons_succ, i64_w, i32_w]
         rfl
        refine take_ (i := 42) (N := some 99) (v := ?_) (a' := ?_) #[true, true, true, true, true, true, true, true, true, true, true, true, true, true, true, true, true, true, true, true, true, true, true, true, true, true, true, true, true, true, true, true, true, true, true, true, true, true, true, true, true, true, true, false, true, false, true, false, true, false, false, false, false, false, false, false, false, false] rfl rfl (take_ofW HT_.out HW_.out (by kernel_rfl)) (fun _ _ _ h => h) (Or.inl ⟨by rfl, ?_⟩) hHeld ?_ ?_
        rotate_left
        ·rintro w' ⟨s0, s1, s2, s3, s4, s5, s6, s7, s8, s9, s10, s11, s12, s13, s14, s15⟩
         go_simp
         with_reducible rfl
        rotate_left
        ·simp only [Act.put, List.setIfInBounds_toArray, List.set_cons_zero, List.set_cons_succ, i64_w, i32_w]
         rfl
        refine take_ (i := 45) (N := some 102) (v := ?_) (a' := ?_) #[true, true, true, true, true, true, true, true, true, true, true, true, true, true, true, true, true, true, true, true, true, true, true, true, true, true, true, true, true, true, true, true, true, true, true, true, true, true, true, true, true, true, true, false, true, true, true, false, true, false, false, false, false, false, false, false, false, false] rfl rfl (take_ofW HT_.out HW_.out (by kernel_rfl)) (fun _ _ _ h => h) (Or.inl ⟨by rfl, ?_⟩) hHeld ?_ ?_
        rotate_left
        ·rintro w' ⟨s0, s1, s2, s3, s4, s5, s6, s7, s8, s9, s10, s11, s12, s13, s14, s15⟩
         go_simp
         with_reducible rfl
        rotate_left
        ·simp only [Act.put, List.setIfInBounds_toArray, List.set_cons_zero, List.set_cons_succ, i64_w, i32_w]
         rfl
        refine take_ (i := 47) (N := some 104) (v := ?_) (a' := ?_) #[true, true, true, true, true, true, true, true, true, true, true, true, true, true, true, true, true, true, true, true, true, true, true, true, true, true, true, true, true, true, true, true, true, true, true, true, true, true, true, true, true, true, true, false, true, true, true, true, true, false, false, false, false, false, false, false, false, false] rfl rfl (take_ofW HT_.out HW_.out (by kernel_rfl)) (fun _ _ _ h => h) (Or.inl ⟨by rfl, ?_⟩) hHeld ?_ ?_
        rotate_left
        ·rintro w' ⟨s0, s1, s2, s3, s4, s5, s6, s7, s8, s9, s10, s11, s12, s13, s14, s15⟩
         go_simp
         with_reducible rfl
        rotate_left
        ·simp only [Act.put, List.setIfInBounds_toArray, List.set_cons_zero, List.set_cons_succ, i64_w, i32_w]
         rfl
        refine take_ (i := 49) (N := some 106) (v := ?_) (a' := ?_) #[true, true, true, true, true, true, true, true, true, true, true, true, true, true, true, true, true, true, true, true, true, true, true, true, true, true, true, true, true, true, true, true, true, true, true, true, true, true, true, true, true, true, true, false, true, true, true, true, true, true, false, false, false, false, false, false, false, false] rfl rfl (take_ofW HT_.out HW_.out (by kernel_rfl)) (fun _ _ _ h => h) (Or.inl ⟨by rfl, ?_⟩) hHeld ?_ ?_
        rotate_left
        ·rintro w' ⟨s0, s1, s2, s3, s4, s5, s6, s7, s8, s9, s10, s11, s12, s13, s14, s15⟩
         go_simp
         with_reducible rfl
        rotate_left
        ·simp only [Act.put, List.setIfInBounds_toArray, List.set_cons_zero, List.set_cons_succ, i64_w, i32_w]
         rfl
        refine take_ (i := 50) (N := some 107) (v := ?_) (a' := ?_) #[true, true, true, true, true, true, true, true, true, true, true, true, true, true, true, true, true, true, true, true, true, true, true, true, true, true, true, true, true, true, true, true, true, true, true, true, true, true, true, true, true, true, true, false, true, true, true, true, true, true, true, false, false, false, false, false, false, false] rfl rfl (take_ofW HT_.out HW_.out (by kernel_rfl)) (fun _ _ _ h => h) (Or.inl ⟨by rfl, ?_⟩) hHeld ?_ ?_
        rotate_left
        ·rintro w' ⟨s0, s1, s2, s3, s4, s5, s6, s7, s8, s9, s10, s11, s12, s13, s14, s15⟩
         go_simp
         with_reducible rfl
        rotate_left
        ·simp only [Act.put, List.setIfInBounds_toArray, List.set_cons_zero, List.set_cons_succ, i64_w, i32_w]
         rfl
        refine one_ (i := 43) (N := some 100) #[true, true, true, true, true, true, true, true, true, true, true, true, true, true, true, true, true, true, true, true, true, true, true, true, true, true, true, true, true, true, true, true, true, true, true, true, true, true, true, true, true, true, true, true, true, true, true, true, true, true, true, false, false, false, false, false, false, false] rfl rfl (one_of HT_.out (by kernel_rfl)) (by decide) (fun K hK => ?_)
        refine goes_ Try.func12 (by kernel_rfl) rfl #[.agg #[.int .i64 t649, .int .i64 t650], .agg #[.int .i64 t653, .int .i64 t654], .agg #[.int .i64 t657, .int .i64 t658], .agg #[.int .i64 t661, .int .i64 t662]] (by rfl) rfl rfl (by (try simp only [List.map_toArray, List.map_cons, List.map_nil]); first | done | rfl | (simp only [List.length_drop, List.length_take]; rfl)) ?_
        with_reducible refine (pred_Where.calls kj7 t649 t650 t653 t654 t657 t658 t661 t662 t676 _ A68.out).mono ?_
        rintro e w79 ⟨rfl, hb⟩
        refine ⟨_, rfl, ?_⟩
        have n0_ := Aside0.mk (blk_below (g := gb646) (o := .cells #[.int .i64 a0_0, .int .i64 a0_1, .int .i64 a0_2, .int .i64 a0_3, .int .i64 a0_4, .int .i64 a0_5] 24 (0, 0)) (bk BK646.out) hb)
        have n1_ := Aside0.mk (blk_below (g := gb647) (o := .cells #[.int .i64 a1_0, .int .i64 a1_1] 23 (0, 0)) (bk BK647.out) hb)
        have n2_ := Aside0.mk (blk_below (g := gb648) (o := .cells #[.int .i64 a2_0, .int .i64 a2_1] 23 (0, 0)) (bk BK648.out) hb)
        have n3_ := Aside0.mk (blk_below (g := gb652) (o := .cells #[.int .i64 t649, .int .i64 t650] 23 (0, 0)) (bk BK652.out) hb)
        have n4_ := Aside0.mk (blk_below (g := gb656) (o := .cells #[.int .i64 t653, .int .i64 t654] 23 (0, 0)) (bk BK656.out) hb)
        have n5_ := Aside0.mk (blk_below (g := gb660) (o := .cells #[.int .i64 t657, .int .i64 t658] 23 (0, 0)) (bk BK660.out) hb)
        have n6_ := Aside0.mk (blk_below (g := gb664) (o := .cells #[.int .i64 t661, .int .i64 t662] 23 (0, 0)) (bk BK664.out) hb)
        have n7_ := Aside0.mk (below_step (by repeat (first | (with_reducible first | exact HB.out | apply below_alloc | apply pw_below_drewN | apply below_drew1 | refine below_set ?_ GE646.out | refine below_set ?_ GE647.out | refine below_set ?_ GE648.out | refine below_set ?_ GE652.out | refine below_set ?_ GE656.out | refine below_set ?_ GE660.out | refine below_set ?_ GE664.out) | exact HB.out)) hb)
        clear BK646
        clear BK647
        clear BK648
        clear BK652
        clear BK656
        clear BK660
        clear BK664
        clear HB
        have BK646 := n0_
        have BK647 := n1_
        have BK648 := n2_
        have BK652 := n3_
        have BK656 := n4_
        have BK660 := n5_
        have BK664 := n6_
        have HB := n7_
        clear n0_ n1_ n2_ n3_ n4_ n5_ n6_ n7_
        (try clear hb)
        (try clear hb2)
        (try clear hk)
        (try clear hi)
        refine hK.out _ _ ⟨(blk_cell BK652.out 0).trans rfl, (blk_cell BK652.out 1).trans rfl, (blk_cell BK656.out 0).trans rfl, (blk_cell BK656.out 1).trans rfl, (blk_cell BK660.out 0).trans rfl, (blk_cell BK660.out 1).trans rfl, (blk_cell BK646.out 0).trans rfl, (blk_cell BK646.out 1).trans rfl, (blk_cell BK646.out 2).trans rfl, (blk_cell BK646.out 3).trans rfl, (blk_cell BK646.out 4).trans rfl, (blk_cell BK646.out 5).trans rfl, (blk_cell BK664.out 0).trans rfl, (blk_cell BK664.out 1).trans rfl, (blk_cell BK647.out 0).trans rfl, (blk_cell BK647.out 1).trans rfl⟩ (fun hHeld => ?_)
        clear hK K
        refine norm_ (a' := ?_) ?_ ?_
        rotate_left
        ·show Act.put _ (some 100) _ = _
         simp only [Act.put, List.setIfInBounds_toArray, List.set_cons_zero, List.set_cons_succ, i64_w, i32_w]
         rfl
        refine one_ (i := 51) (N := some 108) #[true, true, true, true, true, true, true, true, true, true, true, true, true, true, true, true, true, true, true, true, true, true, true, true, true, true, true, true, true, true, true, true, true, true, true, true, true, true, true, true, true, true, true, true, true, true, true, true, true, true, true, true, false, false, false, false, false, false] rfl rfl (one_of HT_.out (by kernel_rfl)) (by decide) (fun K hK => ?_)
        refine goes_ Try.func12 (by kernel_rfl) rfl #[.agg #[.int .i64 a0_0, .int .i64 a0_1], .agg #[.int .i64 a0_2, .int .i64 a0_3], .agg #[.int .i64 a0_4, .int .i64 a0_5], .agg #[.int .i64 a1_0, .int .i64 a1_1]] (by rfl) rfl rfl (by (try simp only [List.map_toArray, List.map_cons, List.map_nil]); first | done | rfl | (simp only [List.length_drop, List.length_take]; rfl)) ?_
        with_reducible refine (pred_Where.calls kj7 a0_0 a0_1 a0_2 a0_3 a0_4 a0_5 a1_0 a1_1 t677 _ A69.out).mono ?_
        rintro e w80 ⟨rfl, hb⟩
        refine ⟨_, rfl, ?_⟩
        have n0_ := Aside0.mk (blk_below (g := gb646) (o := .cells #[.int .i64 a0_0, .int .i64 a0_1, .int .i64 a0_2, .int .i64 a0_3, .int .i64 a0_4, .int .i64 a0_5] 24 (0, 0)) (bk BK646.out) hb)
        have n1_ := Aside0.mk (blk_below (g := gb647) (o := .cells #[.int .i64 a1_0, .int .i64 a1_1] 23 (0, 0)) (bk BK647.out) hb)
        have n2_ := Aside0.mk (blk_below (g := gb648) (o := .cells #[.int .i64 a2_0, .int .i64 a2_1] 23 (0, 0)) (bk BK648.out) hb)
        have n3_ := Aside0.mk (blk_below (g := gb652) (o := .cells #[.int .i64 t649, .int .i64 t650] 23 (0, 0)) (bk BK652.out) hb)
        have n4_ := Aside0.mk (blk_below (g := gb656) (o := .cells #[.int .i64 t653, .int .i64 t654] 23 (0, 0)) (bk BK656.out) hb)
        have n5_ := Aside0.mk (blk_below (g := gb660) (o := .cells #[.int .i64 t657, .int .i64 t658] 23 (0, 0)) (bk BK660.out) hb)
        have n6_ := Aside0.mk (blk_below (g := gb664) (o := .cells #[.int .i64 t661, .int .i64 t662] 23 (0, 0)) (bk BK664.out) hb)
        have n7_ := Aside0.mk (below_step (by repeat (first | (with_reducible first | exact HB.out | apply below_alloc | apply pw_below_drewN | apply below_drew1 | refine below_set ?_ GE646.out | refine below_set ?_ GE647.out | refine below_set ?_ GE648.out | refine below_set ?_ GE652.out | refine below_set ?_ GE656.out | refine below_set ?_ GE660.out | refine below_set ?_ GE664.out) | exact HB.out)) hb)
        clear BK646
        clear BK647
        clear BK648
        clear BK652
        clear BK656
        clear BK660
        clear BK664
        clear HB
        have BK646 := n0_
        have BK647 := n1_
        have BK648 := n2_
        have BK652 := n3_
        have BK656 := n4_
        have BK660 := n5_
        have BK664 := n6_
        have HB := n7_
        clear n0_ n1_ n2_ n3_ n4_ n5_ n6_ n7_
        (try clear hb)
        (try clear hb2)
        (try clear hk)
        (try clear hi)
        refine hK.out _ _ ⟨(blk_cell BK652.out 0).trans rfl, (blk_cell BK652.out 1).trans rfl, (blk_cell BK656.out 0).trans rfl, (blk_cell BK656.out 1).trans rfl, (blk_cell BK660.out 0).trans rfl, (blk_cell BK660.out 1).trans rfl, (blk_cell BK646.out 0).trans rfl, (blk_cell BK646.out 1).trans rfl, (blk_cell BK646.out 2).trans rfl, (blk_cell BK646.out 3).trans rfl, (blk_cell BK646.out 4).trans rfl, (blk_cell BK646.out 5).trans rfl, (blk_cell BK664.out 0).trans rfl, (blk_cell BK664.out 1).trans rfl, (blk_cell BK647.out 0).trans rfl, (blk_cell BK647.out 1).trans rfl⟩ (fun hHeld => ?_)
        clear hK K
        refine norm_ (a' := ?_) ?_ ?_
        rotate_left
        ·show Act.put _ (some 108) _ = _
         simp only [Act.put, List.setIfInBounds_toArray, List.set_cons_zero, List.set_cons_succ, i64_w, i32_w]
         rfl
        refine pure_ (i := 52) (N := some 109) (v := ?_) (a' := ?_) #[true, true, true, true, true, true, true, true, true, true, true, true, true, true, true, true, true, true, true, true, true, true, true, true, true, true, true, true, true, true, true, true, true, true, true, true, true, true, true, true, true, true, true, true, true, true, true, true, true, true, true, true, true, false, false, false, false, false] rfl rfl (any_of HT_.out (by kernel_rfl)) (fun _ _ _ h => h) (Or.inl ⟨by rfl, ?_⟩) ?_ ?_
        rotate_left
        ·intro w'
         go_simp
         with_reducible rfl
        rotate_left
        ·simp only [Act.put, List.setIfInBounds_toArray, List.set_cons_zero, List.set_cons_succ, i64_w, i32_w]
         rfl
        refine pure_ (i := 53) (N := some 110) (v := ?_) (a' := ?_) #[true, true, true, true, true, true, true, true, true, true, true, true, true, true, true, true, true, true, true, true, true, true, true, true, true, true, true, true, true, true, true, true, true, true, true, true, true, true, true, true, true, true, true, true, true, true, true, true, true, true, true, true, true, true, false, false, false, false] rfl rfl (any_of HT_.out (by kernel_rfl)) (fun _ _ _ h => h) (Or.inl ⟨by rfl, ?_⟩) ?_ ?_
        rotate_left
        ·intro w'
         go_simp
         with_reducible rfl
        rotate_left
        ·simp only [Act.put, List.setIfInBounds_toArray, List.set_cons_zero, List.set_cons_succ, i64_w, i32_w]
         rfl
        refine pure_ (i := 54) (N := some 111) (v := ?_) (a' := ?_) #[true, true, true, true, true, true, true, true, true, true, true, true, true, true, true, true, true, true, true, true, true, true, true, true, true, true, true, true, true, true, true, true, true, true, true, true, true, true, true, true, true, true, true, true, true, true, true, true, true, true, true, true, true, true, true, false, false, false] rfl rfl (any_of HT_.out (by kernel_rfl)) (fun _ _ _ h => h) (Or.inl ⟨by rfl, ?_⟩) ?_ ?_
        rotate_left
        ·intro w'
         go_simp
         with_reducible rfl
        rotate_left
        ·simp only [Act.put, List.setIfInBounds_toArray, List.set_cons_zero, List.set_cons_succ, i64_w, i32_w]
         rfl
        refine one_ (i := 55) (N := some 112) #[true, true, true, true, true, true, true, true, true, true, true, true, true, true, true, true, true, true, true, true, true, true, true, true, true, true, true, true, true, true, true, true, true, true, true, true, true, true, true, true, true, true, true, true, true, true, true, true, true, true, true, true, true, true, true, true, false, false] rfl rfl (one_of HT_.out (by kernel_rfl)) (by decide) (fun K hK => ?_)
        refine goes_ Try.func10 (by kernel_rfl) rfl #[] (by rfl) rfl rfl (by (try simp only [List.map_toArray, List.map_cons, List.map_nil]); first | done | rfl | (simp only [List.length_drop, List.length_take]; rfl)) ?_
        with_reducible refine (zelligelaw07_lives.calls kj7  true _ A71.out).mono ?_
        rintro e w81 ⟨rfl, hb⟩
        refine ⟨_, rfl, ?_⟩
        have n0_ := Aside0.mk (blk_below (g := gb646) (o := .cells #[.int .i64 a0_0, .int .i64 a0_1, .int .i64 a0_2, .int .i64 a0_3, .int .i64 a0_4, .int .i64 a0_5] 24 (0, 0)) (bk BK646.out) hb)
        have n1_ := Aside0.mk (blk_below (g := gb647) (o := .cells #[.int .i64 a1_0, .int .i64 a1_1] 23 (0, 0)) (bk BK647.out) hb)
        have n2_ := Aside0.mk (blk_below (g := gb648) (o := .cells #[.int .i64 a2_0, .int .i64 a2_1] 23 (0, 0)) (bk BK648.out) hb)
        have n3_ := Aside0.mk (blk_below (g := gb652) (o := .cells #[.int .i64 t649, .int .i64 t650] 23 (0, 0)) (bk BK652.out) hb)
        have n4_ := Aside0.mk (blk_below (g := gb656) (o := .cells #[.int .i64 t653, .int .i64 t654] 23 (0, 0)) (bk BK656.out) hb)
        have n5_ := Aside0.mk (blk_below (g := gb660) (o := .cells #[.int .i64 t657, .int .i64 t658] 23 (0, 0)) (bk BK660.out) hb)
        have n6_ := Aside0.mk (blk_below (g := gb664) (o := .cells #[.int .i64 t661, .int .i64 t662] 23 (0, 0)) (bk BK664.out) hb)
        have n7_ := Aside0.mk (below_step (by repeat (first | (with_reducible first | exact HB.out | apply below_alloc | apply pw_below_drewN | apply below_drew1 | refine below_set ?_ GE646.out | refine below_set ?_ GE647.out | refine below_set ?_ GE648.out | refine below_set ?_ GE652.out | refine below_set ?_ GE656.out | refine below_set ?_ GE660.out | refine below_set ?_ GE664.out) | exact HB.out)) hb)
        clear BK646
        clear BK647
        clear BK648
        clear BK652
        clear BK656
        clear BK660
        clear BK664
        clear HB
        have BK646 := n0_
        have BK647 := n1_
        have BK648 := n2_
        have BK652 := n3_
        have BK656 := n4_
        have BK660 := n5_
        have BK664 := n6_
        have HB := n7_
        clear n0_ n1_ n2_ n3_ n4_ n5_ n6_ n7_
        (try clear hb)
        (try clear hb2)
        (try clear hk)
        (try clear hi)
        refine hK.out _ _ ⟨(blk_cell BK652.out 0).trans rfl, (blk_cell BK652.out 1).trans rfl, (blk_cell BK656.out 0).trans rfl, (blk_cell BK656.out 1).trans rfl, (blk_cell BK660.out 0).trans rfl, (blk_cell BK660.out 1).trans rfl, (blk_cell BK646.out 0).trans rfl, (blk_cell BK646.out 1).trans rfl, (blk_cell BK646.out 2).trans rfl, (blk_cell BK646.out 3).trans rfl, (blk_cell BK646.out 4).trans rfl, (blk_cell BK646.out 5).trans rfl, (blk_cell BK664.out 0).trans rfl, (blk_cell BK664.out 1).trans rfl, (blk_cell BK647.out 0).trans rfl, (blk_cell BK647.out 1).trans rfl⟩ (fun hHeld => ?_)
        clear hK K
        refine norm_ (a' := ?_) ?_ ?_
        rotate_left
        ·show Act.put _ (some 112) _ = _
         simp only [Act.put, List.setIfInBounds_toArray, List.set_cons_zero, List.set_cons_succ, i64_w, i32_w]
         rfl
        refine pure_ (i := 56) (N := some 113) (v := ?_) (a' := ?_) #[true, true, true, true, true, true, true, true, true, true, true, true, true, true, true, true, true, true, true, true, true, true, true, true, true, true, true, true, true, true, true, true, true, true, true, true, true, true, true, true, true, true, true, true, true, true, true, true, true, true, true, true, true, true, true, true, true, false] rfl rfl (any_of HT_.out (by kernel_rfl)) (fun _ _ _ h => h) (Or.inl ⟨by rfl, ?_⟩) ?_ ?_
        rotate_left
        ·intro w'
         go_simp
         with_reducible rfl
        rotate_left
        ·simp only [Act.put, List.setIfInBounds_toArray, List.set_cons_zero, List.set_cons_succ, i64_w, i32_w]
         rfl
        refine pure_ (i := 57) (N := some 6) (v := ?_) (a' := ?_) #[true, true, true, true, true, true, true, true, true, true, true, true, true, true, true, true, true, true, true, true, true, true, true, true, true, true, true, true, true, true, true, true, true, true, true, true, true, true, true, true, true, true, true, true, true, true, true, true, true, true, true, true, true, true, true, true, true, true] rfl rfl (any_of HT_.out (by kernel_rfl)) (fun _ _ _ h => h) (Or.inl ⟨by rfl, ?_⟩) ?_ ?_
        rotate_left
        ·intro w'
         go_simp
         with_reducible rfl
        rotate_left
        ·simp only [Act.put, List.setIfInBounds_toArray, List.set_cons_zero, List.set_cons_succ, i64_w, i32_w]
         rfl
        refine done_ (done_of HT_.out (by kernel_rfl)) ?_
        try go_wp2
        go_ret
        exact ⟨by first | rfl | (simp [errW_none, errW_some] <;> rfl) | (simp [*, errW_none, errW_some] <;> rfl), by repeat (first | (with_reducible first | exact HB.out | apply below_alloc | apply pw_below_drewN | apply below_drew1 | refine below_set ?_ GE646.out | refine below_set ?_ GE647.out | refine below_set ?_ GE648.out | refine below_set ?_ GE652.out | refine below_set ?_ GE656.out | refine below_set ?_ GE660.out | refine below_set ?_ GE664.out) | exact HB.out)⟩
       ·rw [if_neg c70] at H
        have c70b0 : (t676 == t677) = false := beq_eq_false_iff_ne.mpr c70
        have c70b1 : (t676 != t677) = true := bne_iff_ne.mpr c70
        exact absurd (Option.some.inj H) (by decide)
      ·rw [if_neg c67] at H
       have c67b0 : (t674 == t675) = false := beq_eq_false_iff_ne.mpr c67
       have c67b1 : (t674 != t675) = true := bne_iff_ne.mpr c67
       exact absurd (Option.some.inj H) (by decide)
     ·rw [if_neg c64] at H
      have c64b0 : (t670 == t672 && (t671 == t673)) = false := by simpa using c64
      (try (have c64b1 : decide (t670 = t672 && (t671 == t673)) = false := by simpa using c64))
      (try (have c64b2 : (t670 == t672 && (t671 == t673)) = false := by simpa using c64))
      (try (have c64b3 : ¬ (t670 = t672 && (t671 == t673)) := by simpa using c64))
      clear c64
      exact absurd (Option.some.inj H) (by decide)
    ·rw [if_neg c61] at H
     have c61b0 : (t666 == t668 && (t667 == t669)) = false := by simpa using c61
     (try (have c61b1 : decide (t666 = t668 && (t667 == t669)) = false := by simpa using c61))
     (try (have c61b2 : (t666 == t668 && (t667 == t669)) = false := by simpa using c61))
     (try (have c61b3 : ¬ (t666 = t668 && (t667 == t669)) := by simpa using c61))
     clear c61
     exact absurd (Option.some.inj H) (by decide)
end Go.Proofs.Ytmeckkckjikjiaa.F
end
section
namespace Go.Proofs.Ytmeckkckjikjiaa.Pd
open Go Go.RowKit Go.Proofs.YtmeckkckjikjiaaW.PrintWords Go.Proofs.Ytmeckkckjikjiaa.F Go.Proofs.Ytmeckkckjikjiaa.Wd Go.Proofs.Ytmeckkckjikjiaa.Pm
set_option linter.unusedVariables false
theorem rcan_f {a b : Int} (ha : -9223372036854775808 ≤ a ∧ a ≤ 9223372036854775807) (hb : -9223372036854775808 ≤ b ∧ b ≤ 9223372036854775807) : zelligeref06_Can.f a b = some (decide (CoP a b)) := by
 unfold zelligeref06_Can.f
 rw [if_pos ⟨ha, hb⟩]
theorem w64_in (x : Int) : -9223372036854775808 ≤ wrap64 x ∧ wrap64 x ≤ 9223372036854775807 := by unfold wrap64; omega
theorem Area2_f (a0 a1 b0 b1 c0 c1 : Int) {k : Nat} (hk : 2000 ≤ k) : pred_Area2.f k a0 a1 b0 b1 c0 c1 = some (if CoP a0 a1 ∧ CoP b0 b1 ∧ CoP c0 c1 then (whi (ar a0 a1 b0 b1 c0 c1), wlo (ar a0 a1 b0 b1 c0 c1)) else (0, 0)) := by
 unfold pred_Area2.f
 rw [can3 _ _ _ _ _ _ hk, Option.bind_some]
 by_cases h : CoP a0 a1 ∧ CoP b0 b1 ∧ CoP c0 c1
 ·obtain ⟨ha, hb, hc⟩ := h
  rw [if_pos (decide_eq_true ⟨ha, hb, hc⟩), way_f ha hb, Option.bind_some, way_f ha hc, Option.bind_some, across_f (hb.1.way ha.1) (hb.2.way ha.2) (hc.1.way ha.1) (hc.2.way ha.2), Option.bind_some, if_pos ⟨ha, hb, hc⟩]
  rfl
 ·rw [if_neg (by rw [decide_eq_true_eq]; exact h), if_neg h]
theorem Dist2_f (a0 a1 b0 b1 : Int) {k : Nat} (hk : 2000 ≤ k) : pred_Dist2.f k a0 a1 b0 b1 = some (if CoP a0 a1 ∧ CoP b0 b1 then (whi (ds a0 a1 b0 b1), wlo (ds a0 a1 b0 b1)) else (0, 0)) := by
 unfold pred_Dist2.f
 rw [can2 _ _ _ _ hk, Option.bind_some]
 by_cases h : CoP a0 a1 ∧ CoP b0 b1
 ·obtain ⟨ha, hb⟩ := h
  rw [if_pos (decide_eq_true ⟨ha, hb⟩), way_f ha hb, Option.bind_some, square_f (hb.1.way ha.1) (hb.2.way ha.2), Option.bind_some, if_pos ⟨ha, hb⟩]
  rfl
 ·rw [if_neg (by rw [decide_eq_true_eq]; exact h), if_neg h]
theorem moved_f {a b p q : Int} (ha : -9223372036854775808 ≤ a ∧ a ≤ 9223372036854775807) (hb : -9223372036854775808 ≤ b ∧ b ≤ 9223372036854775807) (hp : -9223372036854775808 ≤ p ∧ p ≤ 9223372036854775807) (hq : -9223372036854775808 ≤ q ∧ q ≤ 9223372036854775807) :
  ∃ x y m, zelligelaw07_moved.f a b p q = some (x, y, m) ∧ (m = true → CoP a b ∧ x = a + p ∧ y = b + q ∧ CoP (a + p) (b + q)) := by
 unfold zelligelaw07_moved.f
 rw [rcan_f ha hb, Option.bind_some]
 by_cases h : CoP a b
 ·rw [if_pos (decide_eq_true h), rcan_f hp hq, Option.bind_some]
  by_cases g : CoP p q
  ·rw [if_pos (decide_eq_true g), rcan_f (w64_in _) (w64_in _), Option.bind_some]
   have e1 : wrap64 (a + p) = a + p := p64 (by unfold CoP Co at *; omega)
   have e2 : wrap64 (b + q) = b + q := p64 (by unfold CoP Co at *; omega)
   rw [e1, e2]
   exact ⟨_, _, _, rfl, fun hm => ⟨h, rfl, rfl, of_decide_eq_true hm⟩⟩
  ·rw [if_neg (by rw [decide_eq_true_eq]; exact g)]
   exact ⟨_, _, _, rfl, fun hm => by cases hm⟩
 ·rw [if_neg (by rw [decide_eq_true_eq]; exact h)]
  exact ⟨_, _, _, rfl, fun hm => by cases hm⟩
theorem two_eq {x y : Int × Int} (h : x = y) : (x.1 == y.1 && (x.2 == y.2)) = true := by subst h; simp
theorem wh_move {a0 a1 b0 b1 c0 c1 d0 d1 p q : Int} (ha : CoP a0 a1) (hb : CoP b0 b1) (hc : CoP c0 c1) (hd : CoP d0 d1) (ga : CoP (a0 + p) (a1 + q)) (gb : CoP (b0 + p) (b1 + q)) (gc : CoP (c0 + p) (c1 + q)) (gd : CoP (d0 + p) (d1 + q)) :
  whS (a0 + p) (a1 + q) (b0 + p) (b1 + q) (c0 + p) (c1 + q) (d0 + p) (d1 + q) = whS a0 a1 b0 b1 c0 c1 d0 d1 := by
 unfold whS
 rw [ar_move, ar_move, ar_move, ar_move]
 by_cases h : 0 < ar a0 a1 b0 b1 c0 c1
 ·rw [if_pos (show (CoP (a0 + p) (a1 + q) ∧ CoP (b0 + p) (b1 + q) ∧ CoP (c0 + p) (c1 + q) ∧ CoP (d0 + p) (d1 + q)) ∧ 0 < ar a0 a1 b0 b1 c0 c1 from ⟨⟨ga, gb, gc, gd⟩, h⟩), if_pos (show (CoP a0 a1 ∧ CoP b0 b1 ∧ CoP c0 c1 ∧ CoP d0 d1) ∧ 0 < ar a0 a1 b0 b1 c0 c1 from ⟨⟨ha, hb, hc, hd⟩, h⟩)]
 ·rw [if_neg (fun x => h x.2), if_neg (fun x => h x.2)]
theorem moves_j0 (k : Nat) (hk : 2000 ≤ k) {a0 a1 b0 b1 c0 c1 d0 d1 p q : Int} (m : Bool) (x0 x1 y0 y1 z0 z1 t0 t1 : Int)
  (H : m = false → (CoP a0 a1 ∧ x0 = a0 + p ∧ x1 = a1 + q ∧ CoP (a0 + p) (a1 + q)) ∧ (CoP b0 b1 ∧ y0 = b0 + p ∧ y1 = b1 + q ∧ CoP (b0 + p) (b1 + q)) ∧ (CoP c0 c1 ∧ z0 = c0 + p ∧ z1 = c1 + q ∧ CoP (c0 + p) (c1 + q)) ∧ (CoP d0 d1 ∧ t0 = d0 + p ∧ t1 = d1 + q ∧ CoP (d0 + p) (d1 + q))) :
  zelligelaw07_PredMoves.j0 (k + 1) m a0 a1 b0 b1 c0 c1 d0 d1 x0 x1 y0 y1 z0 z1 t0 t1 = some true := by
 cases m
 ·obtain ⟨⟨ha, rfl, rfl, ga⟩, ⟨hb, rfl, rfl, gb⟩, ⟨hc, rfl, rfl, gc⟩, ⟨hd, rfl, rfl, gd⟩⟩ := H rfl
  have e1 : icS (a0 + p) (a1 + q) (b0 + p) (b1 + q) (c0 + p) (c1 + q) (d0 + p) (d1 + q) = icS a0 a1 b0 b1 c0 c1 d0 d1 := by
   unfold icS; rw [dt_move, if_pos ⟨ga, gb, gc, gd⟩, if_pos ⟨ha, hb, hc, hd⟩]
  rw [zelligelaw07_PredMoves.j0, if_neg (by decide), Area2_f _ _ _ _ _ _ hk, Option.bind_some, Area2_f _ _ _ _ _ _ hk, Option.bind_some, if_pos (two_eq (by rw [if_pos ⟨ga, gb, gc⟩, if_pos ⟨ha, hb, hc⟩, ar_move])), Dist2_f _ _ _ _ hk, Option.bind_some, Dist2_f _ _ _ _ hk, Option.bind_some, if_pos (two_eq (by rw [if_pos ⟨ga, gd⟩, if_pos ⟨ha, hd⟩, ds_move])),
   InCircle_f _ _ _ _ _ _ _ _ hk, Option.bind_some, InCircle_f _ _ _ _ _ _ _ _ hk, Option.bind_some, if_pos e1, Where_f _ _ _ _ _ _ _ _ hk, Option.bind_some, Where_f _ _ _ _ _ _ _ _ hk, Option.bind_some, if_pos (wh_move ha hb hc hd ga gb gc gd), lives_true hk]
  rfl
 ·rw [zelligelaw07_PredMoves.j0, if_pos rfl, lives_true hk]
  rfl
theorem moves_f {a0 a1 b0 b1 c0 c1 d0 d1 p q : Int} (h0 : -9223372036854775808 ≤ a0 ∧ a0 ≤ 9223372036854775807) (h1 : -9223372036854775808 ≤ a1 ∧ a1 ≤ 9223372036854775807) (h2 : -9223372036854775808 ≤ b0 ∧ b0 ≤ 9223372036854775807) (h3 : -9223372036854775808 ≤ b1 ∧ b1 ≤ 9223372036854775807) (h4 : -9223372036854775808 ≤ c0 ∧ c0 ≤ 9223372036854775807)
  (h5 : -9223372036854775808 ≤ c1 ∧ c1 ≤ 9223372036854775807) (h6 : -9223372036854775808 ≤ d0 ∧ d0 ≤ 9223372036854775807) (h7 : -9223372036854775808 ≤ d1 ∧ d1 ≤ 9223372036854775807) (h8 : -9223372036854775808 ≤ p ∧ p ≤ 9223372036854775807) (h9 : -9223372036854775808 ≤ q ∧ q ≤ 9223372036854775807) :
  zelligelaw07_PredMoves.f 2001 a0 a1 b0 b1 c0 c1 d0 d1 p q = some true := by
 obtain ⟨k, hk⟩ : ∃ k, k + 1 = 2001 := ⟨2000, rfl⟩
 have h : 2000 ≤ k := by omega
 obtain ⟨x0, x1, m1, e1, g1⟩ := moved_f h0 h1 h8 h9
 obtain ⟨y0, y1, m2, e2, g2⟩ := moved_f h2 h3 h8 h9
 obtain ⟨z0, z1, m3, e3, g3⟩ := moved_f h4 h5 h8 h9
 obtain ⟨t0, t1, m4, e4, g4⟩ := moved_f h6 h7 h8 h9
 unfold zelligelaw07_PredMoves.f
 rw [← hk, e1, Option.bind_some, e2, Option.bind_some, e3, Option.bind_some, e4, Option.bind_some]
 cases m1
 ·rw [if_neg (by simp)]
  exact moves_j0 (p := p) (q := q) k h true _ _ _ _ _ _ _ _ (fun x => by cases x)
 ·rw [if_pos rfl]
  cases m2
  ·rw [if_neg (by simp)]
   exact moves_j0 (p := p) (q := q) k h true _ _ _ _ _ _ _ _ (fun x => by cases x)
  ·rw [if_pos rfl]
   cases m3
   ·rw [if_neg (by simp)]
    exact moves_j0 (p := p) (q := q) k h true _ _ _ _ _ _ _ _ (fun x => by cases x)
   ·rw [if_pos rfl]
    exact moves_j0 (p := p) (q := q) k h (!m4) _ _ _ _ _ _ _ _ (fun x => ⟨g1 rfl, g2 rfl, g3 rfl, g4 (by cases m4 <;> simp_all)⟩)
theorem moves_calls (a0_0 a0_1 a0_2 a0_3 a0_4 a0_5 a1_0 a1_1 a2_0 a2_1 : Int) (w : World) (h0_0 : (Lit.int .i64 a0_0).wf = true) (h0_1 : (Lit.int .i64 a0_1).wf = true) (h0_2 : (Lit.int .i64 a0_2).wf = true) (h0_3 : (Lit.int .i64 a0_3).wf = true) (h0_4 : (Lit.int .i64 a0_4).wf = true) (h0_5 : (Lit.int .i64 a0_5).wf = true) (h1_0 : (Lit.int .i64 a1_0).wf = true) (h1_1 : (Lit.int .i64 a1_1).wf = true) (h2_0 : (Lit.int .i64 a2_0).wf = true) (h2_1 : (Lit.int .i64 a2_1).wf = true) :
  Calls Try.prog 7 #[.agg #[.int .i64 a0_0, .int .i64 a0_1, .int .i64 a0_2, .int .i64 a0_3, .int .i64 a0_4, .int .i64 a0_5], .agg #[.int .i64 a1_0, .int .i64 a1_1], .agg #[.int .i64 a2_0, .int .i64 a2_1]] w fun e w' => e = .returned (.bool true) ∧ Below w.heap.size w w' :=
 zelligelaw07_PredMoves.calls 2001 _ _ _ _ _ _ _ _ _ _ w (moves_f (bounds_i64 h0_0) (bounds_i64 h0_1) (bounds_i64 h0_2) (bounds_i64 h0_3) (bounds_i64 h0_4) (bounds_i64 h0_5) (bounds_i64 h1_0) (bounds_i64 h1_1) (bounds_i64 h2_0) (bounds_i64 h2_1))
end Go.Proofs.Ytmeckkckjikjiaa.Pd
end
section
namespace Go.Proofs.Ytmeckkckjikjiaa.RK
open Go Go.ChangeShapes Go.WideShapes Go.ChangeAt Go.RowKit Go.WideElems Go.Maps Go.Deep
variable {H : Type} {enc : TypeId × Value → H} {P : Program}
theorem okWide_array {k e : TypeId} {n : Nat} (hu : P.underlying k = some (.array n e)) {W : World} {r : Reach} {b0 : Nat} {v : Value} (h : Value.okWide P W r b0 k v) : ∃ cs : Array Value, v = .agg cs ∧ cs.size = P.cellsOf k := by
 simp only [Value.okWide, hu] at h
 obtain ⟨cs, h1, h2, _⟩ := h
 exact ⟨cs, h1, h2⟩
theorem list6 {α : Type} {l : List α} (h : l.length = 6) : ∃ a b c d e f, l = [a, b, c, d, e, f] := by
 match l, h with
 | [a, b, c, d, e, f], _ => exact ⟨a, b, c, d, e, f, rfl⟩
theorem cells_two {w : World} {sp : Nat → Bool} {held : Bool} {base fuel : Nat} {e : TypeId} {f0 f1 : Field} {k0 k1 : IntKind} {v0 v1 : Value} {x : DataW H × List MemPlace} (hs : P.underlying e = some (.struct #[f0, f1]))
  (o0 : f0.offset = 0) (o1 : f1.offset = 1) (s0 : P.cellsOf f0.type = 1) (s1 : P.cellsOf f1.type = 1) (h0 : P.underlying f0.type = some (.int k0)) (h1 : P.underlying f1.type = some (.int k1)) (h : DataW.trod enc P w base sp held fuel e [v0, v1] = some x) :
  ∃ a b : Int, v0 = .int k0 a ∧ v1 = .int k1 b ∧ (Lit.int k0 a).wf = true ∧ (Lit.int k1 b).wf = true := by
 obtain ⟨y0, y1, n, _, _, g0, g1⟩ := trod_struct2 hs h
 rw [o0, s0] at g0
 rw [o1, s1] at g1
 obtain ⟨a, ea, _, wa⟩ := DataW.trod_int h0 g0
 obtain ⟨b, eb, _, wb⟩ := DataW.trod_int h1 g1
 simp at ea eb
 exact ⟨a, b, ea, eb, wa, wb⟩
theorem open_pairs3 {w : World} {sp : Nat → Bool} {held : Bool} {r : Reach} {b0 base : Nat} {t e : TypeId} {f0 f1 : Field} {k0 k1 : IntKind} {v : Value} {d : DataW H} {p : List MemPlace} (hu : P.underlying t = some (.array 3 e)) (hs : P.underlying e = some (.struct #[f0, f1]))
  (o0 : f0.offset = 0) (o1 : f1.offset = 1) (s0 : P.cellsOf f0.type = 1) (s1 : P.cellsOf f1.type = 1) (h0 : P.underlying f0.type = some (.int k0)) (h1 : P.underlying f1.type = some (.int k1)) (two : P.cellsOf e = 2) (size : P.cellsOf t = 6)
  (hv : Value.okWide P w r b0 t v) (h : DataW.Trod enc P w base sp held t v d p) :
  ∃ a b a' b' a'' b'' : Int, v = .agg #[.int k0 a, .int k1 b, .int k0 a', .int k1 b', .int k0 a'', .int k1 b''] ∧ (Lit.int k0 a).wf = true ∧ (Lit.int k1 b).wf = true ∧ (Lit.int k0 a').wf = true ∧ (Lit.int k1 b').wf = true ∧ (Lit.int k0 a'').wf = true ∧ (Lit.int k1 b'').wf = true := by
 obtain ⟨cs, rfl, hsz⟩ := okWide_array hu hv
 obtain ⟨l⟩ := cs
 obtain ⟨c0, c1, c2, c3, c4, c5, rfl⟩ := list6 (hsz.trans size)
 obtain ⟨fuel, hf⟩ := h
 cases fuel with
 | zero => simp [DataW.trod] at hf
 | succ n =>
  rw [DataW.trod_step] at hf
  unfold DataW.trodStep at hf
  simp only [hu, Value.cells] at hf
  rw [if_pos (by rw [size]; rfl)] at hf
  simp only [Option.map_eq_some_iff] at hf
  obtain ⟨xs, hx, e1⟩ := hf
  rw [show List.range 3 = [0, 1, 2] from rfl, List.mapM_cons, List.mapM_cons, List.mapM_cons, List.mapM_nil] at hx
  simp only [bind, Option.bind_eq_some_iff, pure, Option.some.injEq, two] at hx
  obtain ⟨y0, g0, _, ⟨y1, g1, _, ⟨y2, g2, _, rfl, rfl⟩, rfl⟩, rfl⟩ := hx
  obtain ⟨a, b, rfl, rfl, wa, wb⟩ := cells_two hs o0 o1 s0 s1 h0 h1 g0
  obtain ⟨a', b', rfl, rfl, wa', wb'⟩ := cells_two hs o0 o1 s0 s1 h0 h1 g1
  obtain ⟨a'', b'', rfl, rfl, wa'', wb''⟩ := cells_two hs o0 o1 s0 s1 h0 h1 g2
  exact ⟨a, b, a', b', a'', b'', rfl, wa, wb, wa', wb', wa'', wb''⟩
end Go.Proofs.Ytmeckkckjikjiaa.RK
end
