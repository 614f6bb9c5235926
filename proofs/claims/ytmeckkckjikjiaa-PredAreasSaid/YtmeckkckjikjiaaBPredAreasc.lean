/- PredAreas: own texts in one (part 3 of 5): contracts of the functions that the law reaches. -/
import Derived.Test.YtmeckkckjikjiaaBPredAreasb

section
namespace Go.Proofs.Ytmeckkckjikjiaa.F
open RowKit YtmeckkckjikjiaaW.PrintWords YtmeckkckjikjiaaW.PrintLast YtmeckkckjikjiaaW.PrintMore
attribute [local go_sem] max2_int min2_int max_two min_two max_three min_three max_four min_four
set_option linter.unusedVariables false
set_option linter.unusedSimpArgs false
def pred_Where.j0 : Nat → Bool → Int → Int → Int → Int → Int → Int → Int → Int → Option (Int)
 | 0, _, _, _, _, _, _, _, _, _ => none
 | k + 1, x23, x355000, x355001, x356000, x356001, x357000, x357001, x358000, x358001 => if x23 = true then (some 0) else ((pred_orient.f x355000 x355001 x356000 x356001 x358000 x358001).bind fun t363 => ((pred_orient.f x356000 x356001 x357000 x357001 x358000 x358001).bind fun t364 => ((pred_orient.f x357000 x357001 x355000 x355001 x358000 x358001).bind fun t365 => (if (mn (mn t363 t364) t365) > 0 then (some 2) else (if (mn (mn t363 t364) t365) = 0 then (some 1) else (some (-1)))))))
def pred_Where.f (k : Nat) (a0_0 : Int) (a0_1 : Int) (a1_0 : Int) (a1_1 : Int) (a2_0 : Int) (a2_1 : Int) (a3_0 : Int) (a3_1 : Int) : Option (Int) := (pred_can.f k (([(⟨a0_0, a0_1⟩ : S23), (⟨a1_0, a1_1⟩ : S23), (⟨a2_0, a2_1⟩ : S23), (⟨a3_0, a3_1⟩ : S23)] : List (S23)))).bind fun t361 => (if t361 = true then ((pred_orient.f a0_0 a0_1 a1_0 a1_1 a2_0 a2_1).bind fun t362 => (pred_Where.j0 k (t362 != 1) a0_0 a0_1 a1_0 a1_1 a2_0 a2_1 a3_0 a3_1)) else (pred_Where.j0 k true a0_0 a0_1 a1_0 a1_1 a2_0 a2_1 a3_0 a3_1))
theorem pred_Where.mono_l : ∀ k, (∀ y0 y1 y2 y3 y4 y5 y6 y7 y8, LeO (pred_Where.j0 k y0 y1 y2 y3 y4 y5 y6 y7 y8) (pred_Where.j0 (k + 1) y0 y1 y2 y3 y4 y5 y6 y7 y8))
 | 0 => fun _ _ _ _ _ _ _ _ _ r h => by simp [pred_Where.j0] at h
 | k + 1 => by
  have ih0 := pred_Where.mono_l k
  ·intro y0 y1 y2 y3 y4 y5 y6 y7 y8
   unfold pred_Where.j0
   repeat' first
   | (with_reducible exact ih0 _ _ _ _ _ _ _ _ _)
   | (with_reducible exact pred_can.mono _ _)
   | (with_reducible exact LeO.refl _)
   | (with_reducible exact LeO.none _)
   | (with_reducible refine LeO.ite ?_ ?_)
   | (with_reducible refine LeO.bind ?_ (fun _ => ?_))
   | exact ih0 _ _ _ _ _ _ _ _ _
   | exact pred_can.mono _ _
   | exact LeO.none _
   | refine LeO.ite ?_ ?_
   | refine LeO.bind ?_ (fun _ => ?_)
theorem pred_Where.mono : ∀ a0 a1 a2 a3 a4 a5 a6 a7 k, LeO (pred_Where.f k a0 a1 a2 a3 a4 a5 a6 a7) (pred_Where.f (k + 1) a0 a1 a2 a3 a4 a5 a6 a7) := by
 intro a0 a1 a2 a3 a4 a5 a6 a7 k
 have ih0 := pred_Where.mono_l k
 unfold pred_Where.f
 repeat' first
   | (with_reducible exact ih0 _ _ _ _ _ _ _ _ _)
   | (with_reducible exact pred_can.mono _ _)
   | (with_reducible exact LeO.refl _)
   | (with_reducible exact LeO.none _)
   | (with_reducible refine LeO.ite ?_ ?_)
   | (with_reducible refine LeO.bind ?_ (fun _ => ?_))
   | exact ih0 _ _ _ _ _ _ _ _ _
   | exact pred_can.mono _ _
   | exact LeO.none _
   | refine LeO.ite ?_ ?_
   | refine LeO.bind ?_ (fun _ => ?_)
def pred_Where.T3 : Bool × List (List Nat × List Nat) := (true, [([], []), ([], []), ([], []), ([0, 1, 2], [0, 1, 2]), ([], []), ([], []), ([], []), ([4, 5, 6, 3], [4, 5, 6]), ([], []), ([], []), ([], []), ([8, 9, 10, 7], [8, 9, 10]), ([3, 7, 11], [3, 7, 11]), ([12, 11, 0, 1, 2, 3, 4, 5, 6, 7, 8, 9, 10, 11, 12], [12])])
def pred_Where.B3 : List Nat := [0, 0, 0, 7, 0, 0, 0, 127, 0, 0, 0, 2047, 4095, 8191]
theorem pred_Where.tab3 : rtab .any (opsOf Try.f12 3) = pred_Where.T3 := by kernel_rfl
theorem pred_Where.bits3 : waitsOk pred_Where.T3.2 pred_Where.B3 = true := by kernel_rfl
set_option maxHeartbeats 8000000 in
set_option maxRecDepth 100000 in
theorem pred_Where.calls (k : Nat) (a0_0 : Int) (a0_1 : Int) (a1_0 : Int) (a1_1 : Int) (a2_0 : Int) (a2_1 : Int) (a3_0 : Int) (a3_1 : Int) (r : Int) (w : World) (h : pred_Where.f k a0_0 a0_1 a1_0 a1_1 a2_0 a2_1 a3_0 a3_1 = some r) :
  Calls Try.prog 12 #[.agg #[.int .i64 a0_0, .int .i64 a0_1], .agg #[.int .i64 a1_0, .int .i64 a1_1], .agg #[.int .i64 a2_0, .int .i64 a2_1], .agg #[.int .i64 a3_0, .int .i64 a3_1]] w fun e w' => e = .returned (.int .i64 r) ∧ Below w.heap.size w w' := by
 have hu23 := Try.underlying23
 have HB := Aside0.mk (Below.refl w.heap.size w)
 have H : ((pred_can.f k (([(⟨a0_0, a0_1⟩ : S23), (⟨a1_0, a1_1⟩ : S23), (⟨a2_0, a2_1⟩ : S23), (⟨a3_0, a3_1⟩ : S23)] : List (S23)))).bind fun t361 => (if t361 = true then ((pred_orient.f a0_0 a0_1 a1_0 a1_1 a2_0 a2_1).bind fun t362 => (pred_Where.j0 k (t362 != 1) a0_0 a0_1 a1_0 a1_1 a2_0 a2_1 a3_0 a3_1)) else (pred_Where.j0 k true a0_0 a0_1 a1_0 a1_1 a2_0 a2_1 a3_0 a3_1))) = some r := h
 clear h
 have HC5 := Aside0.mk H
 clear H
 go_enter Try.func12, Try.ntmps12
 go_upto_region 1 with (first | ((with_reducible refine gate_dst (N := 4) rfl ?_); refine bx 4 #[.int .i64 a0_0, .int .i64 a0_1] 23 ?_; intro gb354 hg w6 hbox hb; have BK354 := Aside0.mk hbox; have GW354 := u3 hg HB; have GE354 := u3 hg HB; replace HB := u2 HB hb; clear hb hbox hg) | ((with_reducible refine gate_dst (N := 5) rfl ?_); refine bx 5 #[.int .i64 a1_0, .int .i64 a1_1] 23 ?_; intro gb355 hg w7 hbox hb; have BK355 := Aside0.mk hbox; have GW355 := u3 hg HB; have GE355 := u3 hg HB; have NB354_355 := u4 hg BK354; have NB355_354 := u5 hg BK354; replace BK354 := u1 BK354 hb; replace HB := u2 HB hb; clear hb hbox hg) | ((with_reducible refine gate_dst (N := 6) rfl ?_); refine bx 6 #[.int .i64 a2_0, .int .i64 a2_1] 23 ?_; intro gb356 hg w8 hbox hb; have BK356 := Aside0.mk hbox; have GW356 := u3 hg HB; have GE356 := u3 hg HB; have NB354_356 := u4 hg BK354; have NB356_354 := u5 hg BK354; have NB355_356 := u4 hg BK355; have NB356_355 := u5 hg BK355; replace BK354 := u1 BK354 hb; replace BK355 := u1 BK355 hb; replace HB := u2 HB hb; clear hb hbox hg) | ((with_reducible refine gate_dst (N := 7) rfl ?_); refine bx 7 #[.int .i64 a3_0, .int .i64 a3_1] 23 ?_; intro gb357 hg w9 hbox hb; have BK357 := Aside0.mk hbox; have GW357 := u3 hg HB; have GE357 := u3 hg HB; have NB354_357 := u4 hg BK354; have NB357_354 := u5 hg BK354; have NB355_357 := u4 hg BK355; have NB357_355 := u5 hg BK355; have NB356_357 := u4 hg BK356; have NB357_356 := u5 hg BK356; replace BK354 := u1 BK354 hb; replace BK355 := u1 BK355 hb; replace BK356 := u1 BK356 hb; replace HB := u2 HB hb; clear hb hbox hg))
 (try simp only [Act.put, List.setIfInBounds_toArray, List.set_cons_zero, List.set_cons_succ])
 go_cut [23] (fun v23 wc => ∃ (kq : Nat) (x23_4 : Bool), v23 = .bool x23_4 ∧ Aside0 (pred_Where.j0 kq x23_4 a0_0 a0_1 a1_0 a1_1 a2_0 a2_1 a3_0 a3_1 = some r) ∧ Aside0 (kq ≤ k) ∧ Aside0 (wc.heap[gb354]? = some (.cells #[.int .i64 a0_0, .int .i64 a0_1] 23 (0, 0))) ∧ Aside0 (wc.heap[gb355]? = some (.cells #[.int .i64 a1_0, .int .i64 a1_1] 23 (0, 0))) ∧ Aside0 (wc.heap[gb356]? = some (.cells #[.int .i64 a2_0, .int .i64 a2_1] 23 (0, 0))) ∧ Aside0 (wc.heap[gb357]? = some (.cells #[.int .i64 a3_0, .int .i64 a3_1] 23 (0, 0))) ∧ Aside0 (Below w.heap.size w wc))
 case first =>
  have H := HC5.out
  clear HC5
  obtain ⟨y358, hy358⟩ : ∃ y_ : List (S23), y_ = (([(⟨a0_0, a0_1⟩ : S23), (⟨a1_0, a1_1⟩ : S23), (⟨a2_0, a2_1⟩ : S23), (⟨a3_0, a3_1⟩ : S23)] : List (S23))) := ⟨_, rfl⟩
  replace H : ((pred_can.f k y358).bind fun t361 => (if t361 = true then ((pred_orient.f a0_0 a0_1 a1_0 a1_1 a2_0 a2_1).bind fun t362 => (pred_Where.j0 k (t362 != 1) a0_0 a0_1 a1_0 a1_1 a2_0 a2_1 a3_0 a3_1)) else (pred_Where.j0 k true a0_0 a0_1 a1_0 a1_1 a2_0 a2_1 a3_0 a3_1))) = some r := by first | (rw [hy358]; with_reducible exact H) | (have H2_ := (Option.bind_some _ _).symm.trans H; rw [hy358]; with_reducible exact H2_) | (have H2_ := (Option.bind_some _ _).symm.trans H; with_reducible exact H2_) | with_reducible exact H | (rw [hy358]; exact H) | exact H
  have Ny358 := Aside0.mk hy358
  clear hy358
  replace H := Option.bind_eq_some_iff.mp H
  obtain ⟨t361, A100, H⟩ := H
  try dsimp only at H
  have A10 := Aside0.mk A100
  clear A100
  by_cases c11 : t361 = true
  ·subst c11
   rw [if_pos rfl] at H
   replace H := Option.bind_eq_some_iff.mp H
   obtain ⟨t362, A120, H⟩ := H
   try dsimp only at H
   have A12 := Aside0.mk A120
   clear A120
   have H' := Aside0.mk H
   clear H
   have hnb13 := NB354_355.out
   have hnc13 := NB355_354.out
   have hnb14 := NB354_356.out
   have hnc14 := NB356_354.out
   have hnb15 := NB354_357.out
   have hnc15 := NB357_354.out
   obtain ⟨hcz16_0, hcz16_1, hfz16_0, hfz16_1⟩ := p2 BK354
   have hnb17 := NB355_356.out
   have hnc17 := NB356_355.out
   have hnb18 := NB355_357.out
   have hnc18 := NB357_355.out
   obtain ⟨hcz19_0, hcz19_1, hfz19_0, hfz19_1⟩ := p2 BK355
   have hnb20 := NB356_357.out
   have hnc20 := NB357_356.out
   obtain ⟨hcz21_0, hcz21_1, hfz21_0, hfz21_1⟩ := p2 BK356
   obtain ⟨hcz22_0, hcz22_1, hfz22_0, hfz22_1⟩ := p2 BK357
   go_wp2_with (first | ((with_reducible refine gate_dst (N := 14) rfl ?_); refine Kd.R_lit k23 _ 23 ?hg (N := 14) ?hd (xs := ([(⟨a0_0, a0_1⟩ : S23), (⟨a1_0, a1_1⟩ : S23), (⟨a2_0, a2_1⟩ : S23), (⟨a3_0, a3_1⟩ : S23)] : List (S23))) (inner := [.int .i64 a0_0, .int .i64 a0_1, .int .i64 a1_0, .int .i64 a1_1, .int .i64 a2_0, .int .i64 a2_1, .int .i64 a3_0, .int .i64 a3_1]) (ok := fun _ => True) (okp := fun _ => True) ?hr ?hp (fun _ hk => hk) trivial (Below.refl _ _) (Nat.le_refl _) (by simp) ?_; (case hd => rfl); (case hg => rfl); (case hr => first | (go_simp; done) | (go_simp; rfl)); (case hp => exact (Reps.c2 (show Kd.M k23 _ _ _ (⟨a0_0, a0_1⟩ : S23) [.int .i64 a0_0, .int .i64 a0_1] from (k23_mkM _ _ _ (⟨a0_0, a0_1⟩ : S23) )) (Reps.c2 (show Kd.M k23 _ _ _ (⟨a1_0, a1_1⟩ : S23) [.int .i64 a1_0, .int .i64 a1_1] from (k23_mkM _ _ _ (⟨a1_0, a1_1⟩ : S23) )) (Reps.c2 (show Kd.M k23 _ _ _ (⟨a2_0, a2_1⟩ : S23) [.int .i64 a2_0, .int .i64 a2_1] from (k23_mkM _ _ _ (⟨a2_0, a2_1⟩ : S23) )) (Reps.c2 (show Kd.M k23 _ _ _ (⟨a3_0, a3_1⟩ : S23) [.int .i64 a3_0, .int .i64 a3_1] from (k23_mkM _ _ _ (⟨a3_0, a3_1⟩ : S23) )) (Reps.none _ _)))))); intro v359 w23 ho24 hb hg_ hnew_; clear hg_ hnew_; (first | rw [← Ny358.out] at ho24 | (simp only [Int.reduceToNat] at ho24; rw [← Ny358.out] at ho24)); have n0_ := Aside0.mk (Kd.R_lower (Kd.R_newB (Kd.R_newB (Kd.R_newB (Kd.R_newB ho24 (bk BK354.out)) (bk BK355.out)) (bk BK356.out)) (bk BK357.out)) (below_size (bw HB.out))); have n1_ := u1 BK354 hb; have n2_ := u1 BK355 hb; have n3_ := u1 BK356 hb; have n4_ := u1 BK357 hb; have n5_ := u2 HB hb; clear BK354; clear BK355; clear BK356; clear BK357; clear HB; have HO360 := n0_; have BK354 := n1_; have BK355 := n2_; have BK356 := n3_; have BK357 := n4_; have HB := n5_; clear n0_ n1_ n2_ n3_ n4_ n5_; clear hb ho24; obtain ⟨Ao25, co25, eo25⟩ := Kd.R_slice HO360.out; subst eo25) | ((with_reducible refine gate_callee (f := 23) rfl ?_); refine gL (some 15) Try.func23 #[.slice Ao25 y358.length co25] rfl ?_; (with_reducible refine (pred_can.calls k _ _ y358 true _ ?side1 ?side2 A10.out).mono ?_); (case side1 => repeat (first | exact (Kd.R_reads' HO360.out).2.2 | (with_reducible refine Kd.C_alloc ?_ _) | (with_reducible refine Kd.C_drewN ?_ _) | (with_reducible refine Kd.C_drew ?_))); (case side2 => exact (Kd.R_reads' HO360.out).2.1); rintro e w26 ⟨rfl, hb⟩; refine ⟨_, rfl, ?_⟩; have n0_ := Aside0.mk (Kd.R_below (by (with_reducible repeat (first | apply Kd.R_alloc | apply Kd.R_drewN | apply Kd.R_drew)); exact HO360.out) hb); have n1_ := u1 BK354 hb; have n2_ := u1 BK355 hb; have n3_ := u1 BK356 hb; have n4_ := u1 BK357 hb; have n5_ := u2 HB hb; clear HO360; clear BK354; clear BK355; clear BK356; clear BK357; clear HB; have HO360 := n0_; have BK354 := n1_; have BK355 := n2_; have BK356 := n3_; have BK357 := n4_; have HB := n5_; clear n0_ n1_ n2_ n3_ n4_ n5_; clear hb; obtain ⟨hcz27_0, hcz27_1, hfz27_0, hfz27_1⟩ := p2 BK354; obtain ⟨hcz28_0, hcz28_1, hfz28_0, hfz28_1⟩ := p2 BK355; obtain ⟨hcz29_0, hcz29_1, hfz29_0, hfz29_1⟩ := p2 BK356) | (go_at_call 38; (with_reducible refine (pred_orient.calls a0_0 a0_1 a1_0 a1_1 a2_0 a2_1 t362 _ A12.out).mono ?_); rintro e w30 ⟨rfl, hb⟩; have n0_ := Aside0.mk (Kd.R_below (by (with_reducible repeat (first | apply Kd.R_alloc | apply Kd.R_drewN | apply Kd.R_drew)); exact HO360.out) hb); have n1_ := u1 BK354 hb; have n2_ := u1 BK355 hb; have n3_ := u1 BK356 hb; have n4_ := u1 BK357 hb; have n5_ := u2 HB hb; clear HO360; clear BK354; clear BK355; clear BK356; clear BK357; clear HB; have HO360 := n0_; have BK354 := n1_; have BK355 := n2_; have BK356 := n3_; have BK357 := n4_; have HB := n5_; clear n0_ n1_ n2_ n3_ n4_ n5_; clear hb))
   go_meet
   case rel => exact ⟨_, ((t362 != 1)), (by first | rfl | (simp; done) | (simp [*]; done)), H', ⟨by first | omega | exact Nat.le_refl _⟩, ⟨bk BK354.out⟩, ⟨bk BK355.out⟩, ⟨bk BK356.out⟩, ⟨bk BK357.out⟩, ⟨bw HB.out⟩⟩
  ·replace c11 := Bool.eq_false_iff.mpr c11
   subst c11
   rw [if_neg (show ¬ (false = true) by decide)] at H
   have H' := Aside0.mk H
   clear H
   have hnb31 := NB354_355.out
   have hnc31 := NB355_354.out
   have hnb32 := NB354_356.out
   have hnc32 := NB356_354.out
   have hnb33 := NB354_357.out
   have hnc33 := NB357_354.out
   obtain ⟨hcz34_0, hcz34_1, hfz34_0, hfz34_1⟩ := p2 BK354
   have hnb35 := NB355_356.out
   have hnc35 := NB356_355.out
   have hnb36 := NB355_357.out
   have hnc36 := NB357_355.out
   obtain ⟨hcz37_0, hcz37_1, hfz37_0, hfz37_1⟩ := p2 BK355
   have hnb38 := NB356_357.out
   have hnc38 := NB357_356.out
   obtain ⟨hcz39_0, hcz39_1, hfz39_0, hfz39_1⟩ := p2 BK356
   obtain ⟨hcz40_0, hcz40_1, hfz40_0, hfz40_1⟩ := p2 BK357
   go_wp2_with (first | ((with_reducible refine gate_dst (N := 14) rfl ?_); refine Kd.R_lit k23 _ 23 ?hg (N := 14) ?hd (xs := ([(⟨a0_0, a0_1⟩ : S23), (⟨a1_0, a1_1⟩ : S23), (⟨a2_0, a2_1⟩ : S23), (⟨a3_0, a3_1⟩ : S23)] : List (S23))) (inner := [.int .i64 a0_0, .int .i64 a0_1, .int .i64 a1_0, .int .i64 a1_1, .int .i64 a2_0, .int .i64 a2_1, .int .i64 a3_0, .int .i64 a3_1]) (ok := fun _ => True) (okp := fun _ => True) ?hr ?hp (fun _ hk => hk) trivial (Below.refl _ _) (Nat.le_refl _) (by simp) ?_; (case hd => rfl); (case hg => rfl); (case hr => first | (go_simp; done) | (go_simp; rfl)); (case hp => exact (Reps.c2 (show Kd.M k23 _ _ _ (⟨a0_0, a0_1⟩ : S23) [.int .i64 a0_0, .int .i64 a0_1] from (k23_mkM _ _ _ (⟨a0_0, a0_1⟩ : S23) )) (Reps.c2 (show Kd.M k23 _ _ _ (⟨a1_0, a1_1⟩ : S23) [.int .i64 a1_0, .int .i64 a1_1] from (k23_mkM _ _ _ (⟨a1_0, a1_1⟩ : S23) )) (Reps.c2 (show Kd.M k23 _ _ _ (⟨a2_0, a2_1⟩ : S23) [.int .i64 a2_0, .int .i64 a2_1] from (k23_mkM _ _ _ (⟨a2_0, a2_1⟩ : S23) )) (Reps.c2 (show Kd.M k23 _ _ _ (⟨a3_0, a3_1⟩ : S23) [.int .i64 a3_0, .int .i64 a3_1] from (k23_mkM _ _ _ (⟨a3_0, a3_1⟩ : S23) )) (Reps.none _ _)))))); intro v359 w41 ho42 hb hg_ hnew_; clear hg_ hnew_; (first | rw [← Ny358.out] at ho42 | (simp only [Int.reduceToNat] at ho42; rw [← Ny358.out] at ho42)); have n0_ := Aside0.mk (Kd.R_lower (Kd.R_newB (Kd.R_newB (Kd.R_newB (Kd.R_newB ho42 (bk BK354.out)) (bk BK355.out)) (bk BK356.out)) (bk BK357.out)) (below_size (bw HB.out))); have n1_ := u1 BK354 hb; have n2_ := u1 BK355 hb; have n3_ := u1 BK356 hb; have n4_ := u1 BK357 hb; have n5_ := u2 HB hb; clear BK354; clear BK355; clear BK356; clear BK357; clear HB; have HO360 := n0_; have BK354 := n1_; have BK355 := n2_; have BK356 := n3_; have BK357 := n4_; have HB := n5_; clear n0_ n1_ n2_ n3_ n4_ n5_; clear hb ho42; obtain ⟨Ao43, co43, eo43⟩ := Kd.R_slice HO360.out; subst eo43) | ((with_reducible refine gate_callee (f := 23) rfl ?_); refine gL (some 15) Try.func23 #[.slice Ao43 y358.length co43] rfl ?_; (with_reducible refine (pred_can.calls k _ _ y358 false _ ?side1 ?side2 A10.out).mono ?_); (case side1 => repeat (first | exact (Kd.R_reads' HO360.out).2.2 | (with_reducible refine Kd.C_alloc ?_ _) | (with_reducible refine Kd.C_drewN ?_ _) | (with_reducible refine Kd.C_drew ?_))); (case side2 => exact (Kd.R_reads' HO360.out).2.1); rintro e w44 ⟨rfl, hb⟩; refine ⟨_, rfl, ?_⟩; have n0_ := Aside0.mk (Kd.R_below (by (with_reducible repeat (first | apply Kd.R_alloc | apply Kd.R_drewN | apply Kd.R_drew)); exact HO360.out) hb); have n1_ := u1 BK354 hb; have n2_ := u1 BK355 hb; have n3_ := u1 BK356 hb; have n4_ := u1 BK357 hb; have n5_ := u2 HB hb; clear HO360; clear BK354; clear BK355; clear BK356; clear BK357; clear HB; have HO360 := n0_; have BK354 := n1_; have BK355 := n2_; have BK356 := n3_; have BK357 := n4_; have HB := n5_; clear n0_ n1_ n2_ n3_ n4_ n5_; clear hb))
   go_meet
   case rel => exact ⟨_, (true), (by first | rfl | (simp; done) | (simp [*]; done)), H', ⟨by first | omega | exact Nat.le_refl _⟩, ⟨bk BK354.out⟩, ⟨bk BK355.out⟩, ⟨bk BK356.out⟩, ⟨bk BK357.out⟩, ⟨bw HB.out⟩⟩
 case rest =>
  clear HC5
  try clear c1
  try clear c2
  try clear p2
  try clear c3
  try clear c11
  try clear c12
  try clear c13
  try clear c14
  try clear c15
  try clear c17
  try clear c18
  try clear c20
  try clear c23
  try clear c31
  try clear c32
  try clear c33
  try clear c35
  try clear c36
  try clear c38
  try clear hcz16_0
  try clear hcz16_1
  try clear hcz19_0
  try clear hcz19_1
  try clear hcz21_0
  try clear hcz21_1
  try clear hcz22_0
  try clear hcz22_1
  try clear hcz27_0
  try clear hcz27_1
  try clear hcz28_0
  try clear hcz28_1
  try clear hcz29_0
  try clear hcz29_1
  try clear hcz34_0
  try clear hcz34_1
  try clear hcz37_0
  try clear hcz37_1
  try clear hcz39_0
  try clear hcz39_1
  try clear hcz40_0
  try clear hcz40_1
  try clear hfz16_0
  try clear hfz16_1
  try clear hfz19_0
  try clear hfz19_1
  try clear hfz21_0
  try clear hfz21_1
  try clear hfz22_0
  try clear hfz22_1
  try clear hfz27_0
  try clear hfz27_1
  try clear hfz28_0
  try clear hfz28_1
  try clear hfz29_0
  try clear hfz29_1
  try clear hfz34_0
  try clear hfz34_1
  try clear hfz37_0
  try clear hfz37_1
  try clear hfz39_0
  try clear hfz39_1
  try clear hfz40_0
  try clear hfz40_1
  obtain ⟨kq, x23_4, rfl, HA, HJ4, BK354, BK355, BK356, BK357, HB⟩ := hcut
  cases kq with
  | zero => exact absurd HA.out (by simp [pred_Where.j0])
  | succ kj4 =>
   have H := HA.out
   clear HA
   simp only [pred_Where.j0] at H
   by_cases c45 : x23_4 = true
   ·subst c45
    rw [if_pos rfl] at H
    obtain rfl := Option.some.inj H
    go_wp2
    go_ret
    exact ⟨by first | rfl | (simp [*, errW_none, errW_some] <;> rfl), bw HB.out⟩
   ·replace c45 := Bool.eq_false_iff.mpr c45
    subst c45
    rw [if_neg (show ¬ (false = true) by decide)] at H
    replace H := Option.bind_eq_some_iff.mp H
    obtain ⟨t363, A460, H⟩ := H
    try dsimp only at H
    have A46 := Aside0.mk A460
    clear A460
    replace H := Option.bind_eq_some_iff.mp H
    obtain ⟨t364, A470, H⟩ := H
    try dsimp only at H
    have A47 := Aside0.mk A470
    clear A470
    replace H := Option.bind_eq_some_iff.mp H
    obtain ⟨t365, A480, H⟩ := H
    try dsimp only at H
    have A48 := Aside0.mk A480
    clear A480
    obtain ⟨ji49, hji49⟩ : ∃ j_ : Int, (mn t363 t364) = j_ := ⟨_, rfl⟩
    replace H : (if (mn (ji49) t365) > 0 then (some 2) else (if (mn (ji49) t365) = 0 then (some 1) else (some (-1)))) = some r := by first | (rw [hji49] at H; exact H) | (simp only [hji49] at H ⊢; exact H)
    (try rw [hji49] at A46)
    (try rw [hji49] at A47)
    (try rw [hji49] at A48)
    have hji49_ : (if t364 < t363 then t364 else t363) = ji49 := hji49
    obtain ⟨ji50, hji50⟩ : ∃ j_ : Int, (mn (ji49) t365) = j_ := ⟨_, rfl⟩
    replace H : (if (ji50) > 0 then (some 2) else (if (ji50) = 0 then (some 1) else (some (-1)))) = some r := by first | (rw [hji50] at H; exact H) | (simp only [hji50] at H ⊢; exact H)
    (try rw [hji50] at A46)
    (try rw [hji50] at A47)
    (try rw [hji50] at A48)
    have hji50_ : (if t365 < (ji49) then t365 else (ji49)) = ji50 := hji50
    by_cases c51 : (ji50) > 0
    ·rw [if_pos c51] at H
     have c51b0 : decide (0 < (ji50)) = true := decide_eq_true c51
     clear c51
     obtain rfl := Option.some.inj H
     try go_wp2
     have n0_ := Aside0.mk (blk_drew BK354.out)
     have n1_ := Aside0.mk (blk_drew BK355.out)
     have n2_ := Aside0.mk (blk_drew BK356.out)
     have n3_ := Aside0.mk (blk_drew BK357.out)
     have n4_ := Aside0.mk (below_drew1 HB.out)
     clear BK354
     clear BK355
     clear BK356
     clear BK357
     clear HB
     have BK354 := n0_
     have BK355 := n1_
     have BK356 := n2_
     have BK357 := n3_
     have HB := n4_
     clear n0_ n1_ n2_ n3_ n4_
     refine start_ (n := 14) (S := fun w' => w'.cell? ⟨gb354, 0, none⟩ = some (.int .i64 a0_0) ∧ w'.cell? ⟨gb354, 1, none⟩ = some (.int .i64 a0_1) ∧ w'.cell? ⟨gb355, 0, none⟩ = some (.int .i64 a1_0) ∧ w'.cell? ⟨gb355, 1, none⟩ = some (.int .i64 a1_1) ∧ w'.cell? ⟨gb357, 0, none⟩ = some (.int .i64 a3_0) ∧ w'.cell? ⟨gb357, 1, none⟩ = some (.int .i64 a3_1) ∧ w'.cell? ⟨gb356, 0, none⟩ = some (.int .i64 a2_0) ∧ w'.cell? ⟨gb356, 1, none⟩ = some (.int .i64 a2_1)) (ds := []) #[F_,F_,F_,F_,F_,F_,F_,F_,F_,F_,F_,F_,F_,F_] (by kernel_rfl) rfl rfl ⟨(p2 BK354).1, (p2 BK354).2.1, (p2 BK355).1, (p2 BK355).2.1, (p2 BK357).1, (p2 BK357).2.1, (p2 BK356).1, (p2 BK356).2.1⟩ (fun hHeld => ?_); refine with_tabW pred_Where.tab3 pred_Where.bits3 (fun HT_ HW_ => ?_)
     generalize wc.drew = w52 at BK354 BK355 BK356 BK357 HB hHeld ⊢
     refine tA (i := 0) (N := some 24) (v := ?_) (a' := ?_) #[T_,F_,F_,F_,F_,F_,F_,F_,F_,F_,F_,F_,F_,F_] rfl rfl HT_ HW_ (Or.inl ⟨by rfl, ?_⟩) hHeld ?_ ?_
     rotate_left
     ·rintro w' ⟨s0, s1, s2, s3, s4, s5, s6, s7⟩
      go_simp
      with_reducible rfl
     rotate_left
     ·simp only [Act.put, s1, s2, s3, i64_w, i32_w]
      rfl
     refine tA (i := 1) (N := some 25) (v := ?_) (a' := ?_) #[T_,T_,F_,F_,F_,F_,F_,F_,F_,F_,F_,F_,F_,F_] rfl rfl HT_ HW_ (Or.inl ⟨by rfl, ?_⟩) hHeld ?_ ?_
     rotate_left
     ·rintro w' ⟨s0, s1, s2, s3, s4, s5, s6, s7⟩
      go_simp
      with_reducible rfl
     rotate_left
     ·simp only [Act.put, s1, s2, s3, i64_w, i32_w]
      rfl
     refine tA (i := 2) (N := some 26) (v := ?_) (a' := ?_) #[T_,T_,T_,F_,F_,F_,F_,F_,F_,F_,F_,F_,F_,F_] rfl rfl HT_ HW_ (Or.inl ⟨by rfl, ?_⟩) hHeld ?_ ?_
     rotate_left
     ·rintro w' ⟨s0, s1, s2, s3, s4, s5, s6, s7⟩
      go_simp
      with_reducible rfl
     rotate_left
     ·simp only [Act.put, s1, s2, s3, i64_w, i32_w]
      rfl
     refine tA (i := 4) (N := some 28) (v := ?_) (a' := ?_) #[T_,T_,T_,F_,T_,F_,F_,F_,F_,F_,F_,F_,F_,F_] rfl rfl HT_ HW_ (Or.inl ⟨by rfl, ?_⟩) hHeld ?_ ?_
     rotate_left
     ·rintro w' ⟨s0, s1, s2, s3, s4, s5, s6, s7⟩
      go_simp
      with_reducible rfl
     rotate_left
     ·simp only [Act.put, s1, s2, s3, i64_w, i32_w]
      rfl
     refine tA (i := 5) (N := some 29) (v := ?_) (a' := ?_) #[T_,T_,T_,F_,T_,T_,F_,F_,F_,F_,F_,F_,F_,F_] rfl rfl HT_ HW_ (Or.inl ⟨by rfl, ?_⟩) hHeld ?_ ?_
     rotate_left
     ·rintro w' ⟨s0, s1, s2, s3, s4, s5, s6, s7⟩
      go_simp
      with_reducible rfl
     rotate_left
     ·simp only [Act.put, s1, s2, s3, i64_w, i32_w]
      rfl
     refine tA (i := 6) (N := some 30) (v := ?_) (a' := ?_) #[T_,T_,T_,F_,T_,T_,T_,F_,F_,F_,F_,F_,F_,F_] rfl rfl HT_ HW_ (Or.inl ⟨by rfl, ?_⟩) hHeld ?_ ?_
     rotate_left
     ·rintro w' ⟨s0, s1, s2, s3, s4, s5, s6, s7⟩
      go_simp
      with_reducible rfl
     rotate_left
     ·simp only [Act.put, s1, s2, s3, i64_w, i32_w]
      rfl
     refine tA (i := 8) (N := some 32) (v := ?_) (a' := ?_) #[T_,T_,T_,F_,T_,T_,T_,F_,T_,F_,F_,F_,F_,F_] rfl rfl HT_ HW_ (Or.inl ⟨by rfl, ?_⟩) hHeld ?_ ?_
     rotate_left
     ·rintro w' ⟨s0, s1, s2, s3, s4, s5, s6, s7⟩
      go_simp
      with_reducible rfl
     rotate_left
     ·simp only [Act.put, s1, s2, s3, i64_w, i32_w]
      rfl
     refine tA (i := 9) (N := some 33) (v := ?_) (a' := ?_) #[T_,T_,T_,F_,T_,T_,T_,F_,T_,T_,F_,F_,F_,F_] rfl rfl HT_ HW_ (Or.inl ⟨by rfl, ?_⟩) hHeld ?_ ?_
     rotate_left
     ·rintro w' ⟨s0, s1, s2, s3, s4, s5, s6, s7⟩
      go_simp
      with_reducible rfl
     rotate_left
     ·simp only [Act.put, s1, s2, s3, i64_w, i32_w]
      rfl
     refine tA (i := 10) (N := some 34) (v := ?_) (a' := ?_) #[T_,T_,T_,F_,T_,T_,T_,F_,T_,T_,T_,F_,F_,F_] rfl rfl HT_ HW_ (Or.inl ⟨by rfl, ?_⟩) hHeld ?_ ?_
     rotate_left
     ·rintro w' ⟨s0, s1, s2, s3, s4, s5, s6, s7⟩
      go_simp
      with_reducible rfl
     rotate_left
     ·simp only [Act.put, s1, s2, s3, i64_w, i32_w]
      rfl
     refine one_ (i := 3) (N := some 27) #[T_,T_,T_,T_,T_,T_,T_,F_,T_,T_,T_,F_,F_,F_] rfl rfl (one_of HT_.out (by kernel_rfl)) (by decide) (fun K hK => ?_)
     refine goes_ Try.func38 (by kernel_rfl) rfl #[.agg #[.int .i64 a0_0, .int .i64 a0_1], .agg #[.int .i64 a1_0, .int .i64 a1_1], .agg #[.int .i64 a3_0, .int .i64 a3_1]] (by rfl) rfl rfl (by (try simp only [List.map_toArray, List.map_cons, List.map_nil]); first | done | rfl | (simp only [List.length_drop, List.length_take]; rfl)) ?_
     with_reducible refine (pred_orient.calls a0_0 a0_1 a1_0 a1_1 a3_0 a3_1 t363 _ A46.out).mono ?_
     rintro e w53 ⟨rfl, hb⟩
     refine ⟨_, rfl, ?_⟩
     have n0_ := u1 BK354 hb
     have n1_ := u1 BK355 hb
     have n2_ := u1 BK356 hb
     have n3_ := u1 BK357 hb
     have n4_ := Aside0.mk (below_step (bw HB.out) hb)
     clear BK354
     clear BK355
     clear BK356
     clear BK357
     clear HB
     have BK354 := n0_
     have BK355 := n1_
     have BK356 := n2_
     have BK357 := n3_
     have HB := n4_
     clear n0_ n1_ n2_ n3_ n4_
     (try clear hb)
     (try clear hb2)
     (try clear hk)
     (try clear hi)
     refine hK.out _ _ ⟨(p2 BK354).1, (p2 BK354).2.1, (p2 BK355).1, (p2 BK355).2.1, (p2 BK357).1, (p2 BK357).2.1, (p2 BK356).1, (p2 BK356).2.1⟩ (fun hHeld => ?_)
     clear hK K
     refine norm_ (a' := ?_) ?_ ?_
     rotate_left
     ·show Act.put _ (some 27) _ = _
      simp only [Act.put, s1, s2, s3, i64_w, i32_w]
      rfl
     refine one_ (i := 7) (N := some 31) #[T_,T_,T_,T_,T_,T_,T_,T_,T_,T_,T_,F_,F_,F_] rfl rfl (one_of HT_.out (by kernel_rfl)) (by decide) (fun K hK => ?_)
     refine goes_ Try.func38 (by kernel_rfl) rfl #[.agg #[.int .i64 a1_0, .int .i64 a1_1], .agg #[.int .i64 a2_0, .int .i64 a2_1], .agg #[.int .i64 a3_0, .int .i64 a3_1]] (by rfl) rfl rfl (by (try simp only [List.map_toArray, List.map_cons, List.map_nil]); first | done | rfl | (simp only [List.length_drop, List.length_take]; rfl)) ?_
     with_reducible refine (pred_orient.calls a1_0 a1_1 a2_0 a2_1 a3_0 a3_1 t364 _ A47.out).mono ?_
     rintro e w54 ⟨rfl, hb⟩
     refine ⟨_, rfl, ?_⟩
     have n0_ := u1 BK354 hb
     have n1_ := u1 BK355 hb
     have n2_ := u1 BK356 hb
     have n3_ := u1 BK357 hb
     have n4_ := Aside0.mk (below_step (bw HB.out) hb)
     clear BK354
     clear BK355
     clear BK356
     clear BK357
     clear HB
     have BK354 := n0_
     have BK355 := n1_
     have BK356 := n2_
     have BK357 := n3_
     have HB := n4_
     clear n0_ n1_ n2_ n3_ n4_
     (try clear hb)
     (try clear hb2)
     (try clear hk)
     (try clear hi)
     refine hK.out _ _ ⟨(p2 BK354).1, (p2 BK354).2.1, (p2 BK355).1, (p2 BK355).2.1, (p2 BK357).1, (p2 BK357).2.1, (p2 BK356).1, (p2 BK356).2.1⟩ (fun hHeld => ?_)
     clear hK K
     refine norm_ (a' := ?_) ?_ ?_
     rotate_left
     ·show Act.put _ (some 31) _ = _
      simp only [Act.put, s1, s2, s3, i64_w, i32_w]
      rfl
     refine one_ (i := 11) (N := some 35) #[T_,T_,T_,T_,T_,T_,T_,T_,T_,T_,T_,T_,F_,F_] rfl rfl (one_of HT_.out (by kernel_rfl)) (by decide) (fun K hK => ?_)
     refine goes_ Try.func38 (by kernel_rfl) rfl #[.agg #[.int .i64 a2_0, .int .i64 a2_1], .agg #[.int .i64 a0_0, .int .i64 a0_1], .agg #[.int .i64 a3_0, .int .i64 a3_1]] (by rfl) rfl rfl (by (try simp only [List.map_toArray, List.map_cons, List.map_nil]); first | done | rfl | (simp only [List.length_drop, List.length_take]; rfl)) ?_
     with_reducible refine (pred_orient.calls a2_0 a2_1 a0_0 a0_1 a3_0 a3_1 t365 _ A48.out).mono ?_
     rintro e w55 ⟨rfl, hb⟩
     refine ⟨_, rfl, ?_⟩
     have n0_ := u1 BK354 hb
     have n1_ := u1 BK355 hb
     have n2_ := u1 BK356 hb
     have n3_ := u1 BK357 hb
     have n4_ := Aside0.mk (below_step (bw HB.out) hb)
     clear BK354
     clear BK355
     clear BK356
     clear BK357
     clear HB
     have BK354 := n0_
     have BK355 := n1_
     have BK356 := n2_
     have BK357 := n3_
     have HB := n4_
     clear n0_ n1_ n2_ n3_ n4_
     (try clear hb)
     (try clear hb2)
     (try clear hk)
     (try clear hi)
     refine hK.out _ _ ⟨(p2 BK354).1, (p2 BK354).2.1, (p2 BK355).1, (p2 BK355).2.1, (p2 BK357).1, (p2 BK357).2.1, (p2 BK356).1, (p2 BK356).2.1⟩ (fun hHeld => ?_)
     clear hK K
     refine norm_ (a' := ?_) ?_ ?_
     rotate_left
     ·show Act.put _ (some 35) _ = _
      simp only [Act.put, s1, s2, s3, i64_w, i32_w]
      rfl
     refine pA (i := 12) (N := some 36) (v := ?_) (a' := ?_) #[T_,T_,T_,T_,T_,T_,T_,T_,T_,T_,T_,T_,T_,F_] rfl rfl HT_ (Or.inl ⟨by rfl, ?_⟩) ?_ ?_
     rotate_left
     ·intro w'
      go_simp
      with_reducible rfl
     rotate_left
     ·simp only [Act.put, s1, s2, s3, i64_w, i32_w]
      rfl
     refine pA (i := 13) (N := some 9) (v := ?_) (a' := ?_) #[T_,T_,T_,T_,T_,T_,T_,T_,T_,T_,T_,T_,T_,T_] rfl rfl HT_ (Or.inl ⟨by rfl, ?_⟩) ?_ ?_
     rotate_left
     ·intro w'
      go_simp
      with_reducible rfl
     rotate_left
     ·simp only [Act.put, s1, s2, s3, i64_w, i32_w]
      rfl
     refine done_ (done_of HT_.out (by kernel_rfl)) ?_
     try go_wp2
     go_ret
     exact ⟨by first | rfl | (simp [errW_none, errW_some] <;> rfl) | (simp only [← hji49, ← hji50]; first | rfl | (simp [errW_none, errW_some] <;> rfl)) | (simp [*, errW_none, errW_some] <;> rfl), bw HB.out⟩
    ·rw [if_neg c51] at H
     have c51b0 : decide (0 < (ji50)) = false := decide_eq_false c51
     clear c51
     by_cases c56 : (ji50) = 0
     ·rw [if_pos c56] at H
      have c56b0 : ((ji50) == 0) = true := beq_iff_eq.mpr c56
      have c56b1 : ((ji50) != 0) = false := bne_eq_false_iff_eq.mpr c56
      clear c56
      obtain rfl := Option.some.inj H
      try go_wp2
      have n0_ := Aside0.mk (blk_drew BK354.out)
      have n1_ := Aside0.mk (blk_drew BK355.out)
      have n2_ := Aside0.mk (blk_drew BK356.out)
      have n3_ := Aside0.mk (blk_drew BK357.out)
      have n4_ := Aside0.mk (below_drew1 HB.out)
      clear BK354
      clear BK355
      clear BK356
      clear BK357
      clear HB
      have BK354 := n0_
      have BK355 := n1_
      have BK356 := n2_
      have BK357 := n3_
      have HB := n4_
      clear n0_ n1_ n2_ n3_ n4_
      refine start_ (n := 14) (S := fun w' => w'.cell? ⟨gb354, 0, none⟩ = some (.int .i64 a0_0) ∧ w'.cell? ⟨gb354, 1, none⟩ = some (.int .i64 a0_1) ∧ w'.cell? ⟨gb355, 0, none⟩ = some (.int .i64 a1_0) ∧ w'.cell? ⟨gb355, 1, none⟩ = some (.int .i64 a1_1) ∧ w'.cell? ⟨gb357, 0, none⟩ = some (.int .i64 a3_0) ∧ w'.cell? ⟨gb357, 1, none⟩ = some (.int .i64 a3_1) ∧ w'.cell? ⟨gb356, 0, none⟩ = some (.int .i64 a2_0) ∧ w'.cell? ⟨gb356, 1, none⟩ = some (.int .i64 a2_1)) (ds := []) #[F_,F_,F_,F_,F_,F_,F_,F_,F_,F_,F_,F_,F_,F_] (by kernel_rfl) rfl rfl ⟨(p2 BK354).1, (p2 BK354).2.1, (p2 BK355).1, (p2 BK355).2.1, (p2 BK357).1, (p2 BK357).2.1, (p2 BK356).1, (p2 BK356).2.1⟩ (fun hHeld => ?_); refine with_tabW pred_Where.tab3 pred_Where.bits3 (fun HT_ HW_ => ?_)
      generalize wc.drew = w57 at BK354 BK355 BK356 BK357 HB hHeld ⊢
      refine tA (i := 0) (N := some 24) (v := ?_) (a' := ?_) #[T_,F_,F_,F_,F_,F_,F_,F_,F_,F_,F_,F_,F_,F_] rfl rfl HT_ HW_ (Or.inl ⟨by rfl, ?_⟩) hHeld ?_ ?_
      rotate_left
      ·rintro w' ⟨s0, s1, s2, s3, s4, s5, s6, s7⟩
       go_simp
       with_reducible rfl
      rotate_left
      ·simp only [Act.put, s1, s2, s3, i64_w, i32_w]
       rfl
      refine tA (i := 1) (N := some 25) (v := ?_) (a' := ?_) #[T_,T_,F_,F_,F_,F_,F_,F_,F_,F_,F_,F_,F_,F_] rfl rfl HT_ HW_ (Or.inl ⟨by rfl, ?_⟩) hHeld ?_ ?_
      rotate_left
      ·rintro w' ⟨s0, s1, s2, s3, s4, s5, s6, s7⟩
       go_simp
       with_reducible rfl
      rotate_left
      ·simp only [Act.put, s1, s2, s3, i64_w, i32_w]
       rfl
      refine tA (i := 2) (N := some 26) (v := ?_) (a' := ?_) #[T_,T_,T_,F_,F_,F_,F_,F_,F_,F_,F_,F_,F_,F_] rfl rfl HT_ HW_ (Or.inl ⟨by rfl, ?_⟩) hHeld ?_ ?_
      rotate_left
      ·rintro w' ⟨s0, s1, s2, s3, s4, s5, s6, s7⟩
       go_simp
       with_reducible rfl
      rotate_left
      ·simp only [Act.put, s1, s2, s3, i64_w, i32_w]
       rfl
      refine tA (i := 4) (N := some 28) (v := ?_) (a' := ?_) #[T_,T_,T_,F_,T_,F_,F_,F_,F_,F_,F_,F_,F_,F_] rfl rfl HT_ HW_ (Or.inl ⟨by rfl, ?_⟩) hHeld ?_ ?_
      rotate_left
      ·rintro w' ⟨s0, s1, s2, s3, s4, s5, s6, s7⟩
       go_simp
       with_reducible rfl
      rotate_left
      ·simp only [Act.put, s1, s2, s3, i64_w, i32_w]
       rfl
      refine tA (i := 5) (N := some 29) (v := ?_) (a' := ?_) #[T_,T_,T_,F_,T_,T_,F_,F_,F_,F_,F_,F_,F_,F_] rfl rfl HT_ HW_ (Or.inl ⟨by rfl, ?_⟩) hHeld ?_ ?_
      rotate_left
      ·rintro w' ⟨s0, s1, s2, s3, s4, s5, s6, s7⟩
       go_simp
       with_reducible rfl
      rotate_left
      ·simp only [Act.put, s1, s2, s3, i64_w, i32_w]
       rfl
      refine tA (i := 6) (N := some 30) (v := ?_) (a' := ?_) #[T_,T_,T_,F_,T_,T_,T_,F_,F_,F_,F_,F_,F_,F_] rfl rfl HT_ HW_ (Or.inl ⟨by rfl, ?_⟩) hHeld ?_ ?_
      rotate_left
      ·rintro w' ⟨s0, s1, s2, s3, s4, s5, s6, s7⟩
       go_simp
       with_reducible rfl
      rotate_left
      ·simp only [Act.put, s1, s2, s3, i64_w, i32_w]
       rfl
      refine tA (i := 8) (N := some 32) (v := ?_) (a' := ?_) #[T_,T_,T_,F_,T_,T_,T_,F_,T_,F_,F_,F_,F_,F_] rfl rfl HT_ HW_ (Or.inl ⟨by rfl, ?_⟩) hHeld ?_ ?_
      rotate_left
      ·rintro w' ⟨s0, s1, s2, s3, s4, s5, s6, s7⟩
       go_simp
       with_reducible rfl
      rotate_left
      ·simp only [Act.put, s1, s2, s3, i64_w, i32_w]
       rfl
      refine tA (i := 9) (N := some 33) (v := ?_) (a' := ?_) #[T_,T_,T_,F_,T_,T_,T_,F_,T_,T_,F_,F_,F_,F_] rfl rfl HT_ HW_ (Or.inl ⟨by rfl, ?_⟩) hHeld ?_ ?_
      rotate_left
      ·rintro w' ⟨s0, s1, s2, s3, s4, s5, s6, s7⟩
       go_simp
       with_reducible rfl
      rotate_left
      ·simp only [Act.put, s1, s2, s3, i64_w, i32_w]
       rfl
      refine tA (i := 10) (N := some 34) (v := ?_) (a' := ?_) #[T_,T_,T_,F_,T_,T_,T_,F_,T_,T_,T_,F_,F_,F_] rfl rfl HT_ HW_ (Or.inl ⟨by rfl, ?_⟩) hHeld ?_ ?_
      rotate_left
      ·rintro w' ⟨s0, s1, s2, s3, s4, s5, s6, s7⟩
       go_simp
       with_reducible rfl
      rotate_left
      ·simp only [Act.put, s1, s2, s3, i64_w, i32_w]
       rfl
      refine one_ (i := 3) (N := some 27) #[T_,T_,T_,T_,T_,T_,T_,F_,T_,T_,T_,F_,F_,F_] rfl rfl (one_of HT_.out (by kernel_rfl)) (by decide) (fun K hK => ?_)
      refine goes_ Try.func38 (by kernel_rfl) rfl #[.agg #[.int .i64 a0_0, .int .i64 a0_1], .agg #[.int .i64 a1_0, .int .i64 a1_1], .agg #[.int .i64 a3_0, .int .i64 a3_1]] (by rfl) rfl rfl (by (try simp only [List.map_toArray, List.map_cons, List.map_nil]); first | done | rfl | (simp only [List.length_drop, List.length_take]; rfl)) ?_
      with_reducible refine (pred_orient.calls a0_0 a0_1 a1_0 a1_1 a3_0 a3_1 t363 _ A46.out).mono ?_
      rintro e w58 ⟨rfl, hb⟩
      refine ⟨_, rfl, ?_⟩
      have n0_ := u1 BK354 hb
      have n1_ := u1 BK355 hb
      have n2_ := u1 BK356 hb
      have n3_ := u1 BK357 hb
      have n4_ := Aside0.mk (below_step (bw HB.out) hb)
      clear BK354
      clear BK355
      clear BK356
      clear BK357
      clear HB
      have BK354 := n0_
      have BK355 := n1_
      have BK356 := n2_
      have BK357 := n3_
      have HB := n4_
      clear n0_ n1_ n2_ n3_ n4_
      (try clear hb)
      (try clear hb2)
      (try clear hk)
      (try clear hi)
      refine hK.out _ _ ⟨(p2 BK354).1, (p2 BK354).2.1, (p2 BK355).1, (p2 BK355).2.1, (p2 BK357).1, (p2 BK357).2.1, (p2 BK356).1, (p2 BK356).2.1⟩ (fun hHeld => ?_)
      clear hK K
      refine norm_ (a' := ?_) ?_ ?_
      rotate_left
      ·show Act.put _ (some 27) _ = _
       simp only [Act.put, s1, s2, s3, i64_w, i32_w]
       rfl
      refine one_ (i := 7) (N := some 31) #[T_,T_,T_,T_,T_,T_,T_,T_,T_,T_,T_,F_,F_,F_] rfl rfl (one_of HT_.out (by kernel_rfl)) (by decide) (fun K hK => ?_)
      refine goes_ Try.func38 (by kernel_rfl) rfl #[.agg #[.int .i64 a1_0, .int .i64 a1_1], .agg #[.int .i64 a2_0, .int .i64 a2_1], .agg #[.int .i64 a3_0, .int .i64 a3_1]] (by rfl) rfl rfl (by (try simp only [List.map_toArray, List.map_cons, List.map_nil]); first | done | rfl | (simp only [List.length_drop, List.length_take]; rfl)) ?_
      with_reducible refine (pred_orient.calls a1_0 a1_1 a2_0 a2_1 a3_0 a3_1 t364 _ A47.out).mono ?_
      rintro e w59 ⟨rfl, hb⟩
      refine ⟨_, rfl, ?_⟩
      have n0_ := u1 BK354 hb
      have n1_ := u1 BK355 hb
      have n2_ := u1 BK356 hb
      have n3_ := u1 BK357 hb
      have n4_ := Aside0.mk (below_step (bw HB.out) hb)
      clear BK354
      clear BK355
      clear BK356
      clear BK357
      clear HB
      have BK354 := n0_
      have BK355 := n1_
      have BK356 := n2_
      have BK357 := n3_
      have HB := n4_
      clear n0_ n1_ n2_ n3_ n4_
      (try clear hb)
      (try clear hb2)
      (try clear hk)
      (try clear hi)
      refine hK.out _ _ ⟨(p2 BK354).1, (p2 BK354).2.1, (p2 BK355).1, (p2 BK355).2.1, (p2 BK357).1, (p2 BK357).2.1, (p2 BK356).1, (p2 BK356).2.1⟩ (fun hHeld => ?_)
      clear hK K
      refine norm_ (a' := ?_) ?_ ?_
      rotate_left
      ·show Act.put _ (some 31) _ = _
       simp only [Act.put, s1, s2, s3, i64_w, i32_w]
       rfl
      refine one_ (i := 11) (N := some 35) #[T_,T_,T_,T_,T_,T_,T_,T_,T_,T_,T_,T_,F_,F_] rfl rfl (one_of HT_.out (by kernel_rfl)) (by decide) (fun K hK => ?_)
      refine goes_ Try.func38 (by kernel_rfl) rfl #[.agg #[.int .i64 a2_0, .int .i64 a2_1], .agg #[.int .i64 a0_0, .int .i64 a0_1], .agg #[.int .i64 a3_0, .int .i64 a3_1]] (by rfl) rfl rfl (by (try simp only [List.map_toArray, List.map_cons, List.map_nil]); first | done | rfl | (simp only [List.length_drop, List.length_take]; rfl)) ?_
      with_reducible refine (pred_orient.calls a2_0 a2_1 a0_0 a0_1 a3_0 a3_1 t365 _ A48.out).mono ?_
      rintro e w60 ⟨rfl, hb⟩
      refine ⟨_, rfl, ?_⟩
      have n0_ := u1 BK354 hb
      have n1_ := u1 BK355 hb
      have n2_ := u1 BK356 hb
      have n3_ := u1 BK357 hb
      have n4_ := Aside0.mk (below_step (bw HB.out) hb)
      clear BK354
      clear BK355
      clear BK356
      clear BK357
      clear HB
      have BK354 := n0_
      have BK355 := n1_
      have BK356 := n2_
      have BK357 := n3_
      have HB := n4_
      clear n0_ n1_ n2_ n3_ n4_
      (try clear hb)
      (try clear hb2)
      (try clear hk)
      (try clear hi)
      refine hK.out _ _ ⟨(p2 BK354).1, (p2 BK354).2.1, (p2 BK355).1, (p2 BK355).2.1, (p2 BK357).1, (p2 BK357).2.1, (p2 BK356).1, (p2 BK356).2.1⟩ (fun hHeld => ?_)
      clear hK K
      refine norm_ (a' := ?_) ?_ ?_
      rotate_left
      ·show Act.put _ (some 35) _ = _
       simp only [Act.put, s1, s2, s3, i64_w, i32_w]
       rfl
      refine pA (i := 12) (N := some 36) (v := ?_) (a' := ?_) #[T_,T_,T_,T_,T_,T_,T_,T_,T_,T_,T_,T_,T_,F_] rfl rfl HT_ (Or.inl ⟨by rfl, ?_⟩) ?_ ?_
      rotate_left
      ·intro w'
       go_simp
       with_reducible rfl
      rotate_left
      ·simp only [Act.put, s1, s2, s3, i64_w, i32_w]
       rfl
      refine pA (i := 13) (N := some 9) (v := ?_) (a' := ?_) #[T_,T_,T_,T_,T_,T_,T_,T_,T_,T_,T_,T_,T_,T_] rfl rfl HT_ (Or.inl ⟨by rfl, ?_⟩) ?_ ?_
      rotate_left
      ·intro w'
       go_simp
       with_reducible rfl
      rotate_left
      ·simp only [Act.put, s1, s2, s3, i64_w, i32_w]
       rfl
      refine done_ (done_of HT_.out (by kernel_rfl)) ?_
      try go_wp2
      go_ret
      exact ⟨by first | rfl | (simp [errW_none, errW_some] <;> rfl) | (simp only [← hji49, ← hji50]; first | rfl | (simp [errW_none, errW_some] <;> rfl)) | (simp [*, errW_none, errW_some] <;> rfl), bw HB.out⟩
     ·rw [if_neg c56] at H
      have c56b0 : ((ji50) == 0) = false := beq_eq_false_iff_ne.mpr c56
      have c56b1 : ((ji50) != 0) = true := bne_iff_ne.mpr c56
      obtain rfl := Option.some.inj H
      try go_wp2
      have n0_ := Aside0.mk (blk_drew BK354.out)
      have n1_ := Aside0.mk (blk_drew BK355.out)
      have n2_ := Aside0.mk (blk_drew BK356.out)
      have n3_ := Aside0.mk (blk_drew BK357.out)
      have n4_ := Aside0.mk (below_drew1 HB.out)
      clear BK354
      clear BK355
      clear BK356
      clear BK357
      clear HB
      have BK354 := n0_
      have BK355 := n1_
      have BK356 := n2_
      have BK357 := n3_
      have HB := n4_
      clear n0_ n1_ n2_ n3_ n4_
      refine start_ (n := 14) (S := fun w' => w'.cell? ⟨gb354, 0, none⟩ = some (.int .i64 a0_0) ∧ w'.cell? ⟨gb354, 1, none⟩ = some (.int .i64 a0_1) ∧ w'.cell? ⟨gb355, 0, none⟩ = some (.int .i64 a1_0) ∧ w'.cell? ⟨gb355, 1, none⟩ = some (.int .i64 a1_1) ∧ w'.cell? ⟨gb357, 0, none⟩ = some (.int .i64 a3_0) ∧ w'.cell? ⟨gb357, 1, none⟩ = some (.int .i64 a3_1) ∧ w'.cell? ⟨gb356, 0, none⟩ = some (.int .i64 a2_0) ∧ w'.cell? ⟨gb356, 1, none⟩ = some (.int .i64 a2_1)) (ds := []) #[F_,F_,F_,F_,F_,F_,F_,F_,F_,F_,F_,F_,F_,F_] (by kernel_rfl) rfl rfl ⟨(p2 BK354).1, (p2 BK354).2.1, (p2 BK355).1, (p2 BK355).2.1, (p2 BK357).1, (p2 BK357).2.1, (p2 BK356).1, (p2 BK356).2.1⟩ (fun hHeld => ?_); refine with_tabW pred_Where.tab3 pred_Where.bits3 (fun HT_ HW_ => ?_)
      generalize wc.drew = w61 at BK354 BK355 BK356 BK357 HB hHeld ⊢
      refine tA (i := 0) (N := some 24) (v := ?_) (a' := ?_) #[T_,F_,F_,F_,F_,F_,F_,F_,F_,F_,F_,F_,F_,F_] rfl rfl HT_ HW_ (Or.inl ⟨by rfl, ?_⟩) hHeld ?_ ?_
      rotate_left
      ·rintro w' ⟨s0, s1, s2, s3, s4, s5, s6, s7⟩
       go_simp
       with_reducible rfl
      rotate_left
      ·simp only [Act.put, s1, s2, s3, i64_w, i32_w]
       rfl
      refine tA (i := 1) (N := some 25) (v := ?_) (a' := ?_) #[T_,T_,F_,F_,F_,F_,F_,F_,F_,F_,F_,F_,F_,F_] rfl rfl HT_ HW_ (Or.inl ⟨by rfl, ?_⟩) hHeld ?_ ?_
      rotate_left
      ·rintro w' ⟨s0, s1, s2, s3, s4, s5, s6, s7⟩
       go_simp
       with_reducible rfl
      rotate_left
      ·simp only [Act.put, s1, s2, s3, i64_w, i32_w]
       rfl
      refine tA (i := 2) (N := some 26) (v := ?_) (a' := ?_) #[T_,T_,T_,F_,F_,F_,F_,F_,F_,F_,F_,F_,F_,F_] rfl rfl HT_ HW_ (Or.inl ⟨by rfl, ?_⟩) hHeld ?_ ?_
      rotate_left
      ·rintro w' ⟨s0, s1, s2, s3, s4, s5, s6, s7⟩
       go_simp
       with_reducible rfl
      rotate_left
      ·simp only [Act.put, s1, s2, s3, i64_w, i32_w]
       rfl
      refine tA (i := 4) (N := some 28) (v := ?_) (a' := ?_) #[T_,T_,T_,F_,T_,F_,F_,F_,F_,F_,F_,F_,F_,F_] rfl rfl HT_ HW_ (Or.inl ⟨by rfl, ?_⟩) hHeld ?_ ?_
      rotate_left
      ·rintro w' ⟨s0, s1, s2, s3, s4, s5, s6, s7⟩
       go_simp
       with_reducible rfl
      rotate_left
      ·simp only [Act.put, s1, s2, s3, i64_w, i32_w]
       rfl
      refine tA (i := 5) (N := some 29) (v := ?_) (a' := ?_) #[T_,T_,T_,F_,T_,T_,F_,F_,F_,F_,F_,F_,F_,F_] rfl rfl HT_ HW_ (Or.inl ⟨by rfl, ?_⟩) hHeld ?_ ?_
      rotate_left
      ·rintro w' ⟨s0, s1, s2, s3, s4, s5, s6, s7⟩
       go_simp
       with_reducible rfl
      rotate_left
      ·simp only [Act.put, s1, s2, s3, i64_w, i32_w]
       rfl
      refine tA (i := 6) (N := some 30) (v := ?_) (a' := ?_) #[T_,T_,T_,F_,T_,T_,T_,F_,F_,F_,F_,F_,F_,F_] rfl rfl HT_ HW_ (Or.inl ⟨by rfl, ?_⟩) hHeld ?_ ?_
      rotate_left
      ·rintro w' ⟨s0, s1, s2, s3, s4, s5, s6, s7⟩
       go_simp
       with_reducible rfl
      rotate_left
      ·simp only [Act.put, s1, s2, s3, i64_w, i32_w]
       rfl
      refine tA (i := 8) (N := some 32) (v := ?_) (a' := ?_) #[T_,T_,T_,F_,T_,T_,T_,F_,T_,F_,F_,F_,F_,F_] rfl rfl HT_ HW_ (Or.inl ⟨by rfl, ?_⟩) hHeld ?_ ?_
      rotate_left
      ·rintro w' ⟨s0, s1, s2, s3, s4, s5, s6, s7⟩
       go_simp
       with_reducible rfl
      rotate_left
      ·simp only [Act.put, s1, s2, s3, i64_w, i32_w]
       rfl
      refine tA (i := 9) (N := some 33) (v := ?_) (a' := ?_) #[T_,T_,T_,F_,T_,T_,T_,F_,T_,T_,F_,F_,F_,F_] rfl rfl HT_ HW_ (Or.inl ⟨by rfl, ?_⟩) hHeld ?_ ?_
      rotate_left
      ·rintro w' ⟨s0, s1, s2, s3, s4, s5, s6, s7⟩
       go_simp
       with_reducible rfl
      rotate_left
      ·simp only [Act.put, s1, s2, s3, i64_w, i32_w]
       rfl
      refine tA (i := 10) (N := some 34) (v := ?_) (a' := ?_) #[T_,T_,T_,F_,T_,T_,T_,F_,T_,T_,T_,F_,F_,F_] rfl rfl HT_ HW_ (Or.inl ⟨by rfl, ?_⟩) hHeld ?_ ?_
      rotate_left
      ·rintro w' ⟨s0, s1, s2, s3, s4, s5, s6, s7⟩
       go_simp
       with_reducible rfl
      rotate_left
      ·simp only [Act.put, s1, s2, s3, i64_w, i32_w]
       rfl
      refine one_ (i := 3) (N := some 27) #[T_,T_,T_,T_,T_,T_,T_,F_,T_,T_,T_,F_,F_,F_] rfl rfl (one_of HT_.out (by kernel_rfl)) (by decide) (fun K hK => ?_)
      refine goes_ Try.func38 (by kernel_rfl) rfl #[.agg #[.int .i64 a0_0, .int .i64 a0_1], .agg #[.int .i64 a1_0, .int .i64 a1_1], .agg #[.int .i64 a3_0, .int .i64 a3_1]] (by rfl) rfl rfl (by (try simp only [List.map_toArray, List.map_cons, List.map_nil]); first | done | rfl | (simp only [List.length_drop, List.length_take]; rfl)) ?_
      with_reducible refine (pred_orient.calls a0_0 a0_1 a1_0 a1_1 a3_0 a3_1 t363 _ A46.out).mono ?_
      rintro e w62 ⟨rfl, hb⟩
      refine ⟨_, rfl, ?_⟩
      have n0_ := u1 BK354 hb
      have n1_ := u1 BK355 hb
      have n2_ := u1 BK356 hb
      have n3_ := u1 BK357 hb
      have n4_ := Aside0.mk (below_step (bw HB.out) hb)
      clear BK354
      clear BK355
      clear BK356
      clear BK357
      clear HB
      have BK354 := n0_
      have BK355 := n1_
      have BK356 := n2_
      have BK357 := n3_
      have HB := n4_
      clear n0_ n1_ n2_ n3_ n4_
      (try clear hb)
      (try clear hb2)
      (try clear hk)
      (try clear hi)
      refine hK.out _ _ ⟨(p2 BK354).1, (p2 BK354).2.1, (p2 BK355).1, (p2 BK355).2.1, (p2 BK357).1, (p2 BK357).2.1, (p2 BK356).1, (p2 BK356).2.1⟩ (fun hHeld => ?_)
      clear hK K
      refine norm_ (a' := ?_) ?_ ?_
      rotate_left
      ·show Act.put _ (some 27) _ = _
       simp only [Act.put, s1, s2, s3, i64_w, i32_w]
       rfl
      refine one_ (i := 7) (N := some 31) #[T_,T_,T_,T_,T_,T_,T_,T_,T_,T_,T_,F_,F_,F_] rfl rfl (one_of HT_.out (by kernel_rfl)) (by decide) (fun K hK => ?_)
      refine goes_ Try.func38 (by kernel_rfl) rfl #[.agg #[.int .i64 a1_0, .int .i64 a1_1], .agg #[.int .i64 a2_0, .int .i64 a2_1], .agg #[.int .i64 a3_0, .int .i64 a3_1]] (by rfl) rfl rfl (by (try simp only [List.map_toArray, List.map_cons, List.map_nil]); first | done | rfl | (simp only [List.length_drop, List.length_take]; rfl)) ?_
      with_reducible refine (pred_orient.calls a1_0 a1_1 a2_0 a2_1 a3_0 a3_1 t364 _ A47.out).mono ?_
      rintro e w63 ⟨rfl, hb⟩
      refine ⟨_, rfl, ?_⟩
      have n0_ := u1 BK354 hb
      have n1_ := u1 BK355 hb
      have n2_ := u1 BK356 hb
      have n3_ := u1 BK357 hb
      have n4_ := Aside0.mk (below_step (bw HB.out) hb)
      clear BK354
      clear BK355
      clear BK356
      clear BK357
      clear HB
      have BK354 := n0_
      have BK355 := n1_
      have BK356 := n2_
      have BK357 := n3_
      have HB := n4_
      clear n0_ n1_ n2_ n3_ n4_
      (try clear hb)
      (try clear hb2)
      (try clear hk)
      (try clear hi)
      refine hK.out _ _ ⟨(p2 BK354).1, (p2 BK354).2.1, (p2 BK355).1, (p2 BK355).2.1, (p2 BK357).1, (p2 BK357).2.1, (p2 BK356).1, (p2 BK356).2.1⟩ (fun hHeld => ?_)
      clear hK K
      refine norm_ (a' := ?_) ?_ ?_
      rotate_left
      ·show Act.put _ (some 31) _ = _
       simp only [Act.put, s1, s2, s3, i64_w, i32_w]
       rfl
      refine one_ (i := 11) (N := some 35) #[T_,T_,T_,T_,T_,T_,T_,T_,T_,T_,T_,T_,F_,F_] rfl rfl (one_of HT_.out (by kernel_rfl)) (by decide) (fun K hK => ?_)
      refine goes_ Try.func38 (by kernel_rfl) rfl #[.agg #[.int .i64 a2_0, .int .i64 a2_1], .agg #[.int .i64 a0_0, .int .i64 a0_1], .agg #[.int .i64 a3_0, .int .i64 a3_1]] (by rfl) rfl rfl (by (try simp only [List.map_toArray, List.map_cons, List.map_nil]); first | done | rfl | (simp only [List.length_drop, List.length_take]; rfl)) ?_
      with_reducible refine (pred_orient.calls a2_0 a2_1 a0_0 a0_1 a3_0 a3_1 t365 _ A48.out).mono ?_
      rintro e w64 ⟨rfl, hb⟩
      refine ⟨_, rfl, ?_⟩
      have n0_ := u1 BK354 hb
      have n1_ := u1 BK355 hb
      have n2_ := u1 BK356 hb
      have n3_ := u1 BK357 hb
      have n4_ := Aside0.mk (below_step (bw HB.out) hb)
      clear BK354
      clear BK355
      clear BK356
      clear BK357
      clear HB
      have BK354 := n0_
      have BK355 := n1_
      have BK356 := n2_
      have BK357 := n3_
      have HB := n4_
      clear n0_ n1_ n2_ n3_ n4_
      (try clear hb)
      (try clear hb2)
      (try clear hk)
      (try clear hi)
      refine hK.out _ _ ⟨(p2 BK354).1, (p2 BK354).2.1, (p2 BK355).1, (p2 BK355).2.1, (p2 BK357).1, (p2 BK357).2.1, (p2 BK356).1, (p2 BK356).2.1⟩ (fun hHeld => ?_)
      clear hK K
      refine norm_ (a' := ?_) ?_ ?_
      rotate_left
      ·show Act.put _ (some 35) _ = _
       simp only [Act.put, s1, s2, s3, i64_w, i32_w]
       rfl
      refine pA (i := 12) (N := some 36) (v := ?_) (a' := ?_) #[T_,T_,T_,T_,T_,T_,T_,T_,T_,T_,T_,T_,T_,F_] rfl rfl HT_ (Or.inl ⟨by rfl, ?_⟩) ?_ ?_
      rotate_left
      ·intro w'
       go_simp
       with_reducible rfl
      rotate_left
      ·simp only [Act.put, s1, s2, s3, i64_w, i32_w]
       rfl
      refine pA (i := 13) (N := some 9) (v := ?_) (a' := ?_) #[T_,T_,T_,T_,T_,T_,T_,T_,T_,T_,T_,T_,T_,T_] rfl rfl HT_ (Or.inl ⟨by rfl, ?_⟩) ?_ ?_
      rotate_left
      ·intro w'
       go_simp
       with_reducible rfl
      rotate_left
      ·simp only [Act.put, s1, s2, s3, i64_w, i32_w]
       rfl
      refine done_ (done_of HT_.out (by kernel_rfl)) ?_
      try go_wp2
      go_ret
      exact ⟨by first | rfl | (simp [errW_none, errW_some] <;> rfl) | (simp only [← hji49, ← hji50]; first | rfl | (simp [errW_none, errW_some] <;> rfl)) | (simp [*, errW_none, errW_some] <;> rfl), bw HB.out⟩
end Go.Proofs.Ytmeckkckjikjiaa.F
end
section
namespace Go.Proofs.Ytmeckkckjikjiaa.F
open RowKit YtmeckkckjikjiaaW.PrintWords YtmeckkckjikjiaaW.PrintLast YtmeckkckjikjiaaW.PrintMore
set_option linter.unusedVariables false
set_option linter.unusedSimpArgs false
def pred_square.f (a0_0 : Int) (a0_1 : Int) : Option (Int × Int) := (wide_Mul.f a0_0 a0_0).bind fun bt133 => ((wide_Mul.f a0_1 a0_1).bind fun bt135 => ((wide_Add.f bt133.1 bt133.2 bt135.1 bt135.2).bind fun bt137 => (some (bt137.1, bt137.2))))
def pred_square.T1 : Bool × List (List Nat × List Nat) := (true, [([], []), ([0], [0]), ([], []), ([2], [2]), ([1, 3], [1, 3]), ([], []), ([5], [5]), ([], []), ([7], [7]), ([6, 8, 4], [6, 8]), ([4, 9, 9], [4, 9]), ([10, 10, 0, 1, 2, 3, 4, 5, 6, 7, 8, 9, 10], [10])])
def pred_square.B1 : List Nat := [0, 1, 0, 4, 15, 0, 32, 0, 128, 511, 1023, 2047]
theorem pred_square.tab1 : rtab .any (opsOf Try.f26 1) = pred_square.T1 := by kernel_rfl
theorem pred_square.bits1 : waitsOk pred_square.T1.2 pred_square.B1 = true := by kernel_rfl
set_option maxHeartbeats 8000000 in
set_option maxRecDepth 100000 in
theorem pred_square.calls (a0_0 : Int) (a0_1 : Int) (r1 : Int) (r2 : Int) (w : World) (h : pred_square.f a0_0 a0_1 = some (r1, r2)) :
  Calls Try.prog 26 #[.agg #[.int .i64 a0_0, .int .i64 a0_1]] w fun e w' => e = .returned (.agg #[.int .i64 r1, .int .u64 r2]) ∧ Below w.heap.size w w' := by
 have hu23 := Try.underlying23
 have hu37 := Try.underlying37
 have HB := Aside0.mk (Below.refl w.heap.size w)
 have H : ((wide_Mul.f a0_0 a0_0).bind fun bt133 => ((wide_Mul.f a0_1 a0_1).bind fun bt135 => ((wide_Add.f bt133.1 bt133.2 bt135.1 bt135.2).bind fun bt137 => (some (bt137.1, bt137.2))))) = some (r1, r2) := h
 clear h
 replace H := Option.bind_eq_some_iff.mp H
 obtain ⟨⟨t133, t134⟩, A20, H⟩ := H
 try dsimp only at H
 have A2 := Aside0.mk A20
 clear A20
 replace H := Option.bind_eq_some_iff.mp H
 obtain ⟨⟨t135, t136⟩, A30, H⟩ := H
 try dsimp only at H
 have A3 := Aside0.mk A30
 clear A30
 replace H := Option.bind_eq_some_iff.mp H
 obtain ⟨⟨t137, t138⟩, A40, H⟩ := H
 try dsimp only at H
 have A4 := Aside0.mk A40
 clear A40
 simp only [Option.some.injEq, Prod.mk.injEq] at H
 obtain ⟨rfl, rfl⟩ := H
 go_enter Try.func26, Try.ntmps26
 try go_wp2_with (first | ((with_reducible refine gate_dst (N := 1) rfl ?_); refine bx 1 #[.int .i64 a0_0, .int .i64 a0_1] 23 ?_; intro gb131 hg w5 hbox hb; have BK131 := Aside0.mk hbox; have GW131 := u3 hg HB; have GE131 := u3 hg HB; replace HB := u2 HB hb; clear hb hbox hg) | ((with_reducible refine gate_dst (N := 2) rfl ?_); refine bx 2 #[.int .i64 0, .int .u64 0] 37 ?_; intro gb132 hg w6 hbox hb; have BK132 := Aside0.mk hbox; have GW132 := u3 hg HB; have GE132 := u3 hg HB; have NB131_132 := u4 hg BK131; have NB132_131 := u5 hg BK131; replace BK131 := u1 BK131 hb; replace HB := u2 HB hb; clear hb hbox hg))
 have n0_ := Aside0.mk (blk_drew BK131.out)
 have n1_ := Aside0.mk (blk_drew BK132.out)
 have n2_ := Aside0.mk (below_drew1 HB.out)
 clear BK131
 clear BK132
 clear HB
 have BK131 := n0_
 have BK132 := n1_
 have HB := n2_
 clear n0_ n1_ n2_
 refine start_ (n := 12) (S := fun w' => w'.cell? ⟨gb131, 0, none⟩ = some (.int .i64 a0_0) ∧ w'.cell? ⟨gb131, 1, none⟩ = some (.int .i64 a0_1)) (ds := []) #[F_,F_,F_,F_,F_,F_,F_,F_,F_,F_,F_,F_] (by kernel_rfl) rfl rfl ⟨(p2 BK131).1, (p2 BK131).2.1⟩ (fun hHeld => ?_); refine with_tabW pred_square.tab1 pred_square.bits1 (fun HT_ HW_ => ?_)
 generalize w6.drew = w7 at BK131 BK132 HB hHeld ⊢
 refine pA (i := 0) (N := some 3) (v := ?_) (a' := ?_) #[T_,F_,F_,F_,F_,F_,F_,F_,F_,F_,F_,F_] rfl rfl HT_ (Or.inl ⟨by rfl, ?_⟩) ?_ ?_
 rotate_left
 ·intro w'
  go_simp
  with_reducible rfl
 rotate_left
 ·simp only [Act.put, s1, s2, s3, i64_w, i32_w]
  rfl
 refine pA (i := 2) (N := some 5) (v := ?_) (a' := ?_) #[T_,F_,T_,F_,F_,F_,F_,F_,F_,F_,F_,F_] rfl rfl HT_ (Or.inl ⟨by rfl, ?_⟩) ?_ ?_
 rotate_left
 ·intro w'
  go_simp
  with_reducible rfl
 rotate_left
 ·simp only [Act.put, s1, s2, s3, i64_w, i32_w]
  rfl
 refine pA (i := 5) (N := some 8) (v := ?_) (a' := ?_) #[T_,F_,T_,F_,F_,T_,F_,F_,F_,F_,F_,F_] rfl rfl HT_ (Or.inl ⟨by rfl, ?_⟩) ?_ ?_
 rotate_left
 ·intro w'
  go_simp
  with_reducible rfl
 rotate_left
 ·simp only [Act.put, s1, s2, s3, i64_w, i32_w]
  rfl
 refine pA (i := 7) (N := some 10) (v := ?_) (a' := ?_) #[T_,F_,T_,F_,F_,T_,F_,T_,F_,F_,F_,F_] rfl rfl HT_ (Or.inl ⟨by rfl, ?_⟩) ?_ ?_
 rotate_left
 ·intro w'
  go_simp
  with_reducible rfl
 rotate_left
 ·simp only [Act.put, s1, s2, s3, i64_w, i32_w]
  rfl
 refine tA (i := 1) (N := some 4) (v := ?_) (a' := ?_) #[T_,T_,T_,F_,F_,T_,F_,T_,F_,F_,F_,F_] rfl rfl HT_ HW_ (Or.inl ⟨by rfl, ?_⟩) hHeld ?_ ?_
 rotate_left
 ·rintro w' ⟨s0, s1⟩
  go_simp
  with_reducible rfl
 rotate_left
 ·simp only [Act.put, s1, s2, s3, i64_w, i32_w]
  rfl
 refine tA (i := 3) (N := some 6) (v := ?_) (a' := ?_) #[T_,T_,T_,T_,F_,T_,F_,T_,F_,F_,F_,F_] rfl rfl HT_ HW_ (Or.inl ⟨by rfl, ?_⟩) hHeld ?_ ?_
 rotate_left
 ·rintro w' ⟨s0, s1⟩
  go_simp
  with_reducible rfl
 rotate_left
 ·simp only [Act.put, s1, s2, s3, i64_w, i32_w]
  rfl
 refine tA (i := 6) (N := some 9) (v := ?_) (a' := ?_) #[T_,T_,T_,T_,F_,T_,T_,T_,F_,F_,F_,F_] rfl rfl HT_ HW_ (Or.inl ⟨by rfl, ?_⟩) hHeld ?_ ?_
 rotate_left
 ·rintro w' ⟨s0, s1⟩
  go_simp
  with_reducible rfl
 rotate_left
 ·simp only [Act.put, s1, s2, s3, i64_w, i32_w]
  rfl
 refine tA (i := 8) (N := some 11) (v := ?_) (a' := ?_) #[T_,T_,T_,T_,F_,T_,T_,T_,T_,F_,F_,F_] rfl rfl HT_ HW_ (Or.inl ⟨by rfl, ?_⟩) hHeld ?_ ?_
 rotate_left
 ·rintro w' ⟨s0, s1⟩
  go_simp
  with_reducible rfl
 rotate_left
 ·simp only [Act.put, s1, s2, s3, i64_w, i32_w]
  rfl
 refine one_ (i := 4) (N := some 7) #[T_,T_,T_,T_,T_,T_,T_,T_,T_,F_,F_,F_] rfl rfl (one_of HT_.out (by kernel_rfl)) (by decide) (fun K hK => ?_)
 refine goes_ Try.func49 (by kernel_rfl) rfl #[.int .i64 a0_0, .int .i64 a0_0] (by rfl) rfl rfl (by (try simp only [List.map_toArray, List.map_cons, List.map_nil]); first | done | rfl | (simp only [List.length_drop, List.length_take]; rfl)) ?_
 with_reducible refine (wide_Mul.calls a0_0 a0_0 t133 t134 _ A2.out).mono ?_
 rintro e w8 ⟨rfl, hb⟩
 refine ⟨_, rfl, ?_⟩
 have n0_ := u1 BK131 hb
 have n1_ := u1 BK132 hb
 have n2_ := Aside0.mk (below_step (bw HB.out) hb)
 clear BK131
 clear BK132
 clear HB
 have BK131 := n0_
 have BK132 := n1_
 have HB := n2_
 clear n0_ n1_ n2_
 (try clear hb)
 (try clear hb2)
 (try clear hk)
 (try clear hi)
 refine hK.out _ _ ⟨(p2 BK131).1, (p2 BK131).2.1⟩ (fun hHeld => ?_)
 clear hK K
 refine norm_ (a' := ?_) ?_ ?_
 rotate_left
 ·show Act.put _ (some 7) _ = _
  simp only [Act.put, s1, s2, s3, i64_w, i32_w]
  rfl
 refine one_ (i := 9) (N := some 12) #[T_,T_,T_,T_,T_,T_,T_,T_,T_,T_,F_,F_] rfl rfl (one_of HT_.out (by kernel_rfl)) (by decide) (fun K hK => ?_)
 refine goes_ Try.func49 (by kernel_rfl) rfl #[.int .i64 a0_1, .int .i64 a0_1] (by rfl) rfl rfl (by (try simp only [List.map_toArray, List.map_cons, List.map_nil]); first | done | rfl | (simp only [List.length_drop, List.length_take]; rfl)) ?_
 with_reducible refine (wide_Mul.calls a0_1 a0_1 t135 t136 _ A3.out).mono ?_
 rintro e w9 ⟨rfl, hb⟩
 refine ⟨_, rfl, ?_⟩
 have n0_ := u1 BK131 hb
 have n1_ := u1 BK132 hb
 have n2_ := Aside0.mk (below_step (bw HB.out) hb)
 clear BK131
 clear BK132
 clear HB
 have BK131 := n0_
 have BK132 := n1_
 have HB := n2_
 clear n0_ n1_ n2_
 (try clear hb)
 (try clear hb2)
 (try clear hk)
 (try clear hi)
 refine hK.out _ _ ⟨(p2 BK131).1, (p2 BK131).2.1⟩ (fun hHeld => ?_)
 clear hK K
 refine norm_ (a' := ?_) ?_ ?_
 rotate_left
 ·show Act.put _ (some 12) _ = _
  simp only [Act.put, s1, s2, s3, i64_w, i32_w]
  rfl
 refine one_ (i := 10) (N := some 13) #[T_,T_,T_,T_,T_,T_,T_,T_,T_,T_,T_,F_] rfl rfl (one_of HT_.out (by kernel_rfl)) (by decide) (fun K hK => ?_)
 refine goes_ Try.func48 (by kernel_rfl) rfl #[.agg #[.int .i64 t133, .int .u64 t134], .agg #[.int .i64 t135, .int .u64 t136]] (by rfl) rfl rfl (by (try simp only [List.map_toArray, List.map_cons, List.map_nil]); first | done | rfl | (simp only [List.length_drop, List.length_take]; rfl)) ?_
 with_reducible refine (wide_Add.calls t133 t134 t135 t136 t137 t138 _ A4.out).mono ?_
 rintro e w10 ⟨rfl, hb⟩
 refine ⟨_, rfl, ?_⟩
 have n0_ := u1 BK131 hb
 have n1_ := u1 BK132 hb
 have n2_ := Aside0.mk (below_step (bw HB.out) hb)
 clear BK131
 clear BK132
 clear HB
 have BK131 := n0_
 have BK132 := n1_
 have HB := n2_
 clear n0_ n1_ n2_
 (try clear hb)
 (try clear hb2)
 (try clear hk)
 (try clear hi)
 refine hK.out _ _ ⟨(p2 BK131).1, (p2 BK131).2.1⟩ (fun hHeld => ?_)
 clear hK K
 refine norm_ (a' := ?_) ?_ ?_
 rotate_left
 ·show Act.put _ (some 13) _ = _
  simp only [Act.put, s1, s2, s3, i64_w, i32_w]
  rfl
 refine one_ (i := 11) (N := none) #[T_,T_,T_,T_,T_,T_,T_,T_,T_,T_,T_,T_] rfl rfl (one_of HT_.out (by kernel_rfl)) (by decide) (fun K hK => ?_)
 have hs11 : w10.cell? ⟨gb132, 0, none⟩ = some (.int .i64 0) := (blk_cell BK132.out 0).trans rfl
 have hfs11 := blk_frozen BK132.out 0
 have hns11_0 := NB131_132.out
 have hms11_0 := NB132_131.out
 have hs12 : w10.cell? ⟨gb132, 1, none⟩ = some (.int .u64 0) := (blk_cell BK132.out 1).trans rfl
 have hfs12 := blk_frozen BK132.out 1
 have hns12_0 := NB131_132.out
 have hms12_0 := NB132_131.out
 refine skip_ (w1 := ?_) (by rfl) rfl ?_ ?_
 rotate_left
 ·go_simp
  rfl
 refine hK.out _ _ ⟨((cell_far (p := ⟨gb132, _, none⟩) NB131_132.out _).trans (((cell_far (p := ⟨gb132, _, none⟩) NB131_132.out _).trans (hHeld.1)))), ((cell_far (p := ⟨gb132, _, none⟩) NB131_132.out _).trans (((cell_far (p := ⟨gb132, _, none⟩) NB131_132.out _).trans (hHeld.2))))⟩ (fun hHeld => ?_)
 clear hK K
 refine done_ (done_of HT_.out (by kernel_rfl)) ?_
 try go_wp2
 refine bodyPost_ret (results_cell_row rfl _ _ gb132 37 #[.int .i64 t137, .int .u64 t138] (0, 0) _ rfl (by (with_reducible repeat (first | refine blk_drewN ?_ _ | refine blk_drew ?_ | refine blk_alloc ?_ _)); refine blk_put (cs := #[.int .i64 t137, .int .u64 0]) ?_ 1 _ rfl; refine blk_put (cs := #[.int .i64 0, .int .u64 0]) ?_ 0 _ rfl; (with_reducible repeat (first | refine blk_drewN ?_ _ | refine blk_drew ?_ | refine blk_alloc ?_ _)); exact BK132.out) Try.underlying37 rfl (by kernel_rfl)) rfl ?_
 exact ⟨by first | rfl | (simp [*, errW_none, errW_some] <;> rfl), by repeat (first | (with_reducible first | exact HB.out | apply below_alloc | apply pw_below_drewN | apply below_drew1 | refine below_set ?_ GE131.out | refine below_set ?_ GE132.out) | exact HB.out)⟩
end Go.Proofs.Ytmeckkckjikjiaa.F
end
section
namespace Go.Proofs.Ytmeckkckjikjiaa.Pd
open Go RowKit YtmeckkckjikjiaaW.PrintWords Ytmeckkckjikjiaa.F Ytmeckkckjikjiaa.Wd Ytmeckkckjikjiaa.Pm
set_option linter.unusedVariables false
theorem p64 {x : Int} (h : -9223372036854775808 ≤ x ∧ x ≤ 9223372036854775807) : wrap64 x = x := by unfold wrap64; omega
abbrev CoP (a b : Int) : Prop := Co a ∧ Co b
theorem can_f (a b : Int) : lift_Can.f a b = some (decide (CoP a b)) := by
 unfold lift_Can.f lift_can.f lift_within.f CoP Co
 by_cases h1 : a ≥ -1099511627776
 ·rw [if_pos h1, Option.bind_some]
  by_cases h2 : a ≤ 1099511627776
  ·rw [if_pos (decide_eq_true h2)]
   by_cases h3 : b ≥ -1099511627776
   ·rw [if_pos h3, Option.bind_some, Option.bind_some]
    congr 1
    rw [decide_eq_decide]
    omega
   ·rw [if_neg h3, Option.bind_some, Option.bind_some, decide_eq_false (by omega)]
  ·rw [if_neg (by rw [decide_eq_true_eq]; exact h2), Option.bind_some, decide_eq_false (by omega)]
 ·rw [if_neg h1, Option.bind_some, if_neg (by decide), Option.bind_some, decide_eq_false (by omega)]
theorem pcan_l0 (l : List S23) (hl : l.length ≤ 1000) : ∀ (d k i : Nat), l.length - i = d → i ≤ l.length → d < k → pred_can.l0 k l (l.length : Int) (i : Int) = some (decide (∀ p ∈ l.drop i, CoP p.f0 p.f1)) := by
 intro d
 induction d with
 | zero =>
  intro k i h1 h2 h3
  obtain ⟨k, rfl⟩ : ∃ m, k = m + 1 := ⟨k - 1, by omega⟩
  rw [pred_can.l0, if_neg (by omega), List.drop_of_length_le (by omega)]
  simp
 | succ d ih =>
  intro k i h1 h2 h3
  obtain ⟨k, rfl⟩ : ∃ m, k = m + 1 := ⟨k - 1, by omega⟩
  have hi : i < l.length := by omega
  have e1 := Aside0.mk (show wrap64 ((i : Int) + 1) = ((i + 1 : Nat) : Int) by rw [p64 (by omega)]; omega)
  have e2 : l.drop i = l[i] :: l.drop (i + 1) := List.drop_eq_getElem_cons hi
  have e3 : rd_T23 l (i : Int) = l[i] := by unfold rd_T23; simp [List.getD_eq_getElem?_getD, hi]
  rw [pred_can.l0, if_pos (by omega), if_pos (by omega), if_pos (by omega), e3, can_f, Option.bind_some, e1.out, ih k (i + 1) (by omega) (by omega) (by omega), e2]
  by_cases h : CoP l[i].f0 l[i].f1
  ·rw [if_pos (decide_eq_true h)]
   congr 1
   rw [decide_eq_decide]
   simp only [List.mem_cons, forall_eq_or_imp]
   exact ⟨fun q => ⟨h, q⟩, fun q => q.2⟩
  ·rw [if_neg (by rw [decide_eq_true_eq]; exact h)]
   congr 1
   exact (decide_eq_false (fun q => h (q _ (List.mem_cons_self)))).symm
theorem pcan_f (l : List S23) (hl : l.length ≤ 1000) {k : Nat} (hk : 2000 ≤ k) : pred_can.f k l = some (decide (∀ p ∈ l, CoP p.f0 p.f1)) := by
 unfold pred_can.f
 have := pcan_l0 l hl l.length k 0 rfl (Nat.zero_le _) (by omega)
 rw [List.drop_zero] at this
 exact this
theorem can2 (a0 a1 b0 b1 : Int) {k : Nat} (hk : 2000 ≤ k) : pred_can.f k [(⟨a0, a1⟩ : S23), (⟨b0, b1⟩ : S23)] = some (decide (CoP a0 a1 ∧ CoP b0 b1)) := by
 rw [pcan_f _ (by simp) hk]; simp
theorem can3 (a0 a1 b0 b1 c0 c1 : Int) {k : Nat} (hk : 2000 ≤ k) : pred_can.f k [(⟨a0, a1⟩ : S23), (⟨b0, b1⟩ : S23), (⟨c0, c1⟩ : S23)] = some (decide (CoP a0 a1 ∧ CoP b0 b1 ∧ CoP c0 c1)) := by
 rw [pcan_f _ (by simp) hk]; simp
theorem can4 (a0 a1 b0 b1 c0 c1 d0 d1 : Int) {k : Nat} (hk : 2000 ≤ k) : pred_can.f k [(⟨a0, a1⟩ : S23), (⟨b0, b1⟩ : S23), (⟨c0, c1⟩ : S23), (⟨d0, d1⟩ : S23)] = some (decide (CoP a0 a1 ∧ CoP b0 b1 ∧ CoP c0 c1 ∧ CoP d0 d1)) := by
 rw [pcan_f _ (by simp) hk]; simp
theorem way_f {a0 a1 b0 b1 : Int} (ha : CoP a0 a1) (hb : CoP b0 b1) : pred_way.f a0 a1 b0 b1 = some (b0 - a0, b1 - a1) := by
 unfold CoP Co at *
 unfold pred_way.f
 rw [p64 (by omega), p64 (by omega)]
theorem am_w {n : Int} {B : Nat} (h : Am n B) (hB : B ≤ 170141183460469231731687303715884105727) : wv (whi n) (wlo n) = n := wv_small (by have := h.le; omega)
theorem across_f {x0 x1 y0 y1 : Int} (h0 : Am x0 2199023255552) (h1 : Am x1 2199023255552) (h2 : Am y0 2199023255552) (h3 : Am y1 2199023255552) : pred_across.f x0 x1 y0 y1 = some (whi (x0 * y1 - x1 * y0), wlo (x0 * y1 - x1 * y0)) := by
 have m0 := h0.le; have m1 := h1.le; have m2 := h2.le; have m3 := h3.le
 unfold pred_across.f
 rw [wmul_f (by omega) (by omega), Option.bind_some, wmul_f (by omega) (by omega), Option.bind_some, wsub_f (wok_of _) (wok_of _), Option.bind_some, am_w (Am.mul h0 h3) (by omega), am_w (Am.mul h1 h2) (by omega)]
theorem square_f {x0 x1 : Int} (h0 : Am x0 2199023255552) (h1 : Am x1 2199023255552) : pred_square.f x0 x1 = some (whi (x0 * x0 + x1 * x1), wlo (x0 * x0 + x1 * x1)) := by
 have m0 := h0.le; have m1 := h1.le
 unfold pred_square.f
 rw [wmul_f (by omega) (by omega), Option.bind_some, wmul_f (by omega) (by omega), Option.bind_some, wadd_f (wok_of _) (wok_of _), Option.bind_some, am_w (Am.mul h0 h0) (by omega), am_w (Am.mul h1 h1) (by omega)]
theorem orient_f {a0 a1 b0 b1 c0 c1 : Int} (ha : CoP a0 a1) (hb : CoP b0 b1) (hc : CoP c0 c1) : pred_orient.f a0 a1 b0 b1 c0 c1 = some (ar a0 a1 b0 b1 c0 c1).sign := by
 unfold pred_orient.f
 rw [way_f ha hb, Option.bind_some, way_f ha hc, Option.bind_some, across_f (hb.1.way ha.1) (hb.2.way ha.2) (hc.1.way ha.1) (hc.2.way ha.2), Option.bind_some, sign_f (wok_of _), Option.bind_some, am_w (cross_am (hb.1.way ha.1) (hb.2.way ha.2) (hc.1.way ha.1) (hc.2.way ha.2)) (by omega)]
 rfl
def orS (a0 a1 b0 b1 c0 c1 : Int) : Int := if CoP a0 a1 ∧ CoP b0 b1 ∧ CoP c0 c1 then (ar a0 a1 b0 b1 c0 c1).sign else 0
theorem Orient_f (a0 a1 b0 b1 c0 c1 : Int) {k : Nat} (hk : 2000 ≤ k) : pred_Orient.f k a0 a1 b0 b1 c0 c1 = some (orS a0 a1 b0 b1 c0 c1) := by
 unfold pred_Orient.f orS
 rw [can3 _ _ _ _ _ _ hk, Option.bind_some]
 by_cases h : CoP a0 a1 ∧ CoP b0 b1 ∧ CoP c0 c1
 ·rw [if_pos (decide_eq_true h), orient_f h.1 h.2.1 h.2.2, if_pos h]; rfl
 ·rw [if_neg (by rw [decide_eq_true_eq]; exact h), if_neg h]
def whS (a0 a1 b0 b1 c0 c1 d0 d1 : Int) : Int := if (CoP a0 a1 ∧ CoP b0 b1 ∧ CoP c0 c1 ∧ CoP d0 d1) ∧ 0 < ar a0 a1 b0 b1 c0 c1 then
  (if ar a0 a1 b0 b1 d0 d1 < 0 ∨ ar b0 b1 c0 c1 d0 d1 < 0 ∨ ar c0 c1 a0 a1 d0 d1 < 0 then -1 else if ar a0 a1 b0 b1 d0 d1 = 0 ∨ ar b0 b1 c0 c1 d0 d1 = 0 ∨ ar c0 c1 a0 a1 d0 d1 = 0 then 1 else 2) else 0
theorem sign_pos (n : Int) : n.sign = 1 ↔ 0 < n := Int.sign_eq_one_iff_pos
theorem sign_cases (n : Int) : (n < 0 ∧ n.sign = -1) ∨ (n = 0 ∧ n.sign = 0) ∨ (0 < n ∧ n.sign = 1) := by
 rcases Int.lt_trichotomy n 0 with h | h | h
 ·exact .inl ⟨h, Int.sign_eq_neg_one_of_neg h⟩
 ·subst h; exact .inr (.inl ⟨rfl, rfl⟩)
 ·exact .inr (.inr ⟨h, Int.sign_eq_one_of_pos h⟩)
theorem mn_eq (a b : Int) : mn a b = if a ≤ b then a else b := by
 unfold mn; split <;> split <;> omega
theorem Where_f (a0 a1 b0 b1 c0 c1 d0 d1 : Int) {k : Nat} (hk : 2000 ≤ k) : pred_Where.f k a0 a1 b0 b1 c0 c1 d0 d1 = some (whS a0 a1 b0 b1 c0 c1 d0 d1) := by
 obtain ⟨k', rfl⟩ : ∃ m, k = m + 1 := ⟨k - 1, by omega⟩
 unfold pred_Where.f whS
 rw [can4 _ _ _ _ _ _ _ _ hk, Option.bind_some]
 by_cases h : CoP a0 a1 ∧ CoP b0 b1 ∧ CoP c0 c1 ∧ CoP d0 d1
 ·obtain ⟨ha, hb, hc, hd⟩ := h
  rw [if_pos (decide_eq_true ⟨ha, hb, hc, hd⟩), orient_f ha hb hc, Option.bind_some, pred_Where.j0, orient_f ha hb hd, orient_f hb hc hd, orient_f hc ha hd, Option.bind_some, Option.bind_some, Option.bind_some]
  by_cases p : 0 < ar a0 a1 b0 b1 c0 c1
  ·rw [if_neg (by rw [(sign_pos _).2 p]; decide), mn_eq, mn_eq, if_pos (show (CoP a0 a1 ∧ CoP b0 b1 ∧ CoP c0 c1 ∧ CoP d0 d1) ∧ 0 < ar a0 a1 b0 b1 c0 c1 from ⟨⟨ha, hb, hc, hd⟩, p⟩)]
   rcases sign_cases (ar a0 a1 b0 b1 d0 d1) with ⟨x, x'⟩ | ⟨x, x'⟩ | ⟨x, x'⟩ <;> rcases sign_cases (ar b0 b1 c0 c1 d0 d1) with ⟨y, y'⟩ | ⟨y, y'⟩ | ⟨y, y'⟩ <;> rcases sign_cases (ar c0 c1 a0 a1 d0 d1) with ⟨z, z'⟩ | ⟨z, z'⟩ | ⟨z, z'⟩ <;>
    rw [x', y', z'] <;> first | (rw [if_pos (show ar a0 a1 b0 b1 d0 d1 < 0 ∨ ar b0 b1 c0 c1 d0 d1 < 0 ∨ ar c0 c1 a0 a1 d0 d1 < 0 by omega)]; rfl) | (rw [if_neg (show ¬ (ar a0 a1 b0 b1 d0 d1 < 0 ∨ ar b0 b1 c0 c1 d0 d1 < 0 ∨ ar c0 c1 a0 a1 d0 d1 < 0) by omega), if_pos (show ar a0 a1 b0 b1 d0 d1 = 0 ∨ ar b0 b1 c0 c1 d0 d1 = 0 ∨ ar c0 c1 a0 a1 d0 d1 = 0 by omega)]; rfl) | (rw [if_neg (show ¬ (ar a0 a1 b0 b1 d0 d1 < 0 ∨ ar b0 b1 c0 c1 d0 d1 < 0 ∨ ar c0 c1 a0 a1 d0 d1 < 0) by omega), if_neg (show ¬ (ar a0 a1 b0 b1 d0 d1 = 0 ∨ ar b0 b1 c0 c1 d0 d1 = 0 ∨ ar c0 c1 a0 a1 d0 d1 = 0) by omega)]; rfl)
  ·rw [if_pos (by rw [bne_iff_ne]; exact fun q => p ((sign_pos _).1 q)), if_neg (fun q => p q.2)]
 ·rw [if_neg (by rw [decide_eq_true_eq]; exact h), pred_Where.j0, if_pos rfl, if_neg (fun q => h q.1)]
end Go.Proofs.Ytmeckkckjikjiaa.Pd
end
section
namespace Go.Proofs.Ytmeckkckjikjiaa.Rf
open Go RowKit YtmeckkckjikjiaaW.PrintWords YtmeckkckjikjiaaW.PrintLast Ytmeckkckjikjiaa.Whole Ytmeckkckjikjiaa.Reg Ytmeckkckjikjiaa.Pm Ytmeckkckjikjiaa.Pd Ytmeckkckjikjiaa.Wd
set_option linter.unusedVariables false
set_option linter.unusedSimpArgs false
theorem sm_am {n : Int} {B : Nat} (h : Am n B) (hB : B ≤ 115792089237316195423570985008687907853269984665640564039457584007913129639936) : Sm n := Sm.of (by have := h.le; omega) (by have := h.le; omega)
theorem co_wf {n : Int} (h : Co n) : (Lit.int .i64 n).wf = true := by unfold Co at h; exact WalkArith.wf_i64 (by omega)
theorem four_new (w : World) (o0 o1 o2 o3 : Obj) : ((((w.alloc o0).alloc o1).alloc o2).alloc o3).heap[w.heap.size]? = some o0 ∧ ((((w.alloc o0).alloc o1).alloc o2).alloc o3).heap[w.heap.size + 1]? = some o1 ∧ ((((w.alloc o0).alloc o1).alloc o2).alloc o3).heap[w.heap.size + 1 + 1]? = some o2 ∧ ((((w.alloc o0).alloc o1).alloc o2).alloc o3).heap[w.heap.size + 1 + 1 + 1]? = some o3 ∧
  Below w.heap.size w ((((w.alloc o0).alloc o1).alloc o2).alloc o3) ∧ ((((w.alloc o0).alloc o1).alloc o2).alloc o3).heap.size = w.heap.size + 1 + 1 + 1 + 1 := by
 obtain ⟨n0, n1, n2, bw, nw⟩ := three_new w o0 o1 o2
 generalize (((w.alloc o0).alloc o1).alloc o2) = W at *
 have e := blk_new W o3
 rw [nw] at e
 have hb : Below W.heap.size W (W.alloc o3) := (Below.refl _ _).alloc (Nat.le_refl _) _
 exact ⟨blk_below n0 hb, blk_below n1 hb, blk_below n2 hb, e, below_then bw bw.size hb, by rw [World.alloc]; simp [nw]⟩
theorem diff_c (x y : Int) (hx : (Lit.int .i64 x).wf = true) (hy : (Lit.int .i64 y).wf = true) (w : World) :
  Calls Try.prog 34 #[.int .i64 x, .int .i64 y] w fun e w' => ∃ r, e = .returned r ∧ NI w' r (y - x) ∧ Below w.heap.size w w' := by
 have bx := bounds_i64 hx; have bY := bounds_i64 hy
 have SX := Aside0.mk (Sm.of (n := x) (by omega) (by omega)); have SY := Aside0.mk (Sm.of (n := y) (by omega) (by omega))
 go_enter Try.func34, Try.ntmps34
 go_wp2_with fail
 obtain ⟨n0, bw⟩ := one_new w (.cells #[.int .i64 0, .slice none 0 0] 33)
 generalize (w.alloc (.cells #[.int .i64 0, .slice none 0 0] 33)) = W at n0 bw ⊢
 refine (long_c y hy _).mono ?_
 rintro e w1 ⟨v, rfl, hN, hb⟩
 have N1 := Aside0.mk (blk_below n0 hb); have B1 := Aside0.mk (below_step bw hb); have HN := Aside0.mk hN
 clear n0 bw hb hN
 go_wp2_with fail
 refine (long_c x hx _).mono ?_
 rintro e w2 ⟨u, rfl, hN, hb⟩
 have N2 := Aside0.mk (blk_below N1.out hb); have B2 := Aside0.mk (below_step B1.out hb); have HM := Aside0.mk (HN.out.below hb); have HU := Aside0.mk hN
 clear N1 B1 HN hb hN
 go_wp2_with fail
 refine (sub_c _ _ y x SY.out SX.out _ HM.out HU.out).mono ?_
 rintro e w3 ⟨z, rfl, hN, hb⟩
 obtain ⟨s3, A3, l3, c3, rfl⟩ := hN.shape
 have m2 := blk_below N2.out hb
 have M2 := Aside0.mk m2; have B3 := Aside0.mk (below_step B2.out hb); have HZ := Aside0.mk hN
 clear N2 B2 HM HU hb hN
 have e4 : w3.cell? ⟨w.heap.size, 0, none⟩ = some (.int .i64 0) := (blk_cell m2 0).trans rfl
 have e5 : w3.cell? ⟨w.heap.size, 1, none⟩ = some (.slice none 0 0) := (blk_cell m2 1).trans rfl
 have g3 := blk_frozen m2 0; have g4 := blk_frozen m2 1
 clear m2
 go_wp2
 refine bodyPost_ret (results_cell_row rfl _ _ w.heap.size 33 #[.int .i64 s3, .slice A3 l3 c3] (0, 0) _ rfl (blk_put (cs := #[.int .i64 s3, .slice none 0 0]) (blk_put (cs := #[.int .i64 0, .slice none 0 0]) M2.out 0 _ rfl) 1 _ rfl) Try.underlying33 rfl (by kernel_rfl)) rfl ?_
 exact ⟨_, rfl, (HZ.out.store M2.out (by decide) 0 _).store (blk_put (cs := #[.int .i64 0, .slice none 0 0]) M2.out 0 _ rfl) (by decide) 1 _, below_set2 B3.out (by omega) _ _ _ _⟩
def area.T : Bool × List (List Nat × List Nat) := (true, [([], []), ([0], [0]), ([], []), ([2], [2]), ([1, 3], [1, 3]), ([], []), ([5], [5]), ([], []), ([7], [7]), ([6, 8, 4], [6, 8]), ([4, 9, 9], [4, 9]), ([], []), ([11], [11]), ([], []), ([13], [13]), ([12, 14, 10], [12, 14]), ([], []), ([16], [16]), ([], []), ([18], [18]), ([17, 19, 15], [17, 19]), ([15, 20, 20], [15, 20]), ([10, 21, 21], [10, 21]), ([22, 22, 0, 1, 2, 3, 4, 5, 6, 7, 8, 9, 10, 11, 12, 13, 14, 15, 16, 17, 18, 19, 20, 21, 22], [22])])
def area.B : List Nat := [0, 1, 0, 4, 15, 0, 32, 0, 128, 511, 1023, 0, 2048, 0, 8192, 32767, 0, 65536, 0, 262144, 1048575, 2097151, 4194303, 8388607]
theorem area.tab : rtab .any (opsOf Try.f20 1) = area.T := by kernel_rfl
theorem area.bits : waitsOk area.T.2 area.B = true := by kernel_rfl
set_option maxHeartbeats 8000000 in
set_option maxRecDepth 100000 in
theorem area_c {a0 a1 b0 b1 c0 c1 : Int} (ha : CoP a0 a1) (hb : CoP b0 b1) (hc : CoP c0 c1) (w : World) :
  Calls Try.prog 20 #[.agg #[.int .i64 a0, .int .i64 a1], .agg #[.int .i64 b0, .int .i64 b1], .agg #[.int .i64 c0, .int .i64 c1]] w fun e w' => ∃ r, e = .returned r ∧ NI w' r (ar a0 a1 b0 b1 c0 c1) ∧ Below w.heap.size w w' := by
 have x0 := hb.1.way ha.1; have x1 := hb.2.way ha.2; have y0 := hc.1.way ha.1; have y1 := hc.2.way ha.2
 have s1 := sm_am x0 (by omega); have s2 := sm_am y1 (by omega); have s3 := sm_am x1 (by omega); have s4 := sm_am y0 (by omega)
 have s5 := sm_am (Am.mul x0 y1) (by omega); have s6 := sm_am (Am.mul x1 y0) (by omega)
 have h_a0 := co_wf ha.1; have h_a1 := co_wf ha.2; have h_b0 := co_wf hb.1; have h_b1 := co_wf hb.2; have h_c0 := co_wf hc.1; have h_c1 := co_wf hc.2
 clear x0 x1 y0 y1
 unfold ar
 go_enter Try.func20, Try.ntmps20
 go_wp2_with fail
 obtain ⟨n0, n1, n2, n3, bw, nw⟩ := four_new w (.cells #[.int .i64 a0, .int .i64 a1] 23) (.cells #[.int .i64 b0, .int .i64 b1] 23) (.cells #[.int .i64 c0, .int .i64 c1] 23) (.cells #[.int .i64 0, .slice none 0 0] 33)
 generalize ((((w.alloc (.cells #[.int .i64 a0, .int .i64 a1] 23)).alloc (.cells #[.int .i64 b0, .int .i64 b1] 23)).alloc (.cells #[.int .i64 c0, .int .i64 c1] 23)).alloc (.cells #[.int .i64 0, .slice none 0 0] 33)) = W at n0 n1 n2 n3 bw nw ⊢
 obtain ⟨G, hGd⟩ : ∃ G : World → Prop, G = (fun w' => Below w.heap.size w w' ∧ w.heap.size + 1 + 1 + 1 + 1 ≤ w'.heap.size ∧ w'.heap[w.heap.size]? = some (.cells #[.int .i64 a0, .int .i64 a1] 23 (0, 0)) ∧ w'.heap[w.heap.size + 1]? = some (.cells #[.int .i64 b0, .int .i64 b1] 23 (0, 0)) ∧ w'.heap[w.heap.size + 1 + 1]? = some (.cells #[.int .i64 c0, .int .i64 c1] 23 (0, 0)) ∧ ∃ x y, w'.heap[w.heap.size + 1 + 1 + 1]? = some (.cells #[x, y] 33 (0, 0))) := ⟨_, rfl⟩
 have GM : ∀ w1 w2 : World, G w1 → Below w1.heap.size w1 w2 → G w2 := by
  subst hGd
  rintro w1 w2 ⟨HBl, HSz, Bx3, Bx4, Bx5, Rs⟩ hb
  exact ⟨below_step HBl hb, Nat.le_trans HSz hb.size, blk_below Bx3 hb, blk_below Bx4 hb, blk_below Bx5 hb, (Rs.elim fun x h => h.elim fun y h => ⟨x, y, blk_below h hb⟩)⟩
 have HM : ∀ w1 w2 : World, (fun _ => True) w1 → Below w1.heap.size w1 w2 → (fun _ => True) w2 := fun _ _ _ _ => True.intro
 have GR : ∀ (w1 : World) (x0 y0 x y : Value), G w1 → w1.heap[w.heap.size + 1 + 1 + 1]? = some (.cells #[x0, y0] 33 (0, 0)) → G ((w1.setCell ⟨w.heap.size + 1 + 1 + 1, 0, none⟩ x).setCell ⟨w.heap.size + 1 + 1 + 1, 1, none⟩ y) := by
  subst hGd
  rintro w1 x0 y0 x y ⟨HBl, HSz, Bx3, Bx4, Bx5, Rs⟩ hgh
  have hle : w.heap.size ≤ w.heap.size + 1 + 1 + 1 := by omega
  exact ⟨below_set2 HBl hle _ _ _ _, (by simpa [World.setCell] using HSz), blk_far (blk_far Bx3 (fun e => by have e1 : (w.heap.size : Nat) = w.heap.size + 1 + 1 + 1 := e; omega) _) (fun e => by have e1 : (w.heap.size : Nat) = w.heap.size + 1 + 1 + 1 := e; omega) _, blk_far (blk_far Bx4 (fun e => by have e1 : (w.heap.size + 1 : Nat) = w.heap.size + 1 + 1 + 1 := e; omega) _) (fun e => by have e1 : (w.heap.size + 1 : Nat) = w.heap.size + 1 + 1 + 1 := e; omega) _, blk_far (blk_far Bx5 (fun e => by have e1 : (w.heap.size + 1 + 1 : Nat) = w.heap.size + 1 + 1 + 1 := e; omega) _) (fun e => by have e1 : (w.heap.size + 1 + 1 : Nat) = w.heap.size + 1 + 1 + 1 := e; omega) _, _, _, blk_put (blk_put hgh 0 _ rfl) 1 _ rfl⟩
 refine start_ (n := 24) (S := fun w' => True) (ds := []) #[false, false, false, false, false, false, false, false, false, false, false, false, false, false, false, false, false, false, false, false, false, false, false, false] (by kernel_rfl) rfl rfl trivial (fun _ => ?_); refine with_tabW area.tab area.bits (fun HT_ HW_ => ?_)
 have hG0 : G W.drew := by subst hGd; exact ⟨below_drew bw, Nat.le_of_eq nw.symm, n0, n1, n2, _, _, n3⟩
 generalize W.drew = W1 at hG0 ⊢
 refine inv_at [0, 1, 2, 3, 4, 5, 6, 7, 8, 9, 10, 11, 12, 13, 14, 15, 16, 17, 18, 19, 20, 21, 22, 23] (fun a0_ b a w' => Rg ⟨[0, 1, 2, 3, 4, 5, 6, 7, 8, 9, 10, 11, 12, 13, 14, 15, 16, 17, 18, 19, 20, 21, 22, 23], [(0, 7), (1, 8), (2, 9), (3, 10), (4, 11), (5, 12), (6, 13), (7, 14), (8, 15), (9, 16), (10, 17), (11, 18), (12, 19), (13, 20), (14, 21), (15, 22), (16, 23), (17, 24), (18, 25), (19, 26), (20, 27), (21, 28), (22, 29)], fun j => [.const (.pointer (some ⟨w.heap.size, 0, none⟩)), .const (.int .i64 a0), .const (.pointer (some ⟨w.heap.size + 1, 0, none⟩)), .const (.int .i64 b0), .ni (b0 - a0), .const (.pointer (some ⟨w.heap.size, 1, none⟩)), .const (.int .i64 a1), .const (.pointer (some ⟨w.heap.size + 1 + 1, 1, none⟩)), .const (.int .i64 c1), .ni (c1 - a1), .ni ((b0 - a0) * (c1 - a1)), .const (.pointer (some ⟨w.heap.size, 1, none⟩)), .const (.int .i64 a1), .const (.pointer (some ⟨w.heap.size + 1, 1, none⟩)), .const (.int .i64 b1), .ni (b1 - a1), .const (.pointer (some ⟨w.heap.size, 0, none⟩)), .const (.int .i64 a0), .const (.pointer (some ⟨w.heap.size + 1 + 1, 0, none⟩)), .const (.int .i64 c0), .ni (c0 - a0), .ni ((b1 - a1) * (c0 - a0)), .ni (((b0 - a0) * (c1 - a1)) - ((b1 - a1) * (c0 - a0))), .fin (fun ms w' => ∃ x y, w'.heap[w.heap.size + 1 + 1 + 1]? = some (.cells #[x, y] 33 (0, 0)) ∧ NI w' (.agg #[x, y]) (((b0 - a0) * (c1 - a1)) - ((b1 - a1) * (c0 - a0))))].getD j .box, w.heap.size + 1 + 1 + 1 + 1, (fun _ => 0), G, fun _ => True, 23⟩ a0_ b a w') HT_.out HW_.out (by kernel_rfl) (by kernel_rfl) ?_ ?_ ?_
 ·exact rg0 hG0 True.intro
 ·refine steps_cons ?_ ?_
  ·rintro b a w' ⟨ms, hR⟩ hb_ hon hoff
   obtain ⟨ha, hF, hD, hG, _⟩ := id hR
   have HH := hR.2.2.2.2 (hoff 23 (by kernel_rfl))
   refine ⟨_, rfl, fun K hK => ?_⟩
   have e3 : a.tmps[3]? = some (.pointer (some ⟨w.heap.size, 0, none⟩)) := (off_ ha rfl).trans rfl
   have HR := Aside0.mk hR
   clear hR ha hF
   refine value_ (w1 := w') (v := .pointer (some ⟨w.heap.size, 0, none⟩)) (by rfl) rfl ?_ ?_
   ·go_simp
    try rfl
   exact hK.out _ _ (step_ 0 HR.out rfl rfl hb_ (Below.refl _ _) hG rfl (fun h => by cases h) (fun _ => HH) rfl)
  refine steps_cons ?_ ?_
  ·rintro b a w' ⟨ms, hR⟩ hb_ hon hoff
   obtain ⟨ha, hF, hD, hG, _⟩ := id hR
   have hG1 := hG
   rw [hGd] at hG1
   obtain ⟨_, _, Bx3, _, _, _⟩ := hG1
   have HH := hR.2.2.2.2 (hoff 23 (by kernel_rfl))
   refine ⟨_, rfl, fun K hK => ?_⟩
   have e7 : a.tmps[7]? = some (.pointer (some ⟨w.heap.size, 0, none⟩)) := (on_ 0 ha rfl (hon 0 (by kernel_rfl)) rfl).trans (congrArg some (hF 0 (hon 0 (by kernel_rfl))))
   have hc : w'.cell? ⟨w.heap.size, 0, none⟩ = some (.int .i64 a0) := (blk_cell Bx3 0).trans rfl
   have HR := Aside0.mk hR
   clear hR ha hF
   refine value_ (w1 := w') (v := .int .i64 a0) (by rfl) rfl ?_ ?_
   ·go_simp
    (try simp only [i64_w])
    try rfl
   exact hK.out _ _ (step_ 1 HR.out rfl rfl hb_ (Below.refl _ _) hG rfl (fun h => by cases h) (fun _ => HH) rfl)
  refine steps_cons ?_ ?_
  ·rintro b a w' ⟨ms, hR⟩ hb_ hon hoff
   obtain ⟨ha, hF, hD, hG, _⟩ := id hR
   have HH := hR.2.2.2.2 (hoff 23 (by kernel_rfl))
   refine ⟨_, rfl, fun K hK => ?_⟩
   have e4 : a.tmps[4]? = some (.pointer (some ⟨w.heap.size + 1, 0, none⟩)) := (off_ ha rfl).trans rfl
   have HR := Aside0.mk hR
   clear hR ha hF
   refine value_ (w1 := w') (v := .pointer (some ⟨w.heap.size + 1, 0, none⟩)) (by rfl) rfl ?_ ?_
   ·go_simp
    try rfl
   exact hK.out _ _ (step_ 2 HR.out rfl rfl hb_ (Below.refl _ _) hG rfl (fun h => by cases h) (fun _ => HH) rfl)
  refine steps_cons ?_ ?_
  ·rintro b a w' ⟨ms, hR⟩ hb_ hon hoff
   obtain ⟨ha, hF, hD, hG, _⟩ := id hR
   have hG1 := hG
   rw [hGd] at hG1
   obtain ⟨_, _, _, Bx4, _, _⟩ := hG1
   have HH := hR.2.2.2.2 (hoff 23 (by kernel_rfl))
   refine ⟨_, rfl, fun K hK => ?_⟩
   have e9 : a.tmps[9]? = some (.pointer (some ⟨w.heap.size + 1, 0, none⟩)) := (on_ 2 ha rfl (hon 2 (by kernel_rfl)) rfl).trans (congrArg some (hF 2 (hon 2 (by kernel_rfl))))
   have hc : w'.cell? ⟨w.heap.size + 1, 0, none⟩ = some (.int .i64 b0) := (blk_cell Bx4 0).trans rfl
   have HR := Aside0.mk hR
   clear hR ha hF
   refine value_ (w1 := w') (v := .int .i64 b0) (by rfl) rfl ?_ ?_
   ·go_simp
    (try simp only [i64_w])
    try rfl
   exact hK.out _ _ (step_ 3 HR.out rfl rfl hb_ (Below.refl _ _) hG rfl (fun h => by cases h) (fun _ => HH) rfl)
  refine steps_cons ?_ ?_
  ·rintro b a w' ⟨ms, hR⟩ hb_ hon hoff
   obtain ⟨ha, hF, hD, hG, _⟩ := id hR
   have HH := hR.2.2.2.2 (hoff 23 (by kernel_rfl))
   refine ⟨_, rfl, fun K hK => ?_⟩
   have e8 : a.tmps[8]? = some (.int .i64 a0) := (on_ 1 ha rfl (hon 1 (by kernel_rfl)) rfl).trans (congrArg some (hF 1 (hon 1 (by kernel_rfl))))
   have e10 : a.tmps[10]? = some (.int .i64 b0) := (on_ 3 ha rfl (hon 3 (by kernel_rfl)) rfl).trans (congrArg some (hF 3 (hon 3 (by kernel_rfl))))
   refine goes_ Try.func34 (by kernel_rfl) rfl #[.int .i64 a0, .int .i64 b0] (by rfl) rfl rfl (by first | (simp only [List.map_toArray, List.map_cons, List.map_nil, Act.eval, Array.getD_eq_getD_getElem?, Option.getD_some, e8, e10]; done) | (simp only [List.map_toArray, List.map_cons, List.map_nil, Act.eval, Array.getD_eq_getD_getElem?, Option.getD_some, e8, e10]; rfl)) ?_
   with_reducible refine (diff_c a0 b0 h_a0 h_b0 _).mono ?_
   rintro e w1 ⟨r, rfl, hN, hb⟩
   exact ⟨_, rfl, hK.out _ _ (step_ 4 hR rfl rfl hb_ hb (GM _ _ hG hb) hN (fun h => by cases h) (fun _ => HM _ _ HH hb) rfl)⟩
  refine steps_cons ?_ ?_
  ·rintro b a w' ⟨ms, hR⟩ hb_ hon hoff
   obtain ⟨ha, hF, hD, hG, _⟩ := id hR
   have HH := hR.2.2.2.2 (hoff 23 (by kernel_rfl))
   refine ⟨_, rfl, fun K hK => ?_⟩
   have e3 : a.tmps[3]? = some (.pointer (some ⟨w.heap.size, 0, none⟩)) := (off_ ha rfl).trans rfl
   have HR := Aside0.mk hR
   clear hR ha hF
   refine value_ (w1 := w') (v := .pointer (some ⟨w.heap.size, 1, none⟩)) (by rfl) rfl ?_ ?_
   ·go_simp
    try rfl
   exact hK.out _ _ (step_ 5 HR.out rfl rfl hb_ (Below.refl _ _) hG rfl (fun h => by cases h) (fun _ => HH) rfl)
  refine steps_cons ?_ ?_
  ·rintro b a w' ⟨ms, hR⟩ hb_ hon hoff
   obtain ⟨ha, hF, hD, hG, _⟩ := id hR
   have hG1 := hG
   rw [hGd] at hG1
   obtain ⟨_, _, Bx3, _, _, _⟩ := hG1
   have HH := hR.2.2.2.2 (hoff 23 (by kernel_rfl))
   refine ⟨_, rfl, fun K hK => ?_⟩
   have e12 : a.tmps[12]? = some (.pointer (some ⟨w.heap.size, 1, none⟩)) := (on_ 5 ha rfl (hon 5 (by kernel_rfl)) rfl).trans (congrArg some (hF 5 (hon 5 (by kernel_rfl))))
   have hc : w'.cell? ⟨w.heap.size, 1, none⟩ = some (.int .i64 a1) := (blk_cell Bx3 1).trans rfl
   have HR := Aside0.mk hR
   clear hR ha hF
   refine value_ (w1 := w') (v := .int .i64 a1) (by rfl) rfl ?_ ?_
   ·go_simp
    (try simp only [i64_w])
    try rfl
   exact hK.out _ _ (step_ 6 HR.out rfl rfl hb_ (Below.refl _ _) hG rfl (fun h => by cases h) (fun _ => HH) rfl)
  refine steps_cons ?_ ?_
  ·rintro b a w' ⟨ms, hR⟩ hb_ hon hoff
   obtain ⟨ha, hF, hD, hG, _⟩ := id hR
   have HH := hR.2.2.2.2 (hoff 23 (by kernel_rfl))
   refine ⟨_, rfl, fun K hK => ?_⟩
   have e5 : a.tmps[5]? = some (.pointer (some ⟨w.heap.size + 1 + 1, 0, none⟩)) := (off_ ha rfl).trans rfl
   have HR := Aside0.mk hR
   clear hR ha hF
   refine value_ (w1 := w') (v := .pointer (some ⟨w.heap.size + 1 + 1, 1, none⟩)) (by rfl) rfl ?_ ?_
   ·go_simp
    try rfl
   exact hK.out _ _ (step_ 7 HR.out rfl rfl hb_ (Below.refl _ _) hG rfl (fun h => by cases h) (fun _ => HH) rfl)
  refine steps_cons ?_ ?_
  ·rintro b a w' ⟨ms, hR⟩ hb_ hon hoff
   obtain ⟨ha, hF, hD, hG, _⟩ := id hR
   have hG1 := hG
   rw [hGd] at hG1
   obtain ⟨_, _, _, _, Bx5, _⟩ := hG1
   have HH := hR.2.2.2.2 (hoff 23 (by kernel_rfl))
   refine ⟨_, rfl, fun K hK => ?_⟩
   have e14 : a.tmps[14]? = some (.pointer (some ⟨w.heap.size + 1 + 1, 1, none⟩)) := (on_ 7 ha rfl (hon 7 (by kernel_rfl)) rfl).trans (congrArg some (hF 7 (hon 7 (by kernel_rfl))))
   have hc : w'.cell? ⟨w.heap.size + 1 + 1, 1, none⟩ = some (.int .i64 c1) := (blk_cell Bx5 1).trans rfl
   have HR := Aside0.mk hR
   clear hR ha hF
   refine value_ (w1 := w') (v := .int .i64 c1) (by rfl) rfl ?_ ?_
   ·go_simp
    (try simp only [i64_w])
    try rfl
   exact hK.out _ _ (step_ 8 HR.out rfl rfl hb_ (Below.refl _ _) hG rfl (fun h => by cases h) (fun _ => HH) rfl)
  refine steps_cons ?_ ?_
  ·rintro b a w' ⟨ms, hR⟩ hb_ hon hoff
   obtain ⟨ha, hF, hD, hG, _⟩ := id hR
   have HH := hR.2.2.2.2 (hoff 23 (by kernel_rfl))
   refine ⟨_, rfl, fun K hK => ?_⟩
   have e13 : a.tmps[13]? = some (.int .i64 a1) := (on_ 6 ha rfl (hon 6 (by kernel_rfl)) rfl).trans (congrArg some (hF 6 (hon 6 (by kernel_rfl))))
   have e15 : a.tmps[15]? = some (.int .i64 c1) := (on_ 8 ha rfl (hon 8 (by kernel_rfl)) rfl).trans (congrArg some (hF 8 (hon 8 (by kernel_rfl))))
   refine goes_ Try.func34 (by kernel_rfl) rfl #[.int .i64 a1, .int .i64 c1] (by rfl) rfl rfl (by first | (simp only [List.map_toArray, List.map_cons, List.map_nil, Act.eval, Array.getD_eq_getD_getElem?, Option.getD_some, e13, e15]; done) | (simp only [List.map_toArray, List.map_cons, List.map_nil, Act.eval, Array.getD_eq_getD_getElem?, Option.getD_some, e13, e15]; rfl)) ?_
   with_reducible refine (diff_c a1 c1 h_a1 h_c1 _).mono ?_
   rintro e w1 ⟨r, rfl, hN, hb⟩
   exact ⟨_, rfl, hK.out _ _ (step_ 9 hR rfl rfl hb_ hb (GM _ _ hG hb) hN (fun h => by cases h) (fun _ => HM _ _ HH hb) rfl)⟩
  refine steps_cons ?_ ?_
  ·rintro b a w' ⟨ms, hR⟩ hb_ hon hoff
   obtain ⟨ha, hF, hD, hG, _⟩ := id hR
   have HH := hR.2.2.2.2 (hoff 23 (by kernel_rfl))
   refine ⟨_, rfl, fun K hK => ?_⟩
   have e11 : a.tmps[11]? = some (ms 4) := on_ 4 ha rfl (hon 4 (by kernel_rfl)) rfl
   have q4 : NI w' (ms 4) (b0 - a0) := hF 4 (hon 4 (by kernel_rfl))
   have e16 : a.tmps[16]? = some (ms 9) := on_ 9 ha rfl (hon 9 (by kernel_rfl)) rfl
   have q9 : NI w' (ms 9) (c1 - a1) := hF 9 (hon 9 (by kernel_rfl))
   refine goes_ Try.func35 (by kernel_rfl) rfl #[ms 4, ms 9] (by rfl) rfl rfl (by first | (simp only [List.map_toArray, List.map_cons, List.map_nil, Act.eval, Array.getD_eq_getD_getElem?, Option.getD_some, e11, e16]; done) | (simp only [List.map_toArray, List.map_cons, List.map_nil, Act.eval, Array.getD_eq_getD_getElem?, Option.getD_some, e11, e16]; rfl)) ?_
   with_reducible refine (mul_c _ _ (b0 - a0) (c1 - a1) s1 s2 _ (q4) (q9)).mono ?_
   rintro e w1 ⟨r, rfl, hN, hb⟩
   exact ⟨_, rfl, hK.out _ _ (step_ 10 hR rfl rfl hb_ hb (GM _ _ hG hb) hN (fun h => by cases h) (fun _ => HM _ _ HH hb) rfl)⟩
  refine steps_cons ?_ ?_
  ·rintro b a w' ⟨ms, hR⟩ hb_ hon hoff
   obtain ⟨ha, hF, hD, hG, _⟩ := id hR
   have HH := hR.2.2.2.2 (hoff 23 (by kernel_rfl))
   refine ⟨_, rfl, fun K hK => ?_⟩
   have e3 : a.tmps[3]? = some (.pointer (some ⟨w.heap.size, 0, none⟩)) := (off_ ha rfl).trans rfl
   have HR := Aside0.mk hR
   clear hR ha hF
   refine value_ (w1 := w') (v := .pointer (some ⟨w.heap.size, 1, none⟩)) (by rfl) rfl ?_ ?_
   ·go_simp
    try rfl
   exact hK.out _ _ (step_ 11 HR.out rfl rfl hb_ (Below.refl _ _) hG rfl (fun h => by cases h) (fun _ => HH) rfl)
  refine steps_cons ?_ ?_
  ·rintro b a w' ⟨ms, hR⟩ hb_ hon hoff
   obtain ⟨ha, hF, hD, hG, _⟩ := id hR
   have hG1 := hG
   rw [hGd] at hG1
   obtain ⟨_, _, Bx3, _, _, _⟩ := hG1
   have HH := hR.2.2.2.2 (hoff 23 (by kernel_rfl))
   refine ⟨_, rfl, fun K hK => ?_⟩
   have e18 : a.tmps[18]? = some (.pointer (some ⟨w.heap.size, 1, none⟩)) := (on_ 11 ha rfl (hon 11 (by kernel_rfl)) rfl).trans (congrArg some (hF 11 (hon 11 (by kernel_rfl))))
   have hc : w'.cell? ⟨w.heap.size, 1, none⟩ = some (.int .i64 a1) := (blk_cell Bx3 1).trans rfl
   have HR := Aside0.mk hR
   clear hR ha hF
   refine value_ (w1 := w') (v := .int .i64 a1) (by rfl) rfl ?_ ?_
   ·go_simp
    (try simp only [i64_w])
    try rfl
   exact hK.out _ _ (step_ 12 HR.out rfl rfl hb_ (Below.refl _ _) hG rfl (fun h => by cases h) (fun _ => HH) rfl)
  refine steps_cons ?_ ?_
  ·rintro b a w' ⟨ms, hR⟩ hb_ hon hoff
   obtain ⟨ha, hF, hD, hG, _⟩ := id hR
   have HH := hR.2.2.2.2 (hoff 23 (by kernel_rfl))
   refine ⟨_, rfl, fun K hK => ?_⟩
   have e4 : a.tmps[4]? = some (.pointer (some ⟨w.heap.size + 1, 0, none⟩)) := (off_ ha rfl).trans rfl
   have HR := Aside0.mk hR
   clear hR ha hF
   refine value_ (w1 := w') (v := .pointer (some ⟨w.heap.size + 1, 1, none⟩)) (by rfl) rfl ?_ ?_
   ·go_simp
    try rfl
   exact hK.out _ _ (step_ 13 HR.out rfl rfl hb_ (Below.refl _ _) hG rfl (fun h => by cases h) (fun _ => HH) rfl)
  refine steps_cons ?_ ?_
  ·rintro b a w' ⟨ms, hR⟩ hb_ hon hoff
   obtain ⟨ha, hF, hD, hG, _⟩ := id hR
   have hG1 := hG
   rw [hGd] at hG1
   obtain ⟨_, _, _, Bx4, _, _⟩ := hG1
   have HH := hR.2.2.2.2 (hoff 23 (by kernel_rfl))
   refine ⟨_, rfl, fun K hK => ?_⟩
   have e20 : a.tmps[20]? = some (.pointer (some ⟨w.heap.size + 1, 1, none⟩)) := (on_ 13 ha rfl (hon 13 (by kernel_rfl)) rfl).trans (congrArg some (hF 13 (hon 13 (by kernel_rfl))))
   have hc : w'.cell? ⟨w.heap.size + 1, 1, none⟩ = some (.int .i64 b1) := (blk_cell Bx4 1).trans rfl
   have HR := Aside0.mk hR
   clear hR ha hF
   refine value_ (w1 := w') (v := .int .i64 b1) (by rfl) rfl ?_ ?_
   ·go_simp
    (try simp only [i64_w])
    try rfl
   exact hK.out _ _ (step_ 14 HR.out rfl rfl hb_ (Below.refl _ _) hG rfl (fun h => by cases h) (fun _ => HH) rfl)
  refine steps_cons ?_ ?_
  ·rintro b a w' ⟨ms, hR⟩ hb_ hon hoff
   obtain ⟨ha, hF, hD, hG, _⟩ := id hR
   have HH := hR.2.2.2.2 (hoff 23 (by kernel_rfl))
   refine ⟨_, rfl, fun K hK => ?_⟩
   have e19 : a.tmps[19]? = some (.int .i64 a1) := (on_ 12 ha rfl (hon 12 (by kernel_rfl)) rfl).trans (congrArg some (hF 12 (hon 12 (by kernel_rfl))))
   have e21 : a.tmps[21]? = some (.int .i64 b1) := (on_ 14 ha rfl (hon 14 (by kernel_rfl)) rfl).trans (congrArg some (hF 14 (hon 14 (by kernel_rfl))))
   refine goes_ Try.func34 (by kernel_rfl) rfl #[.int .i64 a1, .int .i64 b1] (by rfl) rfl rfl (by first | (simp only [List.map_toArray, List.map_cons, List.map_nil, Act.eval, Array.getD_eq_getD_getElem?, Option.getD_some, e19, e21]; done) | (simp only [List.map_toArray, List.map_cons, List.map_nil, Act.eval, Array.getD_eq_getD_getElem?, Option.getD_some, e19, e21]; rfl)) ?_
   with_reducible refine (diff_c a1 b1 h_a1 h_b1 _).mono ?_
   rintro e w1 ⟨r, rfl, hN, hb⟩
   exact ⟨_, rfl, hK.out _ _ (step_ 15 hR rfl rfl hb_ hb (GM _ _ hG hb) hN (fun h => by cases h) (fun _ => HM _ _ HH hb) rfl)⟩
  refine steps_cons ?_ ?_
  ·rintro b a w' ⟨ms, hR⟩ hb_ hon hoff
   obtain ⟨ha, hF, hD, hG, _⟩ := id hR
   have HH := hR.2.2.2.2 (hoff 23 (by kernel_rfl))
   refine ⟨_, rfl, fun K hK => ?_⟩
   have e3 : a.tmps[3]? = some (.pointer (some ⟨w.heap.size, 0, none⟩)) := (off_ ha rfl).trans rfl
   have HR := Aside0.mk hR
   clear hR ha hF
   refine value_ (w1 := w') (v := .pointer (some ⟨w.heap.size, 0, none⟩)) (by rfl) rfl ?_ ?_
   ·go_simp
    try rfl
   exact hK.out _ _ (step_ 16 HR.out rfl rfl hb_ (Below.refl _ _) hG rfl (fun h => by cases h) (fun _ => HH) rfl)
  refine steps_cons ?_ ?_
  ·rintro b a w' ⟨ms, hR⟩ hb_ hon hoff
   obtain ⟨ha, hF, hD, hG, _⟩ := id hR
   have hG1 := hG
   rw [hGd] at hG1
   obtain ⟨_, _, Bx3, _, _, _⟩ := hG1
   have HH := hR.2.2.2.2 (hoff 23 (by kernel_rfl))
   refine ⟨_, rfl, fun K hK => ?_⟩
   have e23 : a.tmps[23]? = some (.pointer (some ⟨w.heap.size, 0, none⟩)) := (on_ 16 ha rfl (hon 16 (by kernel_rfl)) rfl).trans (congrArg some (hF 16 (hon 16 (by kernel_rfl))))
   have hc : w'.cell? ⟨w.heap.size, 0, none⟩ = some (.int .i64 a0) := (blk_cell Bx3 0).trans rfl
   have HR := Aside0.mk hR
   clear hR ha hF
   refine value_ (w1 := w') (v := .int .i64 a0) (by rfl) rfl ?_ ?_
   ·go_simp
    (try simp only [i64_w])
    try rfl
   exact hK.out _ _ (step_ 17 HR.out rfl rfl hb_ (Below.refl _ _) hG rfl (fun h => by cases h) (fun _ => HH) rfl)
  refine steps_cons ?_ ?_
  ·rintro b a w' ⟨ms, hR⟩ hb_ hon hoff
   obtain ⟨ha, hF, hD, hG, _⟩ := id hR
   have HH := hR.2.2.2.2 (hoff 23 (by kernel_rfl))
   refine ⟨_, rfl, fun K hK => ?_⟩
   have e5 : a.tmps[5]? = some (.pointer (some ⟨w.heap.size + 1 + 1, 0, none⟩)) := (off_ ha rfl).trans rfl
   have HR := Aside0.mk hR
   clear hR ha hF
   refine value_ (w1 := w') (v := .pointer (some ⟨w.heap.size + 1 + 1, 0, none⟩)) (by rfl) rfl ?_ ?_
   ·go_simp
    try rfl
   exact hK.out _ _ (step_ 18 HR.out rfl rfl hb_ (Below.refl _ _) hG rfl (fun h => by cases h) (fun _ => HH) rfl)
  refine steps_cons ?_ ?_
  ·rintro b a w' ⟨ms, hR⟩ hb_ hon hoff
   obtain ⟨ha, hF, hD, hG, _⟩ := id hR
   have hG1 := hG
   rw [hGd] at hG1
   obtain ⟨_, _, _, _, Bx5, _⟩ := hG1
   have HH := hR.2.2.2.2 (hoff 23 (by kernel_rfl))
   refine ⟨_, rfl, fun K hK => ?_⟩
   have e25 : a.tmps[25]? = some (.pointer (some ⟨w.heap.size + 1 + 1, 0, none⟩)) := (on_ 18 ha rfl (hon 18 (by kernel_rfl)) rfl).trans (congrArg some (hF 18 (hon 18 (by kernel_rfl))))
   have hc : w'.cell? ⟨w.heap.size + 1 + 1, 0, none⟩ = some (.int .i64 c0) := (blk_cell Bx5 0).trans rfl
   have HR := Aside0.mk hR
   clear hR ha hF
   refine value_ (w1 := w') (v := .int .i64 c0) (by rfl) rfl ?_ ?_
   ·go_simp
    (try simp only [i64_w])
    try rfl
   exact hK.out _ _ (step_ 19 HR.out rfl rfl hb_ (Below.refl _ _) hG rfl (fun h => by cases h) (fun _ => HH) rfl)
  refine steps_cons ?_ ?_
  ·rintro b a w' ⟨ms, hR⟩ hb_ hon hoff
   obtain ⟨ha, hF, hD, hG, _⟩ := id hR
   have HH := hR.2.2.2.2 (hoff 23 (by kernel_rfl))
   refine ⟨_, rfl, fun K hK => ?_⟩
   have e24 : a.tmps[24]? = some (.int .i64 a0) := (on_ 17 ha rfl (hon 17 (by kernel_rfl)) rfl).trans (congrArg some (hF 17 (hon 17 (by kernel_rfl))))
   have e26 : a.tmps[26]? = some (.int .i64 c0) := (on_ 19 ha rfl (hon 19 (by kernel_rfl)) rfl).trans (congrArg some (hF 19 (hon 19 (by kernel_rfl))))
   refine goes_ Try.func34 (by kernel_rfl) rfl #[.int .i64 a0, .int .i64 c0] (by rfl) rfl rfl (by first | (simp only [List.map_toArray, List.map_cons, List.map_nil, Act.eval, Array.getD_eq_getD_getElem?, Option.getD_some, e24, e26]; done) | (simp only [List.map_toArray, List.map_cons, List.map_nil, Act.eval, Array.getD_eq_getD_getElem?, Option.getD_some, e24, e26]; rfl)) ?_
   with_reducible refine (diff_c a0 c0 h_a0 h_c0 _).mono ?_
   rintro e w1 ⟨r, rfl, hN, hb⟩
   exact ⟨_, rfl, hK.out _ _ (step_ 20 hR rfl rfl hb_ hb (GM _ _ hG hb) hN (fun h => by cases h) (fun _ => HM _ _ HH hb) rfl)⟩
  refine steps_cons ?_ ?_
  ·rintro b a w' ⟨ms, hR⟩ hb_ hon hoff
   obtain ⟨ha, hF, hD, hG, _⟩ := id hR
   have HH := hR.2.2.2.2 (hoff 23 (by kernel_rfl))
   refine ⟨_, rfl, fun K hK => ?_⟩
   have e22 : a.tmps[22]? = some (ms 15) := on_ 15 ha rfl (hon 15 (by kernel_rfl)) rfl
   have q15 : NI w' (ms 15) (b1 - a1) := hF 15 (hon 15 (by kernel_rfl))
   have e27 : a.tmps[27]? = some (ms 20) := on_ 20 ha rfl (hon 20 (by kernel_rfl)) rfl
   have q20 : NI w' (ms 20) (c0 - a0) := hF 20 (hon 20 (by kernel_rfl))
   refine goes_ Try.func35 (by kernel_rfl) rfl #[ms 15, ms 20] (by rfl) rfl rfl (by first | (simp only [List.map_toArray, List.map_cons, List.map_nil, Act.eval, Array.getD_eq_getD_getElem?, Option.getD_some, e22, e27]; done) | (simp only [List.map_toArray, List.map_cons, List.map_nil, Act.eval, Array.getD_eq_getD_getElem?, Option.getD_some, e22, e27]; rfl)) ?_
   with_reducible refine (mul_c _ _ (b1 - a1) (c0 - a0) s3 s4 _ (q15) (q20)).mono ?_
   rintro e w1 ⟨r, rfl, hN, hb⟩
   exact ⟨_, rfl, hK.out _ _ (step_ 21 hR rfl rfl hb_ hb (GM _ _ hG hb) hN (fun h => by cases h) (fun _ => HM _ _ HH hb) rfl)⟩
  refine steps_cons ?_ ?_
  ·rintro b a w' ⟨ms, hR⟩ hb_ hon hoff
   obtain ⟨ha, hF, hD, hG, _⟩ := id hR
   have HH := hR.2.2.2.2 (hoff 23 (by kernel_rfl))
   refine ⟨_, rfl, fun K hK => ?_⟩
   have e17 : a.tmps[17]? = some (ms 10) := on_ 10 ha rfl (hon 10 (by kernel_rfl)) rfl
   have q10 : NI w' (ms 10) ((b0 - a0) * (c1 - a1)) := hF 10 (hon 10 (by kernel_rfl))
   have e28 : a.tmps[28]? = some (ms 21) := on_ 21 ha rfl (hon 21 (by kernel_rfl)) rfl
   have q21 : NI w' (ms 21) ((b1 - a1) * (c0 - a0)) := hF 21 (hon 21 (by kernel_rfl))
   refine goes_ Try.func36 (by kernel_rfl) rfl #[ms 10, ms 21] (by rfl) rfl rfl (by first | (simp only [List.map_toArray, List.map_cons, List.map_nil, Act.eval, Array.getD_eq_getD_getElem?, Option.getD_some, e17, e28]; done) | (simp only [List.map_toArray, List.map_cons, List.map_nil, Act.eval, Array.getD_eq_getD_getElem?, Option.getD_some, e17, e28]; rfl)) ?_
   with_reducible refine (sub_c _ _ ((b0 - a0) * (c1 - a1)) ((b1 - a1) * (c0 - a0)) s5 s6 _ (q10) (q21)).mono ?_
   rintro e w1 ⟨r, rfl, hN, hb⟩
   exact ⟨_, rfl, hK.out _ _ (step_ 22 hR rfl rfl hb_ hb (GM _ _ hG hb) hN (fun h => by cases h) (fun _ => HM _ _ HH hb) rfl)⟩
  refine steps_cons ?_ ?_
  ·rintro b a w' ⟨ms, hR⟩ hb_ hon hoff
   obtain ⟨ha, hF, hD, hG, _⟩ := id hR
   have hG1 := hG
   rw [hGd] at hG1
   obtain ⟨_, _, _, _, _, Rs⟩ := hG1
   refine ⟨_, rfl, fun K hK => ?_⟩
   have hn := hF 22 (hon 22 (by kernel_rfl))
   obtain ⟨sz, Az, lz, cz, ev⟩ := NI.shape hn
   have e29 : a.tmps[29]? = some (.agg #[.int .i64 sz, .slice Az lz cz]) := (on_ 22 ha rfl (hon 22 (by kernel_rfl)) rfl).trans (congrArg some ev)
   have e6 : a.tmps[6]? = some (.pointer (some ⟨w.heap.size + 1 + 1 + 1, 0, none⟩)) := (off_ ha rfl).trans rfl
   obtain ⟨x0, y0, hgh⟩ := Rs
   have h0 : w'.cell? ⟨w.heap.size + 1 + 1 + 1, 0, none⟩ = some x0 := (blk_cell hgh 0).trans rfl
   have h1 : w'.cell? ⟨w.heap.size + 1 + 1 + 1, 1, none⟩ = some y0 := (blk_cell hgh 1).trans rfl
   have f0 := blk_frozen hgh 0
   have f1 := blk_frozen hgh 1
   have HR := Aside0.mk hR
   clear hR ha
   refine skip_ (w1 := ?_) (by rfl) rfl ?_ ?_
   rotate_left
   ·go_simp
    rfl
   exact hK.out _ _ (fin_ HR.out rfl (hall_ (by kernel_rfl) hon) rfl hb_ rfl hgh (by show w.heap.size + 1 + 1 + 1 < w.heap.size + 1 + 1 + 1 + 1; omega) ⟨_, _, blk_put (blk_put hgh 0 _ rfl) 1 _ rfl, by rw [← ev]; exact NI.store (NI.store hn hgh (by decide) 0 _) (blk_put hgh 0 _ rfl) (by decide) 1 _⟩ (GR _ _ _ _ _ hG hgh) rfl)
  exact steps_nil
 rintro b a V hall ⟨ms, ha, hF, hD, hG, _⟩
 rw [hGd] at hG
 obtain ⟨HBl, HSz, Bx3, Bx4, Bx5, Rs⟩ := hG
 have bb1_0 := hall 0 (by kernel_rfl)
 have bb1_1 := hall 1 (by kernel_rfl)
 have bb1_2 := hall 2 (by kernel_rfl)
 have bb1_3 := hall 3 (by kernel_rfl)
 have bb1_4 := hall 4 (by kernel_rfl)
 have bb1_5 := hall 5 (by kernel_rfl)
 have bb1_6 := hall 6 (by kernel_rfl)
 have bb1_7 := hall 7 (by kernel_rfl)
 have bb1_8 := hall 8 (by kernel_rfl)
 have bb1_9 := hall 9 (by kernel_rfl)
 have bb1_10 := hall 10 (by kernel_rfl)
 have bb1_11 := hall 11 (by kernel_rfl)
 have bb1_12 := hall 12 (by kernel_rfl)
 have bb1_13 := hall 13 (by kernel_rfl)
 have bb1_14 := hall 14 (by kernel_rfl)
 have bb1_15 := hall 15 (by kernel_rfl)
 have bb1_16 := hall 16 (by kernel_rfl)
 have bb1_17 := hall 17 (by kernel_rfl)
 have bb1_18 := hall 18 (by kernel_rfl)
 have bb1_19 := hall 19 (by kernel_rfl)
 have bb1_20 := hall 20 (by kernel_rfl)
 have bb1_21 := hall 21 (by kernel_rfl)
 have bb1_22 := hall 22 (by kernel_rfl)
 have bb1_23 := hall 23 (by kernel_rfl)
 have m1_0 : ms 0 = .pointer (some ⟨w.heap.size, 0, none⟩) := hF 0 bb1_0
 have m1_1 : ms 1 = .int .i64 a0 := hF 1 bb1_1
 have m1_2 : ms 2 = .pointer (some ⟨w.heap.size + 1, 0, none⟩) := hF 2 bb1_2
 have m1_3 : ms 3 = .int .i64 b0 := hF 3 bb1_3
 have m1_4 : NI V (ms 4) (b0 - a0) := hF 4 bb1_4
 have m1_5 : ms 5 = .pointer (some ⟨w.heap.size, 1, none⟩) := hF 5 bb1_5
 have m1_6 : ms 6 = .int .i64 a1 := hF 6 bb1_6
 have m1_7 : ms 7 = .pointer (some ⟨w.heap.size + 1 + 1, 1, none⟩) := hF 7 bb1_7
 have m1_8 : ms 8 = .int .i64 c1 := hF 8 bb1_8
 have m1_9 : NI V (ms 9) (c1 - a1) := hF 9 bb1_9
 have m1_10 : NI V (ms 10) ((b0 - a0) * (c1 - a1)) := hF 10 bb1_10
 have m1_11 : ms 11 = .pointer (some ⟨w.heap.size, 1, none⟩) := hF 11 bb1_11
 have m1_12 : ms 12 = .int .i64 a1 := hF 12 bb1_12
 have m1_13 : ms 13 = .pointer (some ⟨w.heap.size + 1, 1, none⟩) := hF 13 bb1_13
 have m1_14 : ms 14 = .int .i64 b1 := hF 14 bb1_14
 have m1_15 : NI V (ms 15) (b1 - a1) := hF 15 bb1_15
 have m1_16 : ms 16 = .pointer (some ⟨w.heap.size, 0, none⟩) := hF 16 bb1_16
 have m1_17 : ms 17 = .int .i64 a0 := hF 17 bb1_17
 have m1_18 : ms 18 = .pointer (some ⟨w.heap.size + 1 + 1, 0, none⟩) := hF 18 bb1_18
 have m1_19 : ms 19 = .int .i64 c0 := hF 19 bb1_19
 have m1_20 : NI V (ms 20) (c0 - a0) := hF 20 bb1_20
 have m1_21 : NI V (ms 21) ((b1 - a1) * (c0 - a0)) := hF 21 bb1_21
 have m1_22 : NI V (ms 22) (((b0 - a0) * (c1 - a1)) - ((b1 - a1) * (c0 - a0))) := hF 22 bb1_22
 obtain ⟨_, x1_23, y1_23, h1_23, m1_23⟩ := hF 23 bb1_23
 subst ha
 simp only [ent, List.map_cons, List.map_nil, putSel, bb1_0, bb1_1, bb1_2, bb1_3, bb1_4, bb1_5, bb1_6, bb1_7, bb1_8, bb1_9, bb1_10, bb1_11, bb1_12, bb1_13, bb1_14, bb1_15, bb1_16, bb1_17, bb1_18, bb1_19, bb1_20, bb1_21, bb1_22, m1_0, m1_1, m1_2, m1_3, m1_5, m1_6, m1_7, m1_8, m1_11, m1_12, m1_13, m1_14, m1_16, m1_17, m1_18, m1_19, if_true, Act.put, List.setIfInBounds_toArray, List.set_cons_zero, List.set_cons_succ]
 clear hF hD bb1_0 bb1_1 bb1_2 bb1_3 bb1_4 bb1_5 bb1_6 bb1_7 bb1_8 bb1_9 bb1_10 bb1_11 bb1_12 bb1_13 bb1_14 bb1_15 bb1_16 bb1_17 bb1_18 bb1_19 bb1_20 bb1_21 bb1_22 bb1_23
 go_wp2
 refine bodyPost_ret (results_cell_row rfl _ _ (w.heap.size + 1 + 1 + 1) 33 #[x1_23, y1_23] (0, 0) _ rfl h1_23 Try.underlying33 rfl (by kernel_rfl)) rfl ?_
 exact ⟨_, rfl, m1_23, HBl⟩
def dist1.T : Bool × List (List Nat × List Nat) := (true, [([], []), ([0], [0]), ([], []), ([2], [2]), ([1, 3], [1, 3]), ([], []), ([5], [5]), ([], []), ([7], [7]), ([6, 8, 4], [6, 8]), ([], []), ([], []), ([10, 4, 9, 0, 1, 2, 3, 4, 10, 11], [4, 10]), ([11, 9, 12, 0, 1, 2, 3, 4, 5, 6, 7, 8, 9, 10, 11, 12], [9, 11])])
def dist1.B : List Nat := [0, 1, 0, 4, 15, 0, 32, 0, 128, 511, 0, 0, 4095, 8191]
theorem dist1.tab : rtab .any (opsOf Try.f19 1) = dist1.T := by kernel_rfl
theorem dist1.bits : waitsOk dist1.T.2 dist1.B = true := by kernel_rfl
def dist2.T : Bool × List (List Nat × List Nat) := (true, [([], []), ([], []), ([0, 1], [0, 1]), ([], []), ([], []), ([3, 4, 2], [3, 4]), ([2, 5, 5], [2, 5]), ([6, 6, 0, 1, 2, 3, 4, 5, 6], [6])])
def dist2.B : List Nat := [0, 0, 3, 0, 0, 31, 63, 127]
theorem dist2.tab : rtab .any (opsOf Try.f19 2) = dist2.T := by kernel_rfl
theorem dist2.bits : waitsOk dist2.T.2 dist2.B = true := by kernel_rfl
set_option maxHeartbeats 8000000 in
set_option maxRecDepth 100000 in
theorem dist_c {a0 a1 b0 b1 : Int} (ha : CoP a0 a1) (hb : CoP b0 b1) (w : World) :
  Calls Try.prog 19 #[.agg #[.int .i64 a0, .int .i64 a1], .agg #[.int .i64 b0, .int .i64 b1]] w fun e w' => ∃ r, e = .returned r ∧ NI w' r (ds a0 a1 b0 b1) ∧ Below w.heap.size w w' := by
 have x0 := hb.1.way ha.1; have x1 := hb.2.way ha.2
 have s1 := sm_am x0 (by omega); have s2 := sm_am x1 (by omega); have s3 := sm_am (Am.mul x0 x0) (by omega); have s4 := sm_am (Am.mul x1 x1) (by omega)
 have h_a0 := co_wf ha.1; have h_a1 := co_wf ha.2; have h_b0 := co_wf hb.1; have h_b1 := co_wf hb.2
 clear x0 x1
 unfold ds
 go_enter Try.func19, Try.ntmps19
 go_wp2_with fail
 obtain ⟨n0, n1, n2, bw, nw⟩ := three_new w (.cells #[.int .i64 a0, .int .i64 a1] 23) (.cells #[.int .i64 b0, .int .i64 b1] 23) (.cells #[.int .i64 0, .slice none 0 0] 33)
 generalize (((w.alloc (.cells #[.int .i64 a0, .int .i64 a1] 23)).alloc (.cells #[.int .i64 b0, .int .i64 b1] 23)).alloc (.cells #[.int .i64 0, .slice none 0 0] 33)) = W at n0 n1 n2 bw nw ⊢
 obtain ⟨G, hGd⟩ : ∃ G : World → Prop, G = (fun w' => Below w.heap.size w w' ∧ w.heap.size + 1 + 1 + 1 ≤ w'.heap.size ∧ w'.heap[w.heap.size]? = some (.cells #[.int .i64 a0, .int .i64 a1] 23 (0, 0)) ∧ w'.heap[w.heap.size + 1]? = some (.cells #[.int .i64 b0, .int .i64 b1] 23 (0, 0)) ∧ ∃ x y, w'.heap[w.heap.size + 1 + 1]? = some (.cells #[x, y] 33 (0, 0))) := ⟨_, rfl⟩
 have GM : ∀ w1 w2 : World, G w1 → Below w1.heap.size w1 w2 → G w2 := by
  subst hGd
  rintro w1 w2 ⟨HBl, HSz, Bx2, Bx3, Rs⟩ hb
  exact ⟨below_step HBl hb, Nat.le_trans HSz hb.size, blk_below Bx2 hb, blk_below Bx3 hb, (Rs.elim fun x h => h.elim fun y h => ⟨x, y, blk_below h hb⟩)⟩
 have HM : ∀ w1 w2 : World, (fun _ => True) w1 → Below w1.heap.size w1 w2 → (fun _ => True) w2 := fun _ _ _ _ => True.intro
 have GS : ∀ (w1 : World) (g : Nat) (x0 y0 x y : Value), G w1 → w1.heap[g]? = some (.cells #[x0, y0] 33 (0, 0)) → w.heap.size ≤ g → ((w.heap.size = g ∨ w.heap.size + 1 = g ∨ w.heap.size + 1 + 1 = g) → False) → G ((w1.setCell ⟨g, 0, none⟩ x).setCell ⟨g, 1, none⟩ y) := by
  subst hGd
  rintro w1 g x0 y0 x y ⟨HBl, HSz, Bx2, Bx3, Rs⟩ hgh hle hne
  exact ⟨below_set2 HBl hle _ _ _ _, (by simpa [World.setCell] using HSz), blk_far (blk_far Bx2 (fun e => hne (by simp [e])) _) (fun e => hne (by simp [e])) _, blk_far (blk_far Bx3 (fun e => hne (by simp [e])) _) (fun e => hne (by simp [e])) _, (Rs.elim fun x h => h.elim fun y h => ⟨x, y, blk_far (blk_far h (fun e => hne (by simp [e])) _) (fun e => hne (by simp [e])) _⟩)⟩
 refine start_ (n := 14) (S := fun w' => True) (ds := []) #[false, false, false, false, false, false, false, false, false, false, false, false, false, false] (by kernel_rfl) rfl rfl trivial (fun _ => ?_); refine with_tabW dist1.tab dist1.bits (fun HT_ HW_ => ?_)
 have hG0 : G W.drew := by subst hGd; exact ⟨below_drew bw, Nat.le_of_eq nw.symm, n0, n1, _, _, n2⟩
 generalize W.drew = W1 at hG0 ⊢
 refine inv_at [0, 1, 2, 3, 4, 5, 6, 7, 8, 9, 10, 11, 12, 13] (fun a0_ b a w' => Rg ⟨[0, 1, 2, 3, 4, 5, 6, 7, 8, 9, 10, 11, 12, 13], [(0, 7), (1, 8), (2, 9), (3, 10), (4, 11), (5, 12), (6, 13), (7, 14), (8, 15), (9, 16), (10, 5), (11, 6)], fun j => [.const (.pointer (some ⟨w.heap.size, 0, none⟩)), .const (.int .i64 a0), .const (.pointer (some ⟨w.heap.size + 1, 0, none⟩)), .const (.int .i64 b0), .ni (b0 - a0), .const (.pointer (some ⟨w.heap.size, 1, none⟩)), .const (.int .i64 a1), .const (.pointer (some ⟨w.heap.size + 1, 1, none⟩)), .const (.int .i64 b1), .ni (b1 - a1), .box, .box, .put 10 4, .put 11 9].getD j .box, w.heap.size + 1 + 1 + 1, (fun _ => 2), G, fun _ => True, 1000⟩ a0_ b a w') HT_.out HW_.out (by kernel_rfl) (by kernel_rfl) ?_ ?_ ?_
 ·exact rg0 hG0 True.intro
 ·refine steps_cons ?_ ?_
  ·rintro b a w' ⟨ms, hR⟩ hb_ hon hoff
   obtain ⟨ha, hF, hD, hG, _⟩ := id hR
   have HH := True.intro
   refine ⟨_, rfl, fun K hK => ?_⟩
   have e2 : a.tmps[2]? = some (.pointer (some ⟨w.heap.size, 0, none⟩)) := (off_ ha rfl).trans rfl
   have HR := Aside0.mk hR
   clear hR ha hF
   refine value_ (w1 := w') (v := .pointer (some ⟨w.heap.size, 0, none⟩)) (by rfl) rfl ?_ ?_
   ·go_simp
    try rfl
   exact hK.out _ _ (step_ 0 HR.out rfl rfl hb_ (Below.refl _ _) hG rfl (fun h => by cases h) (fun _ => HH) rfl)
  refine steps_cons ?_ ?_
  ·rintro b a w' ⟨ms, hR⟩ hb_ hon hoff
   obtain ⟨ha, hF, hD, hG, _⟩ := id hR
   have hG1 := hG
   rw [hGd] at hG1
   obtain ⟨_, _, Bx2, _, _⟩ := hG1
   have HH := True.intro
   refine ⟨_, rfl, fun K hK => ?_⟩
   have e7 : a.tmps[7]? = some (.pointer (some ⟨w.heap.size, 0, none⟩)) := (on_ 0 ha rfl (hon 0 (by kernel_rfl)) rfl).trans (congrArg some (hF 0 (hon 0 (by kernel_rfl))))
   have hc : w'.cell? ⟨w.heap.size, 0, none⟩ = some (.int .i64 a0) := (blk_cell Bx2 0).trans rfl
   have HR := Aside0.mk hR
   clear hR ha hF
   refine value_ (w1 := w') (v := .int .i64 a0) (by rfl) rfl ?_ ?_
   ·go_simp
    (try simp only [i64_w])
    try rfl
   exact hK.out _ _ (step_ 1 HR.out rfl rfl hb_ (Below.refl _ _) hG rfl (fun h => by cases h) (fun _ => HH) rfl)
  refine steps_cons ?_ ?_
  ·rintro b a w' ⟨ms, hR⟩ hb_ hon hoff
   obtain ⟨ha, hF, hD, hG, _⟩ := id hR
   have HH := True.intro
   refine ⟨_, rfl, fun K hK => ?_⟩
   have e3 : a.tmps[3]? = some (.pointer (some ⟨w.heap.size + 1, 0, none⟩)) := (off_ ha rfl).trans rfl
   have HR := Aside0.mk hR
   clear hR ha hF
   refine value_ (w1 := w') (v := .pointer (some ⟨w.heap.size + 1, 0, none⟩)) (by rfl) rfl ?_ ?_
   ·go_simp
    try rfl
   exact hK.out _ _ (step_ 2 HR.out rfl rfl hb_ (Below.refl _ _) hG rfl (fun h => by cases h) (fun _ => HH) rfl)
  refine steps_cons ?_ ?_
  ·rintro b a w' ⟨ms, hR⟩ hb_ hon hoff
   obtain ⟨ha, hF, hD, hG, _⟩ := id hR
   have hG1 := hG
   rw [hGd] at hG1
   obtain ⟨_, _, _, Bx3, _⟩ := hG1
   have HH := True.intro
   refine ⟨_, rfl, fun K hK => ?_⟩
   have e9 : a.tmps[9]? = some (.pointer (some ⟨w.heap.size + 1, 0, none⟩)) := (on_ 2 ha rfl (hon 2 (by kernel_rfl)) rfl).trans (congrArg some (hF 2 (hon 2 (by kernel_rfl))))
   have hc : w'.cell? ⟨w.heap.size + 1, 0, none⟩ = some (.int .i64 b0) := (blk_cell Bx3 0).trans rfl
   have HR := Aside0.mk hR
   clear hR ha hF
   refine value_ (w1 := w') (v := .int .i64 b0) (by rfl) rfl ?_ ?_
   ·go_simp
    (try simp only [i64_w])
    try rfl
   exact hK.out _ _ (step_ 3 HR.out rfl rfl hb_ (Below.refl _ _) hG rfl (fun h => by cases h) (fun _ => HH) rfl)
  refine steps_cons ?_ ?_
  ·rintro b a w' ⟨ms, hR⟩ hb_ hon hoff
   obtain ⟨ha, hF, hD, hG, _⟩ := id hR
   have HH := True.intro
   refine ⟨_, rfl, fun K hK => ?_⟩
   have e8 : a.tmps[8]? = some (.int .i64 a0) := (on_ 1 ha rfl (hon 1 (by kernel_rfl)) rfl).trans (congrArg some (hF 1 (hon 1 (by kernel_rfl))))
   have e10 : a.tmps[10]? = some (.int .i64 b0) := (on_ 3 ha rfl (hon 3 (by kernel_rfl)) rfl).trans (congrArg some (hF 3 (hon 3 (by kernel_rfl))))
   refine goes_ Try.func34 (by kernel_rfl) rfl #[.int .i64 a0, .int .i64 b0] (by rfl) rfl rfl (by first | (simp only [List.map_toArray, List.map_cons, List.map_nil, Act.eval, Array.getD_eq_getD_getElem?, Option.getD_some, e8, e10]; done) | (simp only [List.map_toArray, List.map_cons, List.map_nil, Act.eval, Array.getD_eq_getD_getElem?, Option.getD_some, e8, e10]; rfl)) ?_
   with_reducible refine (diff_c a0 b0 h_a0 h_b0 _).mono ?_
   rintro e w1 ⟨r, rfl, hN, hb⟩
   exact ⟨_, rfl, hK.out _ _ (step_ 4 hR rfl rfl hb_ hb (GM _ _ hG hb) hN (fun h => by cases h) (fun _ => HM _ _ HH hb) rfl)⟩
  refine steps_cons ?_ ?_
  ·rintro b a w' ⟨ms, hR⟩ hb_ hon hoff
   obtain ⟨ha, hF, hD, hG, _⟩ := id hR
   have HH := True.intro
   refine ⟨_, rfl, fun K hK => ?_⟩
   have e2 : a.tmps[2]? = some (.pointer (some ⟨w.heap.size, 0, none⟩)) := (off_ ha rfl).trans rfl
   have HR := Aside0.mk hR
   clear hR ha hF
   refine value_ (w1 := w') (v := .pointer (some ⟨w.heap.size, 1, none⟩)) (by rfl) rfl ?_ ?_
   ·go_simp
    try rfl
   exact hK.out _ _ (step_ 5 HR.out rfl rfl hb_ (Below.refl _ _) hG rfl (fun h => by cases h) (fun _ => HH) rfl)
  refine steps_cons ?_ ?_
  ·rintro b a w' ⟨ms, hR⟩ hb_ hon hoff
   obtain ⟨ha, hF, hD, hG, _⟩ := id hR
   have hG1 := hG
   rw [hGd] at hG1
   obtain ⟨_, _, Bx2, _, _⟩ := hG1
   have HH := True.intro
   refine ⟨_, rfl, fun K hK => ?_⟩
   have e12 : a.tmps[12]? = some (.pointer (some ⟨w.heap.size, 1, none⟩)) := (on_ 5 ha rfl (hon 5 (by kernel_rfl)) rfl).trans (congrArg some (hF 5 (hon 5 (by kernel_rfl))))
   have hc : w'.cell? ⟨w.heap.size, 1, none⟩ = some (.int .i64 a1) := (blk_cell Bx2 1).trans rfl
   have HR := Aside0.mk hR
   clear hR ha hF
   refine value_ (w1 := w') (v := .int .i64 a1) (by rfl) rfl ?_ ?_
   ·go_simp
    (try simp only [i64_w])
    try rfl
   exact hK.out _ _ (step_ 6 HR.out rfl rfl hb_ (Below.refl _ _) hG rfl (fun h => by cases h) (fun _ => HH) rfl)
  refine steps_cons ?_ ?_
  ·rintro b a w' ⟨ms, hR⟩ hb_ hon hoff
   obtain ⟨ha, hF, hD, hG, _⟩ := id hR
   have HH := True.intro
   refine ⟨_, rfl, fun K hK => ?_⟩
   have e3 : a.tmps[3]? = some (.pointer (some ⟨w.heap.size + 1, 0, none⟩)) := (off_ ha rfl).trans rfl
   have HR := Aside0.mk hR
   clear hR ha hF
   refine value_ (w1 := w') (v := .pointer (some ⟨w.heap.size + 1, 1, none⟩)) (by rfl) rfl ?_ ?_
   ·go_simp
    try rfl
   exact hK.out _ _ (step_ 7 HR.out rfl rfl hb_ (Below.refl _ _) hG rfl (fun h => by cases h) (fun _ => HH) rfl)
  refine steps_cons ?_ ?_
  ·rintro b a w' ⟨ms, hR⟩ hb_ hon hoff
   obtain ⟨ha, hF, hD, hG, _⟩ := id hR
   have hG1 := hG
   rw [hGd] at hG1
   obtain ⟨_, _, _, Bx3, _⟩ := hG1
   have HH := True.intro
   refine ⟨_, rfl, fun K hK => ?_⟩
   have e14 : a.tmps[14]? = some (.pointer (some ⟨w.heap.size + 1, 1, none⟩)) := (on_ 7 ha rfl (hon 7 (by kernel_rfl)) rfl).trans (congrArg some (hF 7 (hon 7 (by kernel_rfl))))
   have hc : w'.cell? ⟨w.heap.size + 1, 1, none⟩ = some (.int .i64 b1) := (blk_cell Bx3 1).trans rfl
   have HR := Aside0.mk hR
   clear hR ha hF
   refine value_ (w1 := w') (v := .int .i64 b1) (by rfl) rfl ?_ ?_
   ·go_simp
    (try simp only [i64_w])
    try rfl
   exact hK.out _ _ (step_ 8 HR.out rfl rfl hb_ (Below.refl _ _) hG rfl (fun h => by cases h) (fun _ => HH) rfl)
  refine steps_cons ?_ ?_
  ·rintro b a w' ⟨ms, hR⟩ hb_ hon hoff
   obtain ⟨ha, hF, hD, hG, _⟩ := id hR
   have HH := True.intro
   refine ⟨_, rfl, fun K hK => ?_⟩
   have e13 : a.tmps[13]? = some (.int .i64 a1) := (on_ 6 ha rfl (hon 6 (by kernel_rfl)) rfl).trans (congrArg some (hF 6 (hon 6 (by kernel_rfl))))
   have e15 : a.tmps[15]? = some (.int .i64 b1) := (on_ 8 ha rfl (hon 8 (by kernel_rfl)) rfl).trans (congrArg some (hF 8 (hon 8 (by kernel_rfl))))
   refine goes_ Try.func34 (by kernel_rfl) rfl #[.int .i64 a1, .int .i64 b1] (by rfl) rfl rfl (by first | (simp only [List.map_toArray, List.map_cons, List.map_nil, Act.eval, Array.getD_eq_getD_getElem?, Option.getD_some, e13, e15]; done) | (simp only [List.map_toArray, List.map_cons, List.map_nil, Act.eval, Array.getD_eq_getD_getElem?, Option.getD_some, e13, e15]; rfl)) ?_
   with_reducible refine (diff_c a1 b1 h_a1 h_b1 _).mono ?_
   rintro e w1 ⟨r, rfl, hN, hb⟩
   exact ⟨_, rfl, hK.out _ _ (step_ 9 hR rfl rfl hb_ hb (GM _ _ hG hb) hN (fun h => by cases h) (fun _ => HM _ _ HH hb) rfl)⟩
  refine steps_cons ?_ ?_
  ·rintro b a w' ⟨ms, hR⟩ hb_ hon hoff
   obtain ⟨ha, hF, hD, hG, _⟩ := id hR
   have hG1 := hG
   rw [hGd] at hG1
   obtain ⟨_, HSz, _, _, _⟩ := hG1
   have HH := True.intro
   refine ⟨_, rfl, fun K hK => ?_⟩
   refine box_step ?hg (N := 5) ?hd (cs := #[.int .i64 0, .slice none 0 0]) (t := 33) ?hr ?_; (case hd => rfl); (case hg => rfl); (case hr => first | (go_simp; done) | (go_simp; rfl))
   intro g hg w1 hbox hb
   exact hK.out _ _ (step_ 10 hR rfl rfl hb_ hb (GM _ _ hG hb) ⟨g, _, _, rfl, by rw [hg]; exact HSz, hbox⟩ (fun _ => by rw [hg]) (fun _ => HM _ _ HH hb) rfl)
  refine steps_cons ?_ ?_
  ·rintro b a w' ⟨ms, hR⟩ hb_ hon hoff
   obtain ⟨ha, hF, hD, hG, _⟩ := id hR
   have hG1 := hG
   rw [hGd] at hG1
   obtain ⟨_, HSz, _, _, _⟩ := hG1
   have HH := True.intro
   refine ⟨_, rfl, fun K hK => ?_⟩
   refine box_step ?hg (N := 6) ?hd (cs := #[.int .i64 0, .slice none 0 0]) (t := 33) ?hr ?_; (case hd => rfl); (case hg => rfl); (case hr => first | (go_simp; done) | (go_simp; rfl))
   intro g hg w1 hbox hb
   exact hK.out _ _ (step_ 11 hR rfl rfl hb_ hb (GM _ _ hG hb) ⟨g, _, _, rfl, by rw [hg]; exact HSz, hbox⟩ (fun _ => by rw [hg]) (fun _ => HM _ _ HH hb) rfl)
  refine steps_cons ?_ ?_
  ·rintro b a w' ⟨ms, hR⟩ hb_ hon hoff
   obtain ⟨ha, hF, hD, hG, _⟩ := id hR
   have HH := True.intro
   refine ⟨_, rfl, fun K hK => ?_⟩
   have hn := hF 4 (hon 4 (by kernel_rfl))
   obtain ⟨sz, Az, lz, cz, ev⟩ := NI.shape hn
   have e11 : a.tmps[11]? = some (.agg #[.int .i64 sz, .slice Az lz cz]) := (on_ 4 ha rfl (hon 4 (by kernel_rfl)) rfl).trans (congrArg some ev)
   obtain ⟨g, x0, y0, eg, hgK, hgh⟩ := hF 10 (hon 10 (by kernel_rfl))
   replace hgK : w.heap.size + 1 + 1 + 1 ≤ g := hgK
   have e5 : a.tmps[5]? = some (.pointer (some ⟨g, 0, none⟩)) := (on_ 10 ha rfl (hon 10 (by kernel_rfl)) rfl).trans (congrArg some eg)
   have h0 : w'.cell? ⟨g, 0, none⟩ = some x0 := (blk_cell hgh 0).trans rfl
   have h1 : w'.cell? ⟨g, 1, none⟩ = some y0 := (blk_cell hgh 1).trans rfl
   have f0 := blk_frozen hgh 0
   have f1 := blk_frozen hgh 1
   have HR := Aside0.mk hR
   clear hR ha
   refine skip_ (w1 := ?_) (by rfl) rfl ?_ ?_
   rotate_left
   ·go_simp
    rfl
   exact hK.out _ _ (put_ HR.out rfl rfl hb_ rfl rfl (hon 10 (by kernel_rfl)) (hon 4 (by kernel_rfl)) rfl eg ev (GS _ g _ _ _ _ hG hgh (by omega) (fun h => by omega)) (fun _ => HH) rfl)
  refine steps_cons ?_ ?_
  ·rintro b a w' ⟨ms, hR⟩ hb_ hon hoff
   obtain ⟨ha, hF, hD, hG, _⟩ := id hR
   have HH := True.intro
   refine ⟨_, rfl, fun K hK => ?_⟩
   have hn := hF 9 (hon 9 (by kernel_rfl))
   obtain ⟨sz, Az, lz, cz, ev⟩ := NI.shape hn
   have e16 : a.tmps[16]? = some (.agg #[.int .i64 sz, .slice Az lz cz]) := (on_ 9 ha rfl (hon 9 (by kernel_rfl)) rfl).trans (congrArg some ev)
   obtain ⟨g, x0, y0, eg, hgK, hgh⟩ := hF 11 (hon 11 (by kernel_rfl))
   replace hgK : w.heap.size + 1 + 1 + 1 ≤ g := hgK
   have e6 : a.tmps[6]? = some (.pointer (some ⟨g, 0, none⟩)) := (on_ 11 ha rfl (hon 11 (by kernel_rfl)) rfl).trans (congrArg some eg)
   have h0 : w'.cell? ⟨g, 0, none⟩ = some x0 := (blk_cell hgh 0).trans rfl
   have h1 : w'.cell? ⟨g, 1, none⟩ = some y0 := (blk_cell hgh 1).trans rfl
   have f0 := blk_frozen hgh 0
   have f1 := blk_frozen hgh 1
   have HR := Aside0.mk hR
   clear hR ha
   refine skip_ (w1 := ?_) (by rfl) rfl ?_ ?_
   rotate_left
   ·go_simp
    rfl
   exact hK.out _ _ (put_ HR.out rfl rfl hb_ rfl rfl (hon 11 (by kernel_rfl)) (hon 9 (by kernel_rfl)) rfl eg ev (GS _ g _ _ _ _ hG hgh (by omega) (fun h => by omega)) (fun _ => HH) rfl)
  exact steps_nil
 rintro b a V1 hall ⟨ms, ha, hF, hD, hG, _⟩
 rw [hGd] at hG
 obtain ⟨HBl, HSz, Bx2, Bx3, Rs⟩ := hG
 have bb1_0 := hall 0 (by kernel_rfl)
 have bb1_1 := hall 1 (by kernel_rfl)
 have bb1_2 := hall 2 (by kernel_rfl)
 have bb1_3 := hall 3 (by kernel_rfl)
 have bb1_4 := hall 4 (by kernel_rfl)
 have bb1_5 := hall 5 (by kernel_rfl)
 have bb1_6 := hall 6 (by kernel_rfl)
 have bb1_7 := hall 7 (by kernel_rfl)
 have bb1_8 := hall 8 (by kernel_rfl)
 have bb1_9 := hall 9 (by kernel_rfl)
 have bb1_10 := hall 10 (by kernel_rfl)
 have bb1_11 := hall 11 (by kernel_rfl)
 have bb1_12 := hall 12 (by kernel_rfl)
 have bb1_13 := hall 13 (by kernel_rfl)
 have m1_0 : ms 0 = .pointer (some ⟨w.heap.size, 0, none⟩) := hF 0 bb1_0
 have m1_1 : ms 1 = .int .i64 a0 := hF 1 bb1_1
 have m1_2 : ms 2 = .pointer (some ⟨w.heap.size + 1, 0, none⟩) := hF 2 bb1_2
 have m1_3 : ms 3 = .int .i64 b0 := hF 3 bb1_3
 have m1_4 : NI V1 (ms 4) (b0 - a0) := hF 4 bb1_4
 have m1_5 : ms 5 = .pointer (some ⟨w.heap.size, 1, none⟩) := hF 5 bb1_5
 have m1_6 : ms 6 = .int .i64 a1 := hF 6 bb1_6
 have m1_7 : ms 7 = .pointer (some ⟨w.heap.size + 1, 1, none⟩) := hF 7 bb1_7
 have m1_8 : ms 8 = .int .i64 b1 := hF 8 bb1_8
 have m1_9 : NI V1 (ms 9) (b1 - a1) := hF 9 bb1_9
 obtain ⟨g1_10, _, _, m1_10, k1_10, _⟩ := hF 10 bb1_10
 replace k1_10 : w.heap.size + 1 + 1 + 1 ≤ g1_10 := k1_10
 obtain ⟨g1_11, _, _, m1_11, k1_11, _⟩ := hF 11 bb1_11
 replace k1_11 : w.heap.size + 1 + 1 + 1 ≤ g1_11 := k1_11
 obtain ⟨_, _, _, _, z1_12, x1_12, y1_12, n1_12, e1_12, h1_12⟩ := hF 12 bb1_12
 obtain rfl : g1_10 = z1_12 := by rw [m1_10] at n1_12; injection n1_12 with q; injection q with q; injection q with q
 rw [e1_12] at m1_4
 obtain ⟨_, _, _, _, z1_13, x1_13, y1_13, n1_13, e1_13, h1_13⟩ := hF 13 bb1_13
 obtain rfl : g1_11 = z1_13 := by rw [m1_11] at n1_13; injection n1_13 with q; injection q with q; injection q with q
 rw [e1_13] at m1_9
 subst ha
 simp only [ent, List.map_cons, List.map_nil, putSel, bb1_0, bb1_1, bb1_2, bb1_3, bb1_4, bb1_5, bb1_6, bb1_7, bb1_8, bb1_9, bb1_10, bb1_11, m1_0, m1_1, m1_2, m1_3, m1_5, m1_6, m1_7, m1_8, m1_10, m1_11, if_true, Act.put, List.setIfInBounds_toArray, List.set_cons_zero, List.set_cons_succ]
 clear hF hD bb1_0 bb1_1 bb1_2 bb1_3 bb1_4 bb1_5 bb1_6 bb1_7 bb1_8 bb1_9 bb1_10 bb1_11 bb1_12 bb1_13
 go_wp2_with fail
 obtain ⟨G, hGd⟩ : ∃ G : World → Prop, G = (fun w' => Below w.heap.size w w' ∧ w.heap.size + 1 + 1 + 1 ≤ w'.heap.size ∧ w'.heap[g1_10]? = some (.cells #[x1_12, y1_12] 33 (0, 0)) ∧ w'.heap[g1_11]? = some (.cells #[x1_13, y1_13] 33 (0, 0)) ∧ NI w' (.agg #[x1_12, y1_12]) (b0 - a0) ∧ NI w' (.agg #[x1_13, y1_13]) (b1 - a1) ∧ ∃ x y, w'.heap[w.heap.size + 1 + 1]? = some (.cells #[x, y] 33 (0, 0))) := ⟨_, rfl⟩
 have GM : ∀ w1 w2 : World, G w1 → Below w1.heap.size w1 w2 → G w2 := by
  subst hGd
  rintro w1 w2 ⟨HBl, HSz, Bx5, Bx6, Ni0, Ni1, Rs⟩ hb
  exact ⟨below_step HBl hb, Nat.le_trans HSz hb.size, blk_below Bx5 hb, blk_below Bx6 hb, NI.below Ni0 hb, NI.below Ni1 hb, (Rs.elim fun x h => h.elim fun y h => ⟨x, y, blk_below h hb⟩)⟩
 have HM : ∀ w1 w2 : World, (fun _ => True) w1 → Below w1.heap.size w1 w2 → (fun _ => True) w2 := fun _ _ _ _ => True.intro
 have GR : ∀ (w1 : World) (x0 y0 x y : Value), G w1 → w1.heap[w.heap.size + 1 + 1]? = some (.cells #[x0, y0] 33 (0, 0)) → G ((w1.setCell ⟨w.heap.size + 1 + 1, 0, none⟩ x).setCell ⟨w.heap.size + 1 + 1, 1, none⟩ y) := by
  subst hGd
  rintro w1 x0 y0 x y ⟨HBl, HSz, Bx5, Bx6, Ni0, Ni1, Rs⟩ hgh
  have hle : w.heap.size ≤ w.heap.size + 1 + 1 := by omega
  exact ⟨below_set2 HBl hle _ _ _ _, (by simpa [World.setCell] using HSz), blk_far (blk_far Bx5 (fun e => by have e1 : (g1_10 : Nat) = w.heap.size + 1 + 1 := e; omega) _) (fun e => by have e1 : (g1_10 : Nat) = w.heap.size + 1 + 1 := e; omega) _, blk_far (blk_far Bx6 (fun e => by have e1 : (g1_11 : Nat) = w.heap.size + 1 + 1 := e; omega) _) (fun e => by have e1 : (g1_11 : Nat) = w.heap.size + 1 + 1 := e; omega) _, NI.store (NI.store Ni0 hgh (by decide) 0 _) (blk_put hgh 0 _ rfl) (by decide) 1 _, NI.store (NI.store Ni1 hgh (by decide) 0 _) (blk_put hgh 0 _ rfl) (by decide) 1 _, _, _, blk_put (blk_put hgh 0 _ rfl) 1 _ rfl⟩
 refine start_ (n := 8) (S := fun w' => True) (ds := []) #[false, false, false, false, false, false, false, false] (by kernel_rfl) rfl rfl trivial (fun _ => ?_); refine with_tabW dist2.tab dist2.bits (fun HT_ HW_ => ?_)
 have hG0 : G V1.drew := by subst hGd; exact ⟨below_drew HBl, HSz, h1_12, h1_13, m1_4.drewN 1, m1_9.drewN 1, Rs⟩
 generalize V1.drew = W1 at hG0 ⊢
 refine inv_at [0, 1, 2, 3, 4, 5, 6, 7] (fun a0_ b a w' => Rg ⟨[0, 1, 2, 3, 4, 5, 6, 7], [(0, 17), (1, 18), (2, 19), (3, 20), (4, 21), (5, 22), (6, 23)], fun j => [.const (.agg #[x1_12, y1_12]), .const (.agg #[x1_12, y1_12]), .ni ((b0 - a0) * (b0 - a0)), .const (.agg #[x1_13, y1_13]), .const (.agg #[x1_13, y1_13]), .ni ((b1 - a1) * (b1 - a1)), .ni (((b0 - a0) * (b0 - a0)) + ((b1 - a1) * (b1 - a1))), .fin (fun ms w' => ∃ x y, w'.heap[w.heap.size + 1 + 1]? = some (.cells #[x, y] 33 (0, 0)) ∧ NI w' (.agg #[x, y]) (((b0 - a0) * (b0 - a0)) + ((b1 - a1) * (b1 - a1))))].getD j .box, w.heap.size + 1 + 1 + 1, (fun _ => 0), G, fun _ => True, 7⟩ a0_ b a w') HT_.out HW_.out (by kernel_rfl) (by kernel_rfl) ?_ ?_ ?_
 ·exact rg0 hG0 True.intro
 ·refine steps_cons ?_ ?_
  ·rintro b a w' ⟨ms, hR⟩ hb_ hon hoff
   obtain ⟨ha, hF, hD, hG, _⟩ := id hR
   have hG1 := hG
   rw [hGd] at hG1
   obtain ⟨_, _, Bx5, _, _, _, _⟩ := hG1
   have HH := hR.2.2.2.2 (hoff 7 (by kernel_rfl))
   refine ⟨_, rfl, fun K hK => ?_⟩
   have e5 : a.tmps[5]? = some (.pointer (some ⟨g1_10, 0, none⟩)) := (off_ ha rfl).trans rfl
   have hc0 : w'.cell? ⟨g1_10, 0, none⟩ = some (x1_12) := (blk_cell Bx5 0).trans rfl
   have hc1 : w'.cell? ⟨g1_10, 1, none⟩ = some (y1_12) := (blk_cell Bx5 1).trans rfl
   have HR := Aside0.mk hR
   clear hR ha hF
   refine value_ (w1 := w') (v := .agg #[x1_12, y1_12]) (by rfl) rfl ?_ ?_
   ·go_simp
    (try simp only [i64_w])
    try rfl
   exact hK.out _ _ (step_ 0 HR.out rfl rfl hb_ (Below.refl _ _) hG rfl (fun h => by cases h) (fun _ => HH) rfl)
  refine steps_cons ?_ ?_
  ·rintro b a w' ⟨ms, hR⟩ hb_ hon hoff
   obtain ⟨ha, hF, hD, hG, _⟩ := id hR
   have hG1 := hG
   rw [hGd] at hG1
   obtain ⟨_, _, Bx5, _, _, _, _⟩ := hG1
   have HH := hR.2.2.2.2 (hoff 7 (by kernel_rfl))
   refine ⟨_, rfl, fun K hK => ?_⟩
   have e5 : a.tmps[5]? = some (.pointer (some ⟨g1_10, 0, none⟩)) := (off_ ha rfl).trans rfl
   have hc0 : w'.cell? ⟨g1_10, 0, none⟩ = some (x1_12) := (blk_cell Bx5 0).trans rfl
   have hc1 : w'.cell? ⟨g1_10, 1, none⟩ = some (y1_12) := (blk_cell Bx5 1).trans rfl
   have HR := Aside0.mk hR
   clear hR ha hF
   refine value_ (w1 := w') (v := .agg #[x1_12, y1_12]) (by rfl) rfl ?_ ?_
   ·go_simp
    (try simp only [i64_w])
    try rfl
   exact hK.out _ _ (step_ 1 HR.out rfl rfl hb_ (Below.refl _ _) hG rfl (fun h => by cases h) (fun _ => HH) rfl)
  refine steps_cons ?_ ?_
  ·rintro b a w' ⟨ms, hR⟩ hb_ hon hoff
   obtain ⟨ha, hF, hD, hG, _⟩ := id hR
   have hG1 := hG
   rw [hGd] at hG1
   obtain ⟨_, _, _, _, Ni0, _, _⟩ := hG1
   have HH := hR.2.2.2.2 (hoff 7 (by kernel_rfl))
   refine ⟨_, rfl, fun K hK => ?_⟩
   have e17 : a.tmps[17]? = some (.agg #[x1_12, y1_12]) := (on_ 0 ha rfl (hon 0 (by kernel_rfl)) rfl).trans (congrArg some (hF 0 (hon 0 (by kernel_rfl))))
   have e18 : a.tmps[18]? = some (.agg #[x1_12, y1_12]) := (on_ 1 ha rfl (hon 1 (by kernel_rfl)) rfl).trans (congrArg some (hF 1 (hon 1 (by kernel_rfl))))
   refine goes_ Try.func35 (by kernel_rfl) rfl #[.agg #[x1_12, y1_12], .agg #[x1_12, y1_12]] (by rfl) rfl rfl (by first | (simp only [List.map_toArray, List.map_cons, List.map_nil, Act.eval, Array.getD_eq_getD_getElem?, Option.getD_some, e17, e18]; done) | (simp only [List.map_toArray, List.map_cons, List.map_nil, Act.eval, Array.getD_eq_getD_getElem?, Option.getD_some, e17, e18]; rfl)) ?_
   with_reducible refine (mul_c _ _ (b0 - a0) (b0 - a0) s1 s1 _ (Ni0) (Ni0)).mono ?_
   rintro e w1 ⟨r, rfl, hN, hb⟩
   exact ⟨_, rfl, hK.out _ _ (step_ 2 hR rfl rfl hb_ hb (GM _ _ hG hb) hN (fun h => by cases h) (fun _ => HM _ _ HH hb) rfl)⟩
  refine steps_cons ?_ ?_
  ·rintro b a w' ⟨ms, hR⟩ hb_ hon hoff
   obtain ⟨ha, hF, hD, hG, _⟩ := id hR
   have hG1 := hG
   rw [hGd] at hG1
   obtain ⟨_, _, _, Bx6, _, _, _⟩ := hG1
   have HH := hR.2.2.2.2 (hoff 7 (by kernel_rfl))
   refine ⟨_, rfl, fun K hK => ?_⟩
   have e6 : a.tmps[6]? = some (.pointer (some ⟨g1_11, 0, none⟩)) := (off_ ha rfl).trans rfl
   have hc0 : w'.cell? ⟨g1_11, 0, none⟩ = some (x1_13) := (blk_cell Bx6 0).trans rfl
   have hc1 : w'.cell? ⟨g1_11, 1, none⟩ = some (y1_13) := (blk_cell Bx6 1).trans rfl
   have HR := Aside0.mk hR
   clear hR ha hF
   refine value_ (w1 := w') (v := .agg #[x1_13, y1_13]) (by rfl) rfl ?_ ?_
   ·go_simp
    (try simp only [i64_w])
    try rfl
   exact hK.out _ _ (step_ 3 HR.out rfl rfl hb_ (Below.refl _ _) hG rfl (fun h => by cases h) (fun _ => HH) rfl)
  refine steps_cons ?_ ?_
  ·rintro b a w' ⟨ms, hR⟩ hb_ hon hoff
   obtain ⟨ha, hF, hD, hG, _⟩ := id hR
   have hG1 := hG
   rw [hGd] at hG1
   obtain ⟨_, _, _, Bx6, _, _, _⟩ := hG1
   have HH := hR.2.2.2.2 (hoff 7 (by kernel_rfl))
   refine ⟨_, rfl, fun K hK => ?_⟩
   have e6 : a.tmps[6]? = some (.pointer (some ⟨g1_11, 0, none⟩)) := (off_ ha rfl).trans rfl
   have hc0 : w'.cell? ⟨g1_11, 0, none⟩ = some (x1_13) := (blk_cell Bx6 0).trans rfl
   have hc1 : w'.cell? ⟨g1_11, 1, none⟩ = some (y1_13) := (blk_cell Bx6 1).trans rfl
   have HR := Aside0.mk hR
   clear hR ha hF
   refine value_ (w1 := w') (v := .agg #[x1_13, y1_13]) (by rfl) rfl ?_ ?_
   ·go_simp
    (try simp only [i64_w])
    try rfl
   exact hK.out _ _ (step_ 4 HR.out rfl rfl hb_ (Below.refl _ _) hG rfl (fun h => by cases h) (fun _ => HH) rfl)
  refine steps_cons ?_ ?_
  ·rintro b a w' ⟨ms, hR⟩ hb_ hon hoff
   obtain ⟨ha, hF, hD, hG, _⟩ := id hR
   have hG1 := hG
   rw [hGd] at hG1
   obtain ⟨_, _, _, _, _, Ni1, _⟩ := hG1
   have HH := hR.2.2.2.2 (hoff 7 (by kernel_rfl))
   refine ⟨_, rfl, fun K hK => ?_⟩
   have e20 : a.tmps[20]? = some (.agg #[x1_13, y1_13]) := (on_ 3 ha rfl (hon 3 (by kernel_rfl)) rfl).trans (congrArg some (hF 3 (hon 3 (by kernel_rfl))))
   have e21 : a.tmps[21]? = some (.agg #[x1_13, y1_13]) := (on_ 4 ha rfl (hon 4 (by kernel_rfl)) rfl).trans (congrArg some (hF 4 (hon 4 (by kernel_rfl))))
   refine goes_ Try.func35 (by kernel_rfl) rfl #[.agg #[x1_13, y1_13], .agg #[x1_13, y1_13]] (by rfl) rfl rfl (by first | (simp only [List.map_toArray, List.map_cons, List.map_nil, Act.eval, Array.getD_eq_getD_getElem?, Option.getD_some, e20, e21]; done) | (simp only [List.map_toArray, List.map_cons, List.map_nil, Act.eval, Array.getD_eq_getD_getElem?, Option.getD_some, e20, e21]; rfl)) ?_
   with_reducible refine (mul_c _ _ (b1 - a1) (b1 - a1) s2 s2 _ (Ni1) (Ni1)).mono ?_
   rintro e w1 ⟨r, rfl, hN, hb⟩
   exact ⟨_, rfl, hK.out _ _ (step_ 5 hR rfl rfl hb_ hb (GM _ _ hG hb) hN (fun h => by cases h) (fun _ => HM _ _ HH hb) rfl)⟩
  refine steps_cons ?_ ?_
  ·rintro b a w' ⟨ms, hR⟩ hb_ hon hoff
   obtain ⟨ha, hF, hD, hG, _⟩ := id hR
   have HH := hR.2.2.2.2 (hoff 7 (by kernel_rfl))
   refine ⟨_, rfl, fun K hK => ?_⟩
   have e19 : a.tmps[19]? = some (ms 2) := on_ 2 ha rfl (hon 2 (by kernel_rfl)) rfl
   have q2 : NI w' (ms 2) ((b0 - a0) * (b0 - a0)) := hF 2 (hon 2 (by kernel_rfl))
   have e22 : a.tmps[22]? = some (ms 5) := on_ 5 ha rfl (hon 5 (by kernel_rfl)) rfl
   have q5 : NI w' (ms 5) ((b1 - a1) * (b1 - a1)) := hF 5 (hon 5 (by kernel_rfl))
   refine goes_ Try.func37 (by kernel_rfl) rfl #[ms 2, ms 5] (by rfl) rfl rfl (by first | (simp only [List.map_toArray, List.map_cons, List.map_nil, Act.eval, Array.getD_eq_getD_getElem?, Option.getD_some, e19, e22]; done) | (simp only [List.map_toArray, List.map_cons, List.map_nil, Act.eval, Array.getD_eq_getD_getElem?, Option.getD_some, e19, e22]; rfl)) ?_
   with_reducible refine (add_c _ _ ((b0 - a0) * (b0 - a0)) ((b1 - a1) * (b1 - a1)) s3 s4 _ (q2) (q5)).mono ?_
   rintro e w1 ⟨r, rfl, hN, hb⟩
   exact ⟨_, rfl, hK.out _ _ (step_ 6 hR rfl rfl hb_ hb (GM _ _ hG hb) hN (fun h => by cases h) (fun _ => HM _ _ HH hb) rfl)⟩
  refine steps_cons ?_ ?_
  ·rintro b a w' ⟨ms, hR⟩ hb_ hon hoff
   obtain ⟨ha, hF, hD, hG, _⟩ := id hR
   have hG1 := hG
   rw [hGd] at hG1
   obtain ⟨_, _, _, _, _, _, Rs⟩ := hG1
   refine ⟨_, rfl, fun K hK => ?_⟩
   have hn := hF 6 (hon 6 (by kernel_rfl))
   obtain ⟨sz, Az, lz, cz, ev⟩ := NI.shape hn
   have e23 : a.tmps[23]? = some (.agg #[.int .i64 sz, .slice Az lz cz]) := (on_ 6 ha rfl (hon 6 (by kernel_rfl)) rfl).trans (congrArg some ev)
   have e4 : a.tmps[4]? = some (.pointer (some ⟨w.heap.size + 1 + 1, 0, none⟩)) := (off_ ha rfl).trans rfl
   obtain ⟨x0, y0, hgh⟩ := Rs
   have h0 : w'.cell? ⟨w.heap.size + 1 + 1, 0, none⟩ = some x0 := (blk_cell hgh 0).trans rfl
   have h1 : w'.cell? ⟨w.heap.size + 1 + 1, 1, none⟩ = some y0 := (blk_cell hgh 1).trans rfl
   have f0 := blk_frozen hgh 0
   have f1 := blk_frozen hgh 1
   have HR := Aside0.mk hR
   clear hR ha
   refine skip_ (w1 := ?_) (by rfl) rfl ?_ ?_
   rotate_left
   ·go_simp
    rfl
   exact hK.out _ _ (fin_ HR.out rfl (hall_ (by kernel_rfl) hon) rfl hb_ rfl hgh (by show w.heap.size + 1 + 1 < w.heap.size + 1 + 1 + 1; omega) ⟨_, _, blk_put (blk_put hgh 0 _ rfl) 1 _ rfl, by rw [← ev]; exact NI.store (NI.store hn hgh (by decide) 0 _) (blk_put hgh 0 _ rfl) (by decide) 1 _⟩ (GR _ _ _ _ _ hG hgh) rfl)
  exact steps_nil
 rintro b a V2 hall ⟨ms, ha, hF, hD, hG, _⟩
 rw [hGd] at hG
 obtain ⟨HBl, HSz, Bx5, Bx6, Ni0, Ni1, Rs⟩ := hG
 have bb2_0 := hall 0 (by kernel_rfl)
 have bb2_1 := hall 1 (by kernel_rfl)
 have bb2_2 := hall 2 (by kernel_rfl)
 have bb2_3 := hall 3 (by kernel_rfl)
 have bb2_4 := hall 4 (by kernel_rfl)
 have bb2_5 := hall 5 (by kernel_rfl)
 have bb2_6 := hall 6 (by kernel_rfl)
 have bb2_7 := hall 7 (by kernel_rfl)
 have m2_0 : ms 0 = .agg #[x1_12, y1_12] := hF 0 bb2_0
 have m2_1 : ms 1 = .agg #[x1_12, y1_12] := hF 1 bb2_1
 have m2_2 : NI V2 (ms 2) ((b0 - a0) * (b0 - a0)) := hF 2 bb2_2
 have m2_3 : ms 3 = .agg #[x1_13, y1_13] := hF 3 bb2_3
 have m2_4 : ms 4 = .agg #[x1_13, y1_13] := hF 4 bb2_4
 have m2_5 : NI V2 (ms 5) ((b1 - a1) * (b1 - a1)) := hF 5 bb2_5
 have m2_6 : NI V2 (ms 6) (((b0 - a0) * (b0 - a0)) + ((b1 - a1) * (b1 - a1))) := hF 6 bb2_6
 obtain ⟨_, x2_7, y2_7, h2_7, m2_7⟩ := hF 7 bb2_7
 subst ha
 simp only [ent, List.map_cons, List.map_nil, putSel, bb2_0, bb2_1, bb2_2, bb2_3, bb2_4, bb2_5, bb2_6, m2_0, m2_1, m2_3, m2_4, if_true, Act.put, List.setIfInBounds_toArray, List.set_cons_zero, List.set_cons_succ]
 clear hF hD bb2_0 bb2_1 bb2_2 bb2_3 bb2_4 bb2_5 bb2_6 bb2_7
 go_wp2
 refine bodyPost_ret (results_cell_row rfl _ _ (w.heap.size + 1 + 1) 33 #[x2_7, y2_7] (0, 0) _ rfl h2_7 Try.underlying33 rfl (by kernel_rfl)) rfl ?_
 exact ⟨_, rfl, m2_7, HBl⟩
end Go.Proofs.Ytmeckkckjikjiaa.Rf
end
section
namespace Go.Proofs.Ytmeckkckjikjiaa.F
open Go RowKit YtmeckkckjikjiaaW.PrintWords YtmeckkckjikjiaaW.PrintLast YtmeckkckjikjiaaW.PrintMore
set_option linter.unusedVariables false
theorem some4 {n r1 r2 r3 r4 : Int} (h : some (qq4 n) = some (r1, r2, r3, r4)) : r1 = q0 n ∧ r2 = q1 n ∧ r3 = q2 n ∧ r4 = q3 n := by
 injection h with h
 unfold qq4 at h
 injection h with h1 h
 injection h with h2 h
 injection h with h3 h4
 exact ⟨h1.symm, h2.symm, h3.symm, h4.symm⟩
def quad_Add.f (a0_0 a0_1 a0_2 a0_3 a1_0 a1_1 a1_2 a1_3 : Int) : Option (Int × Int × Int × Int) := if QOk a0_0 a0_1 a0_2 a0_3 ∧ QOk a1_0 a1_1 a1_2 a1_3 then some (qq4 (qv a0_0 a0_1 a0_2 a0_3 + qv a1_0 a1_1 a1_2 a1_3)) else none
theorem two_all (w : World) (o0 o1 : Obj) : Below w.heap.size w ((w.alloc o0).alloc o1) := ((Below.refl _ _).alloc (Nat.le_refl _) _).alloc (by simp) _
theorem two_new (w : World) (o0 o1 : Obj) : ((w.alloc o0).alloc o1).heap[w.heap.size + 1]? = some o1 := by have := blk_new (w.alloc o0) o1; simpa using this
theorem three_new (w : World) (o0 o1 o2 : Obj) : (((w.alloc o0).alloc o1).alloc o2).heap[w.heap.size + 1 + 1]? = some o2 := by have := blk_new ((w.alloc o0).alloc o1) o2; simpa using this
theorem three_all (w : World) (o0 o1 o2 : Obj) : Below w.heap.size w (((w.alloc o0).alloc o1).alloc o2) := (two_all w o0 o1).alloc (by simp; omega) _
structure Four (w1 : World) (g : Nat) (t : TypeId) (v0 v1 v2 v3 : Value) : Prop where
 blk : w1.heap[g]? = some (.cells #[v0, v1, v2, v3] t (0, 0))
theorem Four.cells {w1 : World} {g : Nat} {t : TypeId} {v0 v1 v2 v3 : Value} (h : Four w1 g t v0 v1 v2 v3) : (w1.cell? ⟨g, 0, none⟩ = some v0 ∧ w1.cell? ⟨g, 1, none⟩ = some v1 ∧ w1.cell? ⟨g, 2, none⟩ = some v2 ∧ w1.cell? ⟨g, 3, none⟩ = some v3) ∧
  (w1.frozen? ⟨g, 0, none⟩ = false ∧ w1.frozen? ⟨g, 1, none⟩ = false ∧ w1.frozen? ⟨g, 2, none⟩ = false ∧ w1.frozen? ⟨g, 3, none⟩ = false) :=
 ⟨⟨blk_cell h.blk 0, blk_cell h.blk 1, blk_cell h.blk 2, blk_cell h.blk 3⟩, ⟨blk_frozen h.blk 0, blk_frozen h.blk 1, blk_frozen h.blk 2, blk_frozen h.blk 3⟩⟩
theorem Four.put {w1 : World} {g : Nat} {t : TypeId} {v0 v1 v2 v3 : Value} (h : Four w1 g t v0 v1 v2 v3) (u0 u1 u2 u3 : Value) : ((((w1.setCell ⟨g, 0, none⟩ u0).setCell ⟨g, 1, none⟩ u1).setCell ⟨g, 2, none⟩ u2).setCell ⟨g, 3, none⟩ u3).heap[g]? = some (.cells #[u0, u1, u2, u3] t (0, 0)) :=
 blk_put (blk_put (blk_put (blk_put h.blk 0 u0 rfl) 1 u1 rfl) 2 u2 rfl) 3 u3 rfl
theorem put_below {w w1 : World} {g : Nat} (hb : Below w.heap.size w w1) (hg : w.heap.size ≤ g) (u0 u1 u2 u3 : Value) : Below w.heap.size w ((((w1.setCell ⟨g, 0, none⟩ u0).setCell ⟨g, 1, none⟩ u1).setCell ⟨g, 2, none⟩ u2).setCell ⟨g, 3, none⟩ u3) :=
 below_set (below_set (below_set (below_set hb hg) hg) hg) hg
theorem results_c1 {P : Program} {fn : Func} {p : Tmp} {ty : TypeId} (h : fn.results = #[.cell p ty]) (tmps : Array Value) (w : World) (g : Nat) (t : TypeId) (cs : Array Value) (fr : Nat × Nat) (d : TypeDesc)
  (hp : tmps.getD p undef = .pointer (some ⟨g, 0, none⟩)) (hg : w.heap[g]? = some (.cells cs t fr))
  (hu : P.underlying ty = some d) (hd : (match d with | .struct _ | .array _ _ => true | _ => false) = true) (hi : (P.info? ty).map (·.size) = some cs.size) :
  (results fn tmps).run P w = .ok (.agg cs) w := by
 have hp' : tmps[p]?.getD undef = .pointer (some ⟨g, 0, none⟩) := by simpa using hp
 simp [results, h, hp', asAddr, run_loadVar_row w g t ty cs fr d hg hu hd hi]
theorem quad_Add.calls (a0_0 a0_1 a0_2 a0_3 a1_0 a1_1 a1_2 a1_3 r1 r2 r3 r4 : Int) (w : World) (h : quad_Add.f a0_0 a0_1 a0_2 a0_3 a1_0 a1_1 a1_2 a1_3 = some (r1, r2, r3, r4)) :
  Calls Try.prog 28 #[.agg #[.int .u64 a0_0, .int .u64 a0_1, .int .u64 a0_2, .int .u64 a0_3], .agg #[.int .u64 a1_0, .int .u64 a1_1, .int .u64 a1_2, .int .u64 a1_3]] w fun e w' => e = .returned (.agg #[.int .u64 r1, .int .u64 r2, .int .u64 r3, .int .u64 r4]) ∧ Below w.heap.size w w' := by
 unfold quad_Add.f at h
 by_cases hb : QOk a0_0 a0_1 a0_2 a0_3 ∧ QOk a1_0 a1_1 a1_2 a1_3
 ·rw [if_pos hb] at h
  obtain ⟨rfl, rfl, rfl, rfl⟩ := some4 h
  have C := Aside0.mk (q_add_c hb.1 hb.2)
  clear h hb
  go_enter Try.func28, Try.ntmps28
  go_wp2_with (go_at_call 51; refine (C.out _).mono ?_; rintro e w1 ⟨rfl, hb⟩; have F := Aside0.mk (Four.mk (blk_below (three_new w _ _ _) hb)); have HB := Aside0.mk ((three_all w _ _ _).trans (hb.mono (by simp; omega))); clear hb; obtain ⟨⟨z0, z1, z2, z3⟩, f0, f1, f2, f3⟩ := F.out.cells)
  refine bodyPost_ret (results_c1 rfl _ _ (w.heap.size + 1 + 1) 50 _ (0, 0) _ rfl (F.out.put _ _ _ _) Try.underlying50 rfl (by kernel_rfl)) rfl ?_
  exact ⟨rfl, put_below HB.out (by omega) _ _ _ _⟩
 ·rw [if_neg hb] at h
  cases h
theorem zero_q : QOk 0 0 0 0 := ⟨⟨by omega, by omega⟩, ⟨by omega, by omega⟩, ⟨by omega, by omega⟩, ⟨by omega, by omega⟩⟩
theorem q_neg_c {a b c d : Int} (h : QOk a b c d) (w : World) : Calls Try.prog 47 #[q4 0 0 0 0, q4 a b c d] w fun e w' =>
  e = .returned (q4 (q0 (-qv a b c d)) (q1 (-qv a b c d)) (q2 (-qv a b c d)) (q3 (-qv a b c d))) ∧ Below w.heap.size w w' := by
 have := q_sub_c zero_q h w
 rw [show qv 0 0 0 0 - qv a b c d = -qv a b c d by rw [show qv 0 0 0 0 = 0 from rfl]; omega] at this
 exact this
end Go.Proofs.Ytmeckkckjikjiaa.F
end
section
namespace Go.Proofs.Ytmeckkckjikjiaa.F
open Go RowKit YtmeckkckjikjiaaW.PrintWords YtmeckkckjikjiaaW.PrintLast YtmeckkckjikjiaaW.PrintMore
set_option linter.unusedVariables false
theorem items_cons {P : Program} {d : Nat} {e : TypeId} {n : Nat} {xs ys : Array Value} {j : Nat} {is : List Nat} {w : World} {a b : Value} {r s : Bool} (ha : (part e xs (j * n)).run P w = .ok a w) (hb : (part e ys (j * n)).run P w = .ok b w) (he : (Op.equalIn d e a b).run P w = .ok r w)
  (hr : (Op.eqItems d e n xs ys is).run P w = .ok s w) : (Op.eqItems d e n xs ys (j :: is)).run P w = .ok (r && s) w := by
 simp only [Op.eqItems, Sem.run_bind, ha, hb, he, Result.andThen_ok]
 cases r
 ·simp
 ·simpa using hr
theorem items_nil {P : Program} {d : Nat} {e : TypeId} {n : Nat} {xs ys : Array Value} {w : World} : (Op.eqItems d e n xs ys []).run P w = .ok true w := by simp [Op.eqItems]
theorem info22 : ∃ i, Try.prog.info? 35 = some i := by
 rw [← Option.isSome_iff_exists]
 kernel_rfl
theorem quad_eq (d : Nat) (w : World) (x0 y0 : Int) (x1 y1 : Int) (x2 y2 : Int) (x3 y3 : Int) :
  (Op.equalIn (d + 2) 50 (.agg #[.int .u64 x0, .int .u64 x1, .int .u64 x2, .int .u64 x3]) (.agg #[.int .u64 y0, .int .u64 y1, .int .u64 y2, .int .u64 y3])).run Try.prog w = .ok (x0 == y0 && (x1 == y1 && (x2 == y2 && (x3 == y3)))) w := by
 obtain ⟨i, hi⟩ := info22
 have hc : Try.prog.cellsOf 35 = 1 := by kernel_rfl
 rw [run_equalIn_array w (d + 1) _ _ Try.underlying50 hi, hc]
 rw [show (x0 == y0 && (x1 == y1 && (x2 == y2 && (x3 == y3)))) = (x0 == y0 && (x1 == y1 && (x2 == y2 && (x3 == y3 && true)))) by rw [Bool.and_true]]
 refine items_cons (is := [1, 2, 3]) (by go_simp; rfl) (by go_simp; rfl) (by go_simp) ?_
 refine items_cons (is := [2, 3]) (by go_simp; rfl) (by go_simp; rfl) (by go_simp) ?_
 refine items_cons (is := [3]) (by go_simp; rfl) (by go_simp; rfl) (by go_simp) ?_
 exact items_cons (is := []) (by go_simp; rfl) (by go_simp; rfl) (by go_simp) items_nil
end Go.Proofs.Ytmeckkckjikjiaa.F
end
section
namespace Go.Proofs.Ytmeckkckjikjiaa.F
open Go RowKit YtmeckkckjikjiaaW.PrintWords YtmeckkckjikjiaaW.PrintLast YtmeckkckjikjiaaW.PrintMore
set_option linter.unusedVariables false
def quad_Sign.f (a0_0 a0_1 a0_2 a0_3 : Int) : Option Int := if QOk a0_0 a0_1 a0_2 a0_3 then some (if 9223372036854775808 ≤ a0_3 then -1 else if a0_0 = 0 ∧ a0_1 = 0 ∧ a0_2 = 0 ∧ a0_3 = 0 then 0 else 1) else none
theorem q_below_c {a b c d : Int} (h : UOk d) (w : World) : Calls Try.prog 52 #[q4 a b c d] w fun e w' => e = .returned (.bool (decide (9223372036854775808 ≤ d))) ∧ Below w.heap.size w w' := by
 have e : (shr .u64 d 63 == 1) = decide (9223372036854775808 ≤ d) := by
  have : shr .u64 d 63 = d / 9223372036854775808 := rfl
  rw [this, Bool.eq_iff_iff, beq_iff_eq, decide_eq_true_iff]
  omega
 rw [← e]
 exact q_below a b c d w
theorem one_all (w : World) (o : Obj) : Below w.heap.size w (w.alloc o) := (Below.refl _ _).alloc (Nat.le_refl _) _
attribute [local go_sem high] quad_eq in
theorem q_sign_w (a b c d r : Int) (n z : Bool) (C : Aside0 (∀ w : World, Calls Try.prog 52 #[q4 a b c d] w fun e w' => e = .returned (.bool n) ∧ Below w.heap.size w w')) (hz : (a == 0 && (b == 0 && (c == 0 && d == 0))) = z)
  (hr : Aside0 (r = if n = true then -1 else if z = true then 0 else 1)) (w : World) : Calls Try.prog 29 #[q4 a b c d] w fun e w' => e = .returned (.int .i64 r) ∧ Below w.heap.size w w' := by
 have big : ∀ w : World, (Op.equalIn 10000 50 (.agg #[.int .u64 a, .int .u64 b, .int .u64 c, .int .u64 d]) (.agg #[.int .u64 0, .int .u64 0, .int .u64 0, .int .u64 0])).run Try.prog w = .ok z w := fun w => by rw [← hz]; exact quad_eq 9998 w a 0 b 0 c 0 d 0
 have BIG := Aside0.mk big
 clear big hz
 cases n
 ·cases z
  ·obtain rfl := hr.out
   have hq := BIG.out
   go_enter Try.func29, Try.ntmps29
   go_wp2_with (go_at_call 52; refine (C.out _).mono ?_; rintro e w1 ⟨rfl, hb⟩; have F := Aside0.mk (Four.mk (blk_below (blk_new w _) hb)); have HB := Aside0.mk ((one_all w _).trans (hb.mono (by simp))); clear hb; obtain ⟨⟨z0, z1, z2, z3⟩, f0, f1, f2, f3⟩ := F.out.cells)
   go_ret
   exact ⟨rfl, HB.out⟩
  ·obtain rfl := hr.out
   have hq := BIG.out
   go_enter Try.func29, Try.ntmps29
   go_wp2_with (go_at_call 52; refine (C.out _).mono ?_; rintro e w1 ⟨rfl, hb⟩; have F := Aside0.mk (Four.mk (blk_below (blk_new w _) hb)); have HB := Aside0.mk ((one_all w _).trans (hb.mono (by simp))); clear hb; obtain ⟨⟨z0, z1, z2, z3⟩, f0, f1, f2, f3⟩ := F.out.cells)
   go_ret
   exact ⟨rfl, HB.out⟩
 ·obtain rfl := hr.out
  go_enter Try.func29, Try.ntmps29
  go_wp2_with (go_at_call 52; refine (C.out _).mono ?_; rintro e w1 ⟨rfl, hb⟩; have F := Aside0.mk (Four.mk (blk_below (blk_new w _) hb)); have HB := Aside0.mk ((one_all w _).trans (hb.mono (by simp))); clear hb; obtain ⟨⟨z0, z1, z2, z3⟩, f0, f1, f2, f3⟩ := F.out.cells)
  go_ret
  exact ⟨rfl, HB.out⟩
theorem quad_Sign.calls (a0_0 a0_1 a0_2 a0_3 r : Int) (w : World) (h : quad_Sign.f a0_0 a0_1 a0_2 a0_3 = some r) :
  Calls Try.prog 29 #[.agg #[.int .u64 a0_0, .int .u64 a0_1, .int .u64 a0_2, .int .u64 a0_3]] w fun e w' => e = .returned (.int .i64 r) ∧ Below w.heap.size w w' := by
 unfold quad_Sign.f at h
 by_cases hb : QOk a0_0 a0_1 a0_2 a0_3
 ·rw [if_pos hb] at h
  refine q_sign_w a0_0 a0_1 a0_2 a0_3 r _ _ ⟨q_below_c hb.2.2.2⟩ rfl ⟨?_⟩ w
  rw [← Option.some.inj h]
  simp only [decide_eq_true_eq, Bool.and_eq_true, beq_iff_eq]
 ·rw [if_neg hb] at h
  cases h
end Go.Proofs.Ytmeckkckjikjiaa.F
end
section
namespace Go.Proofs.Ytmeckkckjikjiaa.F
open Go RowKit YtmeckkckjikjiaaW.PrintWords YtmeckkckjikjiaaW.PrintLast YtmeckkckjikjiaaW.PrintMore
set_option linter.unusedVariables false
theorem four_all (w : World) (o0 o1 o2 : Obj) : Below w.heap.size w (((w.alloc o0).alloc o1).alloc o2) := (((Below.refl _ _).alloc (Nat.le_refl _) _).alloc (by simp) _).alloc (by simp; omega) _
set_option maxHeartbeats 1000000 in
theorem w_sub_walk (a0 a1 b0 b1 lo c hi d : Int) (k1 : ∀ w, (callFunc 68 #[.int .u64 a1, .int .u64 b1, .int .u64 0]).run Try.prog w = .ok (.value (.tuple #[.int .u64 lo, .int .u64 c])) w)
  (k2 : ∀ w, (callFunc 68 #[.int .u64 (IntKind.u64.wrap a0), .int .u64 (IntKind.u64.wrap b0), .int .u64 c]).run Try.prog w = .ok (.value (.tuple #[.int .u64 hi, .int .u64 d])) w) (w : World) :
  Calls Try.prog 70 #[.agg #[.int .i64 a0, .int .u64 a1], .agg #[.int .i64 b0, .int .u64 b1]] w fun e w' => e = .returned (.agg #[.int .i64 (wrap64 hi), .int .u64 lo]) ∧ Below w.heap.size w w' := by
 go_enter Try.func70, Try.ntmps70
 go_wp2
 exact bodyPost_ret (v := .agg #[.int .i64 (wrap64 hi), .int .u64 lo]) (by simp [results, Try.results70, go_sem]) rfl ⟨rfl, four_all _ _ _ _⟩
theorem w_neg_c {h l : Int} (ok : WOk h l) (w : World) : Calls Try.prog 70 #[.agg #[.int .i64 0, .int .u64 0], .agg #[.int .i64 h, .int .u64 l]] w fun e w' => e = .returned (.agg #[.int .i64 (whi (-wv h l)), .int .u64 (wlo (-wv h l))]) ∧ Below w.heap.size w w' := by
 obtain ⟨⟨b1, b2⟩, b3, b4⟩ := ok
 have w1 := IntKind.wrap_u64 0
 have w2 := IntKind.wrap_u64 h
 have e1 : wlo (-wv h l) = (0 - l - 0) % 18446744073709551616 := by unfold wlo wv; omega
 have e2 : whi (-wv h l) = wrap64 ((IntKind.u64.wrap 0 - IntKind.u64.wrap h - -((0 - l - 0) / 18446744073709551616)) % 18446744073709551616) := by unfold whi wv wrap64; omega
 rw [e1, e2]
 exact w_sub_walk 0 0 h l _ _ _ _ (fun w => sub64_go 0 l 0 (by omega) (by omega) (by omega) (by omega) w) (fun w => sub64_go _ _ _ (by omega) (by omega) (by omega) (by omega) w) w
structure Two (w1 : World) (g : Nat) (t : TypeId) (v0 v1 : Value) : Prop where
 blk : w1.heap[g]? = some (.cells #[v0, v1] t (0, 0))
theorem Two.cells {w1 : World} {g : Nat} {t : TypeId} {v0 v1 : Value} (h : Two w1 g t v0 v1) : (w1.cell? ⟨g, 0, none⟩ = some v0 ∧ w1.cell? ⟨g, 1, none⟩ = some v1) ∧ (w1.frozen? ⟨g, 0, none⟩ = false ∧ w1.frozen? ⟨g, 1, none⟩ = false) :=
 ⟨⟨blk_cell h.blk 0, blk_cell h.blk 1⟩, ⟨blk_frozen h.blk 0, blk_frozen h.blk 1⟩⟩
theorem blk_set_ne {w : World} {g g' : Nat} {o : Obj} (h : w.heap[g]? = some o) (hne : g' ≠ g) (i : Nat) (u : Value) : (w.setCell ⟨g', i, none⟩ u).heap[g]? = some o := (Below.heap_setCell w ⟨g', i, none⟩ u g (fun e => hne e.symm)).trans h
theorem Two.put {w1 : World} {g : Nat} {t : TypeId} {v0 v1 : Value} (h : Two w1 g t v0 v1) (u0 u1 : Value) : ((w1.setCell ⟨g, 0, none⟩ u0).setCell ⟨g, 1, none⟩ u1).heap[g]? = some (.cells #[u0, u1] t (0, 0)) :=
 blk_put (blk_put h.blk 0 u0 rfl) 1 u1 rfl
theorem w_Neg_w (h l : Int) (r0 r1 : Int) (C : Aside0 (∀ w : World, Calls Try.prog 70 #[.agg #[.int .i64 0, .int .u64 0], .agg #[.int .i64 h, .int .u64 l]] w fun e w' => e = .returned (.agg #[.int .i64 r0, .int .u64 r1]) ∧ Below w.heap.size w w')) (w : World) :
  Calls Try.prog 67 #[.agg #[.int .i64 h, .int .u64 l]] w fun e w' => e = .returned (.agg #[.int .i64 r0, .int .u64 r1]) ∧ Below w.heap.size w w' := by
 go_enter Try.func67, Try.ntmps67
 go_wp2_with (go_at_call 70; refine (C.out _).mono ?_; rintro e w1 ⟨rfl, hb⟩; have F := Aside0.mk (Two.mk (blk_below (two_new w _ _) hb)); have HB := Aside0.mk ((two_all w _ _).trans (hb.mono (by simp; omega))); clear hb; obtain ⟨⟨z0, z1⟩, f0, f1⟩ := F.out.cells)
 refine bodyPost_ret (results_c1 rfl _ _ (w.heap.size + 1) 37 _ (0, 0) _ rfl (F.out.put _ _) Try.underlying37 rfl (by kernel_rfl)) rfl ?_
 exact ⟨rfl, below_set (below_set HB.out (by omega)) (by omega)⟩
theorem q_apart_n (h l : Int) (r0 r1 : Int) (hn : decide (h < 0) = true) (C : Aside0 (∀ w : World, Calls Try.prog 67 #[.agg #[.int .i64 h, .int .u64 l]] w fun e w' => e = .returned (.agg #[.int .i64 r0, .int .u64 r1]) ∧ Below w.heap.size w w')) (w : World) :
  Calls Try.prog 44 #[.agg #[.int .i64 h, .int .u64 l]] w fun e w' => e = .returned (.tuple #[.agg #[.int .u64 r1, .int .u64 (IntKind.u64.wrap r0)], .bool true]) ∧ Below w.heap.size w w' := by
 go_enter Try.func44, Try.ntmps44
 go_wp2_with (go_at_call 67; refine (C.out _).mono ?_; rintro e w1 ⟨rfl, hb⟩; have F := Aside0.mk (Two.mk (blk_below (two_new w _ _) hb)); have G := Aside0.mk (Two.mk (blk_below (blk_alloc (blk_new w _) _) hb)); have HB := Aside0.mk ((two_all w _ _).trans (hb.mono (by simp; omega))); clear hb; obtain ⟨⟨z0, z1⟩, f0, f1⟩ := F.out.cells; obtain ⟨⟨y0, y1⟩, g0, g1⟩ := G.out.cells)
 refine bodyPost_ret (results_ct rfl _ _ (w.heap.size + 1) 66 _ (0, 0) _ rfl (blk_put (blk_put (blk_set_ne (blk_set_ne F.out.blk (by omega) 0 _) (by omega) 1 _) 0 _ rfl) 1 _ rfl) Try.underlying66 rfl (by kernel_rfl)) rfl ?_
 exact ⟨rfl, below_set (below_set (below_set (below_set HB.out (by omega)) (by omega)) (by omega)) (by omega)⟩
theorem q_apart_p (h l : Int) (hn : decide (h < 0) = false) (w : World) :
  Calls Try.prog 44 #[.agg #[.int .i64 h, .int .u64 l]] w fun e w' => e = .returned (.tuple #[.agg #[.int .u64 l, .int .u64 (IntKind.u64.wrap h)], .bool false]) ∧ Below w.heap.size w w' := by
 go_enter Try.func44, Try.ntmps44
 go_wp2
 refine bodyPost_ret (results_ct rfl _ _ (w.heap.size + 1) 66 _ (0, 0) _ rfl (two_new w _ _) Try.underlying66 rfl (by kernel_rfl)) rfl ?_
 exact ⟨rfl, two_all w _ _⟩
theorem q_apart_c {h l : Int} (ok : WOk h l) (w : World) : Calls Try.prog 44 #[.agg #[.int .i64 h, .int .u64 l]] w fun e w' => e = .returned (.tuple #[.agg #[.int .u64 (q0 ((wv h l).natAbs : Int)), .int .u64 (q1 ((wv h l).natAbs : Int))], .bool (decide (wv h l < 0))]) ∧ Below w.heap.size w w' := by
 obtain ⟨⟨h0, h1⟩, l0, l1⟩ := ok
 by_cases n : h < 0
 ·have hv : wv h l < 0 := by unfold wv; omega
  have e0 : q0 ((wv h l).natAbs : Int) = wlo (-wv h l) := by unfold q0 wlo; omega
  have e1 : q1 ((wv h l).natAbs : Int) = IntKind.u64.wrap (whi (-wv h l)) := by
   rw [IntKind.wrap_u64]; unfold q1 whi wrap64
   have b : -170141183460469231731687303715884105728 ≤ wv h l := by unfold wv; omega
   generalize wv h l = V at hv b ⊢
   omega
  rw [e0, e1, decide_eq_true hv]
  exact q_apart_n h l _ _ (decide_eq_true n) ⟨w_Neg_w h l _ _ ⟨w_neg_c ⟨⟨h0, h1⟩, l0, l1⟩⟩⟩ w
 ·have hv : ¬ wv h l < 0 := by unfold wv; omega
  have e0 : q0 ((wv h l).natAbs : Int) = l := by unfold q0 wv; omega
  have e1 : q1 ((wv h l).natAbs : Int) = IntKind.u64.wrap h := by rw [IntKind.wrap_u64]; unfold q1 wv; omega
  rw [e0, e1, decide_eq_false hv]
  exact q_apart_p h l (decide_eq_false n) w
end Go.Proofs.Ytmeckkckjikjiaa.F
end
section
namespace Go.Proofs.Ytmeckkckjikjiaa.F
open Go RowKit YtmeckkckjikjiaaW.PrintWords YtmeckkckjikjiaaW.PrintLast YtmeckkckjikjiaaW.PrintMore
set_option linter.unusedVariables false
theorem mul_blks {w w1 : World} {o0 o1 o2 : Obj} (hb : Below (((w.alloc o0).alloc o1).alloc o2).heap.size (((w.alloc o0).alloc o1).alloc o2) w1) : w1.heap[w.heap.size + 1]? = some o1 ∧ w1.heap[w.heap.size + 1 + 1]? = some o2 ∧ Below w.heap.size w w1 :=
 ⟨blk_below (blk_alloc (two_new w o0 o1) o2) hb, blk_below (three_new w o0 o1 o2) hb, (three_all w o0 o1 o2).trans (hb.mono (by simp; omega))⟩
theorem one_blk {w w1 : World} {o : Obj} (hb : Below (w.alloc o).heap.size (w.alloc o) w1) : w1.heap[w.heap.size]? = some o ∧ (∀ (g : Nat) (o' : Obj), w.heap[g]? = some o' → w1.heap[g]? = some o') ∧ (∀ v : World, Below v.heap.size v w → Below v.heap.size v w1) :=
 ⟨blk_below (blk_new w o) hb, fun g o' h => blk_below (blk_alloc h o) hb, fun v h => below_step (below_alloc h o) hb⟩
theorem hideW {P : Program} {c : Code} {Q : Exit → Act → World → Prop} {a : Act} {W : World} {T : World → Prop} (h : T W) (k : ∀ w', T w' → c.wp P Q a w') : c.wp P Q a W := k W h
set_option maxHeartbeats 1000000 in
theorem q_mul_w (a0 a1 b0 b1 x0 x1 y0 y1 h00 l00 h01 l01 h10 l10 h11 l11 p1 e1 p2 e2 p3 e3 p4 e4 p5 e5 p6 e6 p7 e7 p8 e8 : Int) (n m : Bool) 
  (A : Aside0 (∀ w : World, Calls Try.prog 44 #[.agg #[.int .i64 a0, .int .u64 a1]] w fun e w' => e = .returned (.tuple #[.agg #[.int .u64 x0, .int .u64 x1], .bool n]) ∧ Below w.heap.size w w'))
  (B : Aside0 (∀ w : World, Calls Try.prog 44 #[.agg #[.int .i64 b0, .int .u64 b1]] w fun e w' => e = .returned (.tuple #[.agg #[.int .u64 y0, .int .u64 y1], .bool m]) ∧ Below w.heap.size w w'))
  (M0 : Aside0 (∀ w : World, Calls Try.prog 45 #[.int .u64 x0, .int .u64 y0] w fun e w' => e = .returned (.tuple #[.int .u64 h00, .int .u64 l00]) ∧ Drawn0 w w'))
  (M1 : Aside0 (∀ w : World, Calls Try.prog 45 #[.int .u64 x0, .int .u64 y1] w fun e w' => e = .returned (.tuple #[.int .u64 h01, .int .u64 l01]) ∧ Drawn0 w w'))
  (M2 : Aside0 (∀ w : World, Calls Try.prog 45 #[.int .u64 x1, .int .u64 y0] w fun e w' => e = .returned (.tuple #[.int .u64 h10, .int .u64 l10]) ∧ Drawn0 w w'))
  (M3 : Aside0 (∀ w : World, Calls Try.prog 45 #[.int .u64 x1, .int .u64 y1] w fun e w' => e = .returned (.tuple #[.int .u64 h11, .int .u64 l11]) ∧ Drawn0 w w'))
  (k1 : ∀ w, (callFunc 46 #[.int .u64 0, .int .u64 l00, .int .u64 0]).run Try.prog w = .ok (.value (.tuple #[.int .u64 p1, .int .u64 e1])) w)
  (k2 : ∀ w, (callFunc 46 #[.int .u64 p1, .int .u64 0, .int .u64 0]).run Try.prog w = .ok (.value (.tuple #[.int .u64 p2, .int .u64 e2])) w)
  (k3 : ∀ w, (callFunc 46 #[.int .u64 0, .int .u64 l01, .int .u64 0]).run Try.prog w = .ok (.value (.tuple #[.int .u64 p3, .int .u64 e3])) w)
  (k4 : ∀ w, (callFunc 46 #[.int .u64 p3, .int .u64 (IntKind.u64.wrap (IntKind.u64.wrap (h00 + e1) + e2)), .int .u64 0]).run Try.prog w = .ok (.value (.tuple #[.int .u64 p4, .int .u64 e4])) w)
  (k5 : ∀ w, (callFunc 46 #[.int .u64 p4, .int .u64 l10, .int .u64 0]).run Try.prog w = .ok (.value (.tuple #[.int .u64 p5, .int .u64 e5])) w)
  (k6 : ∀ w, (callFunc 46 #[.int .u64 p5, .int .u64 0, .int .u64 0]).run Try.prog w = .ok (.value (.tuple #[.int .u64 p6, .int .u64 e6])) w)
  (k7 : ∀ w, (callFunc 46 #[.int .u64 (IntKind.u64.wrap (IntKind.u64.wrap (IntKind.u64.wrap (h01 + e3) + e4))), .int .u64 l11, .int .u64 0]).run Try.prog w = .ok (.value (.tuple #[.int .u64 p7, .int .u64 e7])) w)
  (k8 : ∀ w, (callFunc 46 #[.int .u64 p7, .int .u64 (IntKind.u64.wrap (IntKind.u64.wrap (h10 + e5) + e6)), .int .u64 0]).run Try.prog w = .ok (.value (.tuple #[.int .u64 p8, .int .u64 e8])) w)
  (s1 s2 s3 s4 : Int) (SUB : Aside0 ((n = m → s1 = p2 ∧ s2 = p6 ∧ s3 = p8 ∧ s4 = IntKind.u64.wrap (IntKind.u64.wrap (IntKind.u64.wrap (h11 + e7) + e8))) ∧ (n ≠ m → ∀ w : World, Calls Try.prog 47 #[q4 0 0 0 0, q4 p2 p6 p8 (IntKind.u64.wrap (IntKind.u64.wrap (IntKind.u64.wrap (h11 + e7) + e8)))] w fun e w' => e = .returned (q4 s1 s2 s3 s4) ∧ Below w.heap.size w w')))
  (w : World) : Calls Try.prog 25 #[.agg #[.int .i64 a0, .int .u64 a1], .agg #[.int .i64 b0, .int .u64 b1]] w fun e w' => e = .returned (q4 s1 s2 s3 s4) ∧ Below w.heap.size w w' := by
 go_enter Try.func25, Try.ntmps25
 go_wp2_with (first | (go_at_call 44; with_reducible refine (B.out _).mono ?_; rintro e w2 ⟨rfl, hb⟩; obtain ⟨b1, b2, b3⟩ := one_blk hb; have X := Aside0.mk (Two.mk b1); have G2 := Aside0.mk (Four.mk (b2 _ _ G.out.blk)); have HB2 := Aside0.mk (b3 _ HB.out); clear hb z0 z1 f0 f1 b1 b2 b3; obtain ⟨⟨z0, z1⟩, f0, f1⟩ := X.out.cells; have nw2 : w1.heap.size < w2.heap.size := blk_lt X.out.blk; have nw3 : w.heap.size + 1 + 1 < w2.heap.size := blk_lt G2.out.blk; clear nw1) | (go_at_call 44; with_reducible refine (A.out _).mono ?_; rintro e w1 ⟨rfl, hb⟩; obtain ⟨b1, b2, b3⟩ := mul_blks hb; have F := Aside0.mk (Two.mk b1); have G := Aside0.mk (Four.mk b2); have HB := Aside0.mk b3; clear hb b1 b2 b3; obtain ⟨⟨z0, z1⟩, f0, f1⟩ := F.out.cells; have nw1 : w.heap.size + 1 < w1.heap.size := blk_lt F.out.blk) | fail)
 refine wp_loop_rounds 3 ?_
 rw [rounds_succ]
 go_wp2
 refine wp_loop_rounds 3 ?_
 rw [rounds_succ]
 go_wp2
 go_region_held3 (fun w' => w'.cell? ⟨w1.heap.size, 0, none⟩ = some (.int .u64 x0) ∧ w'.cell? ⟨w2.heap.size, 0, none⟩ = some (.int .u64 y0)) (first | (constructor; all_goals (go_simp; done)) | go_keep | fail) (first | (go_at_call 45; with_reducible refine (M0.out _).mono ?_; rintro e w' ⟨rfl, ⟨nd, rfl⟩⟩) | fail)
 go_wp2
 rw [rounds_succ]
 go_wp2
 go_region_held3 (fun w' => w'.cell? ⟨w1.heap.size, 0, none⟩ = some (.int .u64 x0) ∧ w'.cell? ⟨w2.heap.size, 1, none⟩ = some (.int .u64 y1)) (first | (constructor; all_goals (go_simp; done)) | go_keep | fail) (first | (go_at_call 45; with_reducible refine (M1.out _).mono ?_; rintro e w' ⟨rfl, ⟨ndM1, rfl⟩⟩) | fail)
 go_wp2
 rw [rounds_succ]
 go_wp2
 rw [rounds_succ]
 refine hideW (T := fun w' => Two w' w1.heap.size 66 (.int .u64 x0) (.int .u64 x1) ∧ Two w' w2.heap.size 66 (.int .u64 y0) (.int .u64 y1) ∧ Four w' (w2.heap.size + 1) 50 (.int .u64 p2) (.int .u64 p4) (.int .u64 (IntKind.u64.wrap (IntKind.u64.wrap (IntKind.u64.wrap (h01 + e3) + e4)))) (.int .u64 0) ∧ Four w' (w.heap.size + 1 + 1) 50 (.int .u64 0) (.int .u64 0) (.int .u64 0) (.int .u64 0) ∧ Below w.heap.size w w') ?hid ?_
 case hid =>
  have hs := HB2.out.size
  refine ⟨⟨?_⟩, ⟨?_⟩, ⟨?_⟩, ⟨?_⟩, ?_⟩
  ·refine blk_set_ne (blk_set_ne (blk_set_ne (blk_drewN (blk_set_ne (blk_set_ne (blk_drewN (blk_alloc (blk_alloc X.out.blk _) _) _) ?_ _ _) ?_ _ _) _) ?_ _ _) ?_ _ _) ?_ _ _ <;> omega
  ·refine blk_set_ne (blk_set_ne (blk_set_ne (blk_drewN (blk_set_ne (blk_set_ne (blk_drewN (blk_alloc (blk_new w2 _) _) _) ?_ _ _) ?_ _ _) _) ?_ _ _) ?_ _ _) ?_ _ _ <;> omega
  ·exact blk_put (blk_put (blk_put (blk_drewN (blk_put (blk_put (blk_drewN (two_new w2 _ _) _) 0 _ rfl) 0 _ rfl) _) 1 _ rfl) 1 _ rfl) 2 _ rfl
  ·refine blk_set_ne (blk_set_ne (blk_set_ne (blk_drewN (blk_set_ne (blk_set_ne (blk_drewN (blk_alloc (blk_alloc G2.out.blk _) _) _) ?_ _ _) ?_ _ _) _) ?_ _ _) ?_ _ _) ?_ _ _ <;> omega
  ·exact below_set (below_set (below_set (pw_below_drewN (below_set (below_set (pw_below_drewN (below_alloc (below_alloc HB2.out _) _) _) (by omega)) (by omega)) _) (by omega)) (by omega)) (by omega)
 clear z0 z1 f0 f1
 rintro w3 ⟨X3, Y3, O3, R3, HB3⟩
 have X4 := Aside0.mk X3; have Y4 := Aside0.mk Y3; have O4 := Aside0.mk O3; have HB4 := Aside0.mk HB3; have R4 := Aside0.mk R3
 clear X3 Y3 O3 HB3 R3
 obtain ⟨⟨z0, z1⟩, f0, f1⟩ := X4.out.cells
 obtain ⟨⟨y0_, y1_⟩, g0, g1⟩ := Y4.out.cells
 obtain ⟨⟨o0, o1, o2, o3⟩, i0, i1, i2, i3⟩ := O4.out.cells
 go_wp2
 refine wp_loop_rounds 3 ?_
 rw [rounds_succ]
 go_wp2
 go_region_held3 (fun w' => w'.cell? ⟨w1.heap.size, 1, none⟩ = some (.int .u64 x1) ∧ w'.cell? ⟨w2.heap.size, 0, none⟩ = some (.int .u64 y0)) (first | (constructor; all_goals (go_simp; done)) | go_keep | fail) (first | (go_at_call 45; with_reducible refine (M2.out _).mono ?_; rintro e w' ⟨rfl, ⟨ndM2, rfl⟩⟩) | fail)
 go_wp2
 rw [rounds_succ]
 go_wp2
 go_region_held3 (fun w' => w'.cell? ⟨w1.heap.size, 1, none⟩ = some (.int .u64 x1) ∧ w'.cell? ⟨w2.heap.size, 1, none⟩ = some (.int .u64 y1)) (first | (constructor; all_goals (go_simp; done)) | go_keep | fail) (first | (go_at_call 45; with_reducible refine (M3.out _).mono ?_; rintro e w' ⟨rfl, ⟨ndM3, rfl⟩⟩) | fail)
 go_wp2
 rw [rounds_succ]
 go_wp2
 rw [rounds_succ]
 refine hideW (T := fun w' => Four w' (w2.heap.size + 1) 50 (.int .u64 p2) (.int .u64 p6) (.int .u64 p8) (.int .u64 (IntKind.u64.wrap (IntKind.u64.wrap (IntKind.u64.wrap (h11 + e7) + e8)))) ∧ Four w' (w.heap.size + 1 + 1) 50 (.int .u64 0) (.int .u64 0) (.int .u64 0) (.int .u64 0) ∧ Below w.heap.size w w') ?hid2 ?_
 case hid2 =>
  refine ⟨⟨?_⟩, ⟨?_⟩, ?_⟩
  ·exact blk_put (blk_put (blk_put (blk_drewN (blk_put (blk_put (blk_drewN O4.out.blk _) 1 _ rfl) 1 _ rfl) _) 2 _ rfl) 2 _ rfl) 3 _ rfl
  ·refine blk_set_ne (blk_set_ne (blk_set_ne (blk_drewN (blk_set_ne (blk_set_ne (blk_drewN R4.out.blk _) ?_ _ _) ?_ _ _) _) ?_ _ _) ?_ _ _) ?_ _ _ <;> omega
  ·have hs := HB2.out.size
   exact below_set (below_set (below_set (pw_below_drewN (below_set (below_set (pw_below_drewN HB4.out _) (by omega)) (by omega)) _) (by omega)) (by omega)) (by omega)
 clear z0 z1 f0 f1 y0_ y1_ g0 g1 o0 o1 o2 o3 i0 i1 i2 i3
 rintro w4 ⟨O5, R5, HB5⟩
 have O6 := Aside0.mk O5; have R6 := Aside0.mk R5; have HB6 := Aside0.mk HB5
 clear O5 R5 HB5
 obtain ⟨⟨o0, o1, o2, o3⟩, i0, i1, i2, i3⟩ := O6.out.cells
 obtain ⟨⟨r0, r1, r2, r3⟩, j0, j1, j2, j3⟩ := R6.out.cells
 by_cases hnm : n = m
 ·subst hnm
  obtain ⟨rfl, rfl, rfl, rfl⟩ := SUB.out.1 rfl
  cases n
  ·go_wp2
   refine bodyPost_ret (results_c1 rfl _ _ (w.heap.size + 1 + 1) 50 _ (0, 0) _ rfl (R6.out.put _ _ _ _) Try.underlying50 rfl (by kernel_rfl)) rfl ?_
   exact ⟨rfl, put_below HB6.out (by omega) _ _ _ _⟩
  ·go_wp2
   refine bodyPost_ret (results_c1 rfl _ _ (w.heap.size + 1 + 1) 50 _ (0, 0) _ rfl (R6.out.put _ _ _ _) Try.underlying50 rfl (by kernel_rfl)) rfl ?_
   exact ⟨rfl, put_below HB6.out (by omega) _ _ _ _⟩
 ·have hs := (SUB.out.2 hnm)
  cases n <;> cases m
  ·exact absurd rfl hnm
  ·go_wp2_with (first | (go_at_call 47; with_reducible refine (hs _).mono ?_; rintro e w5 ⟨rfl, hb⟩; have RR := Aside0.mk (Four.mk (blk_below R6.out.blk hb)); have HB7 := Aside0.mk (below_step HB6.out hb); clear hb r0 r1 r2 r3 j0 j1 j2 j3 o0 o1 o2 o3 i0 i1 i2 i3; obtain ⟨⟨r0, r1, r2, r3⟩, j0, j1, j2, j3⟩ := RR.out.cells) | fail)
   refine bodyPost_ret (results_c1 rfl _ _ (w.heap.size + 1 + 1) 50 _ (0, 0) _ rfl (RR.out.put _ _ _ _) Try.underlying50 rfl (by kernel_rfl)) rfl ?_
   exact ⟨rfl, put_below HB7.out (by omega) _ _ _ _⟩
  ·go_wp2_with (first | (go_at_call 47; with_reducible refine (hs _).mono ?_; rintro e w5 ⟨rfl, hb⟩; have RR := Aside0.mk (Four.mk (blk_below R6.out.blk hb)); have HB7 := Aside0.mk (below_step HB6.out hb); clear hb r0 r1 r2 r3 j0 j1 j2 j3 o0 o1 o2 o3 i0 i1 i2 i3; obtain ⟨⟨r0, r1, r2, r3⟩, j0, j1, j2, j3⟩ := RR.out.cells) | fail)
   refine bodyPost_ret (results_c1 rfl _ _ (w.heap.size + 1 + 1) 50 _ (0, 0) _ rfl (RR.out.put _ _ _ _) Try.underlying50 rfl (by kernel_rfl)) rfl ?_
   exact ⟨rfl, put_below HB7.out (by omega) _ _ _ _⟩
  ·exact absurd rfl hnm
end Go.Proofs.Ytmeckkckjikjiaa.F
end
section
namespace Go.Proofs.Ytmeckkckjikjiaa.F
open Go RowKit YtmeckkckjikjiaaW.PrintWords YtmeckkckjikjiaaW.PrintLast YtmeckkckjikjiaaW.PrintMore
set_option linter.unusedVariables false
def quad_Mul.f (a0_0 a0_1 a1_0 a1_1 : Int) : Option (Int × Int × Int × Int) := if WOk a0_0 a0_1 ∧ WOk a1_0 a1_1 then some (qq4 (wv a0_0 a0_1 * wv a1_0 a1_1)) else none
theorem mul_cols {h00 l00 h01 l01 h10 l10 h11 l11 T : Int} (a : UOk h00) (a' : UOk l00) (b : UOk h01) (b' : UOk l01) (c : UOk h10) (c' : UOk l10) (d : UOk h11) (d' : UOk l11)
  (m00 : h00 ≤ 18446744073709551614) (m01 : h01 ≤ 18446744073709551614) (m10 : h10 ≤ 18446744073709551614) (m11 : h11 ≤ 18446744073709551614)
  (hT : T = l00 + 18446744073709551616 * (h00 + l01 + l10) + 340282366920938463463374607431768211456 * (h01 + h10 + l11) + 6277101735386680763835789423207666416102355444464034512896 * h11)
  (hlt : T < 115792089237316195423570985008687907853269984665640564039457584007913129639936) {p4 e4 p5 e5 p7 e7 p8 e8 c1 c2 : Int}
  (k4 : p4 = (l01 + h00) % 18446744073709551616) (j4 : e4 = (l01 + h00) / 18446744073709551616) (hc1 : c1 = h01 + e4)
  (k5 : p5 = (p4 + l10) % 18446744073709551616) (j5 : e5 = (p4 + l10) / 18446744073709551616) (hc2 : c2 = h10 + e5)
  (k7 : p7 = (c1 + l11) % 18446744073709551616) (j7 : e7 = (c1 + l11) / 18446744073709551616)
  (k8 : p8 = (p7 + c2) % 18446744073709551616) (j8 : e8 = (p7 + c2) / 18446744073709551616) :
  h11 + e7 + e8 < 18446744073709551616 ∧ T = qv l00 p5 p8 (h11 + e7 + e8) := by
 have r : T = qv l00 p5 p8 (h11 + e7 + e8) := by unfold qv; omega
 refine ⟨?_, r⟩
 rw [r] at hlt
 unfold qv at hlt
 omega
theorem prod_hi {x y : Int} (hx : UOk x) (hy : UOk y) : (0 ≤ x * y / 18446744073709551616 ∧ x * y / 18446744073709551616 ≤ 18446744073709551614) ∧ UOk (x * y % 18446744073709551616) := by
 obtain ⟨X, rfl⟩ := Int.eq_ofNat_of_zero_le hx.1
 obtain ⟨Y, rfl⟩ := Int.eq_ofNat_of_zero_le hy.1
 have h1 : X * Y ≤ 18446744073709551615 * 18446744073709551615 := Nat.mul_le_mul (by have := hx.2; omega) (by have := hy.2; omega)
 have h2 : (X : Int) * (Y : Int) = ((X * Y : Nat) : Int) := by rw [Int.natCast_mul]
 rw [h2]
 generalize X * Y = Z at h1 ⊢
 exact ⟨⟨by omega, by omega⟩, by omega, by omega⟩
theorem one_add (l : Int) (h : UOk l) : (0 + l + 0) % 18446744073709551616 = l ∧ (0 + l + 0) / 18446744073709551616 = 0 ∧ (l + 0 + 0) % 18446744073709551616 = l ∧ (l + 0 + 0) / 18446744073709551616 = 0 := by
 obtain ⟨h0, h1⟩ := h
 exact ⟨by omega, by omega, by omega, by omega⟩
theorem mul_amounts (A B : Nat) (n m : Bool) (hA : (A : Int) ≤ 170141183460469231731687303715884105728) (hB : (B : Int) ≤ 170141183460469231731687303715884105728) (a0 a1 b0 b1 : Int) (R : Int) (hR : R = if n = m then (A : Int) * B else -((A : Int) * B))
  (HA : ∀ w : World, Calls Try.prog 44 #[.agg #[.int .i64 a0, .int .u64 a1]] w fun e w' => e = .returned (.tuple #[.agg #[.int .u64 (q0 A), .int .u64 (q1 A)], .bool n]) ∧ Below w.heap.size w w')
  (HB : ∀ w : World, Calls Try.prog 44 #[.agg #[.int .i64 b0, .int .u64 b1]] w fun e w' => e = .returned (.tuple #[.agg #[.int .u64 (q0 B), .int .u64 (q1 B)], .bool m]) ∧ Below w.heap.size w w')
  (w : World) : Calls Try.prog 25 #[.agg #[.int .i64 a0, .int .u64 a1], .agg #[.int .i64 b0, .int .u64 b1]] w fun e w' => e = .returned (q4 (q0 R) (q1 R) (q2 R) (q3 R)) ∧ Below w.heap.size w w' := by
 have ux0 : UOk (q0 A) := by unfold q0; omega
 have ux1 : UOk (q1 A) := by unfold q1; omega
 have uy0 : UOk (q0 B) := by unfold q0; omega
 have uy1 : UOk (q1 B) := by unfold q1; omega
 have eA : (A : Int) = q0 A + 18446744073709551616 * q1 A := by unfold q0 q1; omega
 have eB : (B : Int) = q0 B + 18446744073709551616 * q1 B := by unfold q0 q1; omega
 have hlt : (A : Int) * B < 115792089237316195423570985008687907853269984665640564039457584007913129639936 := by
  have h1 : A * B ≤ 170141183460469231731687303715884105728 * 170141183460469231731687303715884105728 := Nat.mul_le_mul (by omega) (by omega)
  have h2 : (A : Int) * (B : Int) = ((A * B : Nat) : Int) := by rw [Int.natCast_mul]
  rw [h2]; generalize A * B = Z at h1 ⊢; omega
 have hT : (A : Int) * B = q0 A * q0 B + 18446744073709551616 * (q0 A * q1 B) + 18446744073709551616 * (q1 A * q0 B) + 340282366920938463463374607431768211456 * (q1 A * q1 B) := by
  have e : (A : Int) * B = (q0 A + 18446744073709551616 * q1 A) * (q0 B + 18446744073709551616 * q1 B) := by rw [← eA, ← eB]
  rw [e, Int.add_mul, Int.mul_add, Int.mul_add]
  have f1 : q0 (A : Int) * (18446744073709551616 * q1 (B : Int)) = 18446744073709551616 * (q0 A * q1 B) := by rw [← Int.mul_assoc, Int.mul_comm (q0 (A : Int)), Int.mul_assoc]
  have f2 : 18446744073709551616 * q1 (A : Int) * q0 (B : Int) = 18446744073709551616 * (q1 A * q0 B) := by rw [Int.mul_assoc]
  have f3 : 18446744073709551616 * q1 (A : Int) * (18446744073709551616 * q1 (B : Int)) = 340282366920938463463374607431768211456 * (q1 A * q1 B) := by
   rw [Int.mul_assoc, ← Int.mul_assoc (q1 (A : Int)), Int.mul_comm (q1 (A : Int)), Int.mul_assoc, ← Int.mul_assoc]; rfl
  rw [f1, f2, f3]; omega
 obtain ⟨a1_, a2_⟩ := prod_hi ux0 uy0
 obtain ⟨b1_, b2_⟩ := prod_hi ux0 uy1
 obtain ⟨c1_, c2_⟩ := prod_hi ux1 uy0
 obtain ⟨d1_, d2_⟩ := prod_hi ux1 uy1
 have M0 := fun w => bits_Mul64.calls (q0 A) (q0 B) _ _ w (mul64_f ux0 uy0)
 have M1 := fun w => bits_Mul64.calls (q0 A) (q1 B) _ _ w (mul64_f ux0 uy1)
 have M2 := fun w => bits_Mul64.calls (q1 A) (q0 B) _ _ w (mul64_f ux1 uy0)
 have M3 := fun w => bits_Mul64.calls (q1 A) (q1 B) _ _ w (mul64_f ux1 uy1)
 have z00 : q0 (A : Int) * q0 B = q0 A * q0 B % 18446744073709551616 + 18446744073709551616 * (q0 A * q0 B / 18446744073709551616) := by omega
 have z01 : q0 (A : Int) * q1 B = q0 A * q1 B % 18446744073709551616 + 18446744073709551616 * (q0 A * q1 B / 18446744073709551616) := by omega
 have z10 : q1 (A : Int) * q0 B = q1 A * q0 B % 18446744073709551616 + 18446744073709551616 * (q1 A * q0 B / 18446744073709551616) := by omega
 have z11 : q1 (A : Int) * q1 B = q1 A * q1 B % 18446744073709551616 + 18446744073709551616 * (q1 A * q1 B / 18446744073709551616) := by omega
 rw [z00, z01, z10, z11] at hT
 generalize q0 (A : Int) * q0 B / 18446744073709551616 = h00 at *
 generalize q0 (A : Int) * q0 B % 18446744073709551616 = l00 at *
 generalize q0 (A : Int) * q1 B / 18446744073709551616 = h01 at *
 generalize q0 (A : Int) * q1 B % 18446744073709551616 = l01 at *
 generalize q1 (A : Int) * q0 B / 18446744073709551616 = h10 at *
 generalize q1 (A : Int) * q0 B % 18446744073709551616 = l10 at *
 generalize q1 (A : Int) * q1 B / 18446744073709551616 = h11 at *
 generalize q1 (A : Int) * q1 B % 18446744073709551616 = l11 at *
 clear z00 z01 z10 z11 eA eB
 obtain ⟨p4, k4⟩ : ∃ z, z = (l01 + h00) % 18446744073709551616 := ⟨_, rfl⟩
 obtain ⟨e4, j4⟩ : ∃ z, z = (l01 + h00) / 18446744073709551616 := ⟨_, rfl⟩
 obtain ⟨p5, k5⟩ : ∃ z, z = (p4 + l10) % 18446744073709551616 := ⟨_, rfl⟩
 obtain ⟨e5, j5⟩ : ∃ z, z = (p4 + l10) / 18446744073709551616 := ⟨_, rfl⟩
 obtain ⟨p7, k7⟩ : ∃ z, z = (h01 + e4 + l11) % 18446744073709551616 := ⟨_, rfl⟩
 obtain ⟨e7, j7⟩ : ∃ z, z = (h01 + e4 + l11) / 18446744073709551616 := ⟨_, rfl⟩
 obtain ⟨p8, k8⟩ : ∃ z, z = (p7 + (h10 + e5)) % 18446744073709551616 := ⟨_, rfl⟩
 obtain ⟨e8, j8⟩ : ∃ z, z = (p7 + (h10 + e5)) / 18446744073709551616 := ⟨_, rfl⟩
 obtain ⟨s, e⟩ := mul_cols (T := (A : Int) * B) ⟨a1_.1, by omega⟩ a2_ ⟨b1_.1, by omega⟩ b2_ ⟨c1_.1, by omega⟩ c2_ ⟨d1_.1, by omega⟩ d2_ a1_.2 b1_.2 c1_.2 d1_.2 (by rw [hT]; omega) hlt k4 j4 rfl k5 j5 rfl k7 j7 k8 j8
 have w1 : IntKind.u64.wrap (IntKind.u64.wrap (h00 + 0) + 0) = h00 := by rw [IntKind.wrap_u64, IntKind.wrap_u64]; omega
 have w2 : IntKind.u64.wrap (IntKind.u64.wrap (IntKind.u64.wrap (h01 + 0) + e4)) = h01 + e4 := by rw [IntKind.wrap_u64, IntKind.wrap_u64, IntKind.wrap_u64]; omega
 have w3 : IntKind.u64.wrap (IntKind.u64.wrap (h10 + e5) + 0) = h10 + e5 := by rw [IntKind.wrap_u64, IntKind.wrap_u64]; omega
 have w4 : IntKind.u64.wrap (IntKind.u64.wrap (IntKind.u64.wrap (h11 + e7) + e8)) = h11 + e7 + e8 := by rw [IntKind.wrap_u64, IntKind.wrap_u64, IntKind.wrap_u64]; omega
 have u4 : UOk p4 := by omega
 have u5 : UOk p5 := by omega
 have u7 : UOk p7 := by omega
 have u8 : UOk p8 := by omega
 have uc : UOk (h01 + e4) := by omega
 have ud : UOk (h10 + e5) := by omega
 have us : UOk (h11 + e7 + e8) := by omega
 have qo : QOk l00 p5 p8 (h11 + e7 + e8) := ⟨a2_, u5, u8, us⟩
 have A64 := fun (x y : Int) (hx : UOk x) (hy : UOk y) (w : World) => add64_go x y 0 hx.1 hy.1 (by omega) (by omega) w
 obtain ⟨o1, o2, o3, o4⟩ := one_add l00 a2_
 obtain ⟨o5, o6, _, _⟩ := one_add l01 b2_
 obtain ⟨_, _, o7, o8⟩ := one_add p5 u5
 have z0 : UOk 0 := ⟨by omega, by omega⟩
 refine q_mul_w a0 a1 b0 b1 (q0 A) (q1 A) (q0 B) (q1 B) h00 l00 h01 l01 h10 l10 h11 l11 l00 0 l00 0 l01 0 p4 e4 p5 e5 p5 0 p7 e7 p8 e8 n m ⟨HA⟩ ⟨HB⟩ ⟨M0⟩ ⟨M1⟩ ⟨M2⟩ ⟨M3⟩ ?_ ?_ ?_ ?_ ?_ ?_ ?_ ?_ _ _ _ _ ⟨?_, ?_⟩ w
 ·intro w; have := A64 0 l00 z0 a2_ w; rw [o1, o2] at this; exact this
 ·intro w; have := A64 l00 0 a2_ z0 w; rw [o3, o4] at this; exact this
 ·intro w; have := A64 0 l01 z0 b2_ w; rw [o5, o6] at this; exact this
 ·intro w; rw [w1]; have := A64 l01 h00 b2_ ⟨a1_.1, by omega⟩ w; rw [show l01 + h00 + 0 = l01 + h00 by omega, ← k4, ← j4] at this; exact this
 ·intro w; have := A64 p4 l10 u4 c2_ w; rw [show p4 + l10 + 0 = p4 + l10 by omega, ← k5, ← j5] at this; exact this
 ·intro w; have := A64 p5 0 u5 z0 w; rw [o7, o8] at this; exact this
 ·intro w; rw [w2]; have := A64 (h01 + e4) l11 uc d2_ w; rw [show h01 + e4 + l11 + 0 = h01 + e4 + l11 by omega, ← k7, ← j7] at this; exact this
 ·intro w; rw [w3]; have := A64 p7 (h10 + e5) u7 ud w; rw [show p7 + (h10 + e5) + 0 = p7 + (h10 + e5) by omega, ← k8, ← j8] at this; exact this
 ·intro hn
  rw [if_pos hn] at hR
  obtain ⟨v0, v1, v2, v3⟩ := q_back qo
  rw [hR, e, w4]
  exact ⟨v0, v1, v2, v3⟩
 ·intro hn w
  rw [if_neg hn, e] at hR
  rw [hR, w4]
  exact q_neg_c qo w
theorem quad_Mul.calls (a0_0 a0_1 a1_0 a1_1 r1 r2 r3 r4 : Int) (w : World) (h : quad_Mul.f a0_0 a0_1 a1_0 a1_1 = some (r1, r2, r3, r4)) :
  Calls Try.prog 25 #[.agg #[.int .i64 a0_0, .int .u64 a0_1], .agg #[.int .i64 a1_0, .int .u64 a1_1]] w fun e w' => e = .returned (.agg #[.int .u64 r1, .int .u64 r2, .int .u64 r3, .int .u64 r4]) ∧ Below w.heap.size w w' := by
 unfold quad_Mul.f at h
 by_cases hb : WOk a0_0 a0_1 ∧ WOk a1_0 a1_1
 ·rw [if_pos hb] at h
  obtain ⟨rfl, rfl, rfl, rfl⟩ := some4 h
  have bA : ((wv a0_0 a0_1).natAbs : Int) ≤ 170141183460469231731687303715884105728 := by have := hb.1; unfold wv; omega
  have bB : ((wv a1_0 a1_1).natAbs : Int) ≤ 170141183460469231731687303715884105728 := by have := hb.2; unfold wv; omega
  refine mul_amounts (wv a0_0 a0_1).natAbs (wv a1_0 a1_1).natAbs _ _ bA bB a0_0 a0_1 a1_0 a1_1 (wv a0_0 a0_1 * wv a1_0 a1_1) ?_ (q_apart_c hb.1) (q_apart_c hb.2) w
  rw [← Int.natCast_mul, ← Int.natAbs_mul]
  generalize wv a0_0 a0_1 = U
  generalize wv a1_0 a1_1 = V
  rcases (show U < 0 ∨ 0 ≤ U by omega) with u | u <;> rcases (show V < 0 ∨ 0 ≤ V by omega) with v | v
  ·have : 0 ≤ U * V := Int.mul_nonneg_of_nonpos_of_nonpos (by omega) (by omega)
   rw [decide_eq_true u, decide_eq_true v, if_pos rfl]; omega
  ·have : U * V ≤ 0 := Int.mul_nonpos_of_nonpos_of_nonneg (by omega) v
   rw [decide_eq_true u, decide_eq_false (by omega), if_neg (by simp)]; omega
  ·have : U * V ≤ 0 := Int.mul_nonpos_of_nonneg_of_nonpos u (by omega)
   rw [decide_eq_false (by omega), decide_eq_true v, if_neg (by simp)]; omega
  ·have : 0 ≤ U * V := Int.mul_nonneg u v
   rw [decide_eq_false (by omega), decide_eq_false (by omega), if_pos rfl]; omega
 ·rw [if_neg hb] at h
  cases h
end Go.Proofs.Ytmeckkckjikjiaa.F
end
