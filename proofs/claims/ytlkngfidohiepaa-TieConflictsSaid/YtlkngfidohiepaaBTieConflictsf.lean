/- TieConflicts: own texts in one (part 6 of 6): contracts of the functions that the law reaches. -/
import Derived.Test.YtlkngfidohiepaaBTieConflictse

section
namespace Go.Proofs.Ytlkngfidohiepaa.F
open Go.RowKit Go.Proofs.YtlkngfidohiepaaW.PrintWords Go.Proofs.YtlkngfidohiepaaW.PrintLast Go.Proofs.YtlkngfidohiepaaW.PrintMore
attribute [local go_sem] max2_int min2_int max_two min_two max_three min_three max_four min_four
set_option linter.unusedVariables false
set_option linter.unusedSimpArgs false
attribute [local go_sem high] eqA23
def zelligeref08_Conflict.j0 : Nat → Bool → Int → Int → Int → Int → Int → Int → Int → Int → Option (Bool)
 | 0, _, _, _, _, _, _, _, _, _ => none
 | k + 1, x37, x511000, x511001, x512000, x512001, x513000, x513001, x514000, x514001 => if x37 = true then (some false) else ((zelligeref07_InCircle.f x511000 x511001 x512000 x512001 x513000 x513001 x514000 x514001).bind fun t516 => (if t516 = 0 then ((zelligeref08_last.f k x514000 x514001 x511000 x511001 x512000 x512001 x513000 x513001).bind fun t517 => (if t517 = true then (some false) else ((zelligeref08_last.f k x513000 x513001 x511000 x511001 x512000 x512001 x514000 x514001).bind fun t518 => (if t518 = true then ((zelligeref07_Orient.f x511000 x511001 x512000 x512001 x514000 x514001).bind fun t519 => (some (t519 == 1))) else ((zelligeref08_last.f k x512000 x512001 x511000 x511001 x513000 x513001 x514000 x514001).bind fun t520 => (if t520 = true then ((zelligeref07_Orient.f x511000 x511001 x514000 x514001 x513000 x513001).bind fun t521 => (some (t521 == 1))) else ((zelligeref07_Orient.f x514000 x514001 x512000 x512001 x513000 x513001).bind fun t522 => (some (t522 == 1))))))))) else (some (decide (t516 > 0)))))
def zelligeref08_Conflict.f (k : Nat) (a0_0 : Int) (a0_1 : Int) (a1_0 : Int) (a1_1 : Int) (a2_0 : Int) (a2_1 : Int) (a3_0 : Int) (a3_1 : Int) : Option (Bool) := (zelligeref08_Can.f a0_0 a0_1 a1_0 a1_1 a2_0 a2_1 a3_0 a3_1).bind fun t514 => (if t514 = true then ((zelligeref07_Orient.f a0_0 a0_1 a1_0 a1_1 a2_0 a2_1).bind fun t515 => (if t515 = 1 then (if (a3_0 == a0_0 && (a3_1 == a0_1)) = true then (zelligeref08_Conflict.j0 k true a0_0 a0_1 a1_0 a1_1 a2_0 a2_1 a3_0 a3_1) else (if (a3_0 == a1_0 && (a3_1 == a1_1)) = true then (zelligeref08_Conflict.j0 k true a0_0 a0_1 a1_0 a1_1 a2_0 a2_1 a3_0 a3_1) else (zelligeref08_Conflict.j0 k (a3_0 == a2_0 && (a3_1 == a2_1)) a0_0 a0_1 a1_0 a1_1 a2_0 a2_1 a3_0 a3_1))) else (zelligeref08_Conflict.j0 k true a0_0 a0_1 a1_0 a1_1 a2_0 a2_1 a3_0 a3_1))) else (zelligeref08_Conflict.j0 k true a0_0 a0_1 a1_0 a1_1 a2_0 a2_1 a3_0 a3_1))
theorem zelligeref08_Conflict.mono_l : ∀ k, (∀ y0 y1 y2 y3 y4 y5 y6 y7 y8, LeO (zelligeref08_Conflict.j0 k y0 y1 y2 y3 y4 y5 y6 y7 y8) (zelligeref08_Conflict.j0 (k + 1) y0 y1 y2 y3 y4 y5 y6 y7 y8))
 | 0 => fun _ _ _ _ _ _ _ _ _ r h => by simp [zelligeref08_Conflict.j0] at h
 | k + 1 => by
  have ih0 := zelligeref08_Conflict.mono_l k
  ·intro y0 y1 y2 y3 y4 y5 y6 y7 y8
   unfold zelligeref08_Conflict.j0
   repeat' first
   | (with_reducible exact ih0 _ _ _ _ _ _ _ _ _)
   | (with_reducible exact zelligeref08_last.mono _ _ _ _ _ _ _ _ _)
   | (with_reducible exact LeO.refl _)
   | (with_reducible exact LeO.none _)
   | (with_reducible refine LeO.ite ?_ ?_)
   | (with_reducible refine LeO.bind ?_ (fun _ => ?_))
   | exact ih0 _ _ _ _ _ _ _ _ _
   | exact zelligeref08_last.mono _ _ _ _ _ _ _ _ _
   | exact LeO.none _
   | refine LeO.ite ?_ ?_
   | refine LeO.bind ?_ (fun _ => ?_)
theorem zelligeref08_Conflict.mono : ∀ a0 a1 a2 a3 a4 a5 a6 a7 k, LeO (zelligeref08_Conflict.f k a0 a1 a2 a3 a4 a5 a6 a7) (zelligeref08_Conflict.f (k + 1) a0 a1 a2 a3 a4 a5 a6 a7) := by
 intro a0 a1 a2 a3 a4 a5 a6 a7 k
 have ih0 := zelligeref08_Conflict.mono_l k
 unfold zelligeref08_Conflict.f
 repeat' first
   | (with_reducible exact ih0 _ _ _ _ _ _ _ _ _)
   | (with_reducible exact zelligeref08_last.mono _ _ _ _ _ _ _ _ _)
   | (with_reducible exact LeO.refl _)
   | (with_reducible exact LeO.none _)
   | (with_reducible refine LeO.ite ?_ ?_)
   | (with_reducible refine LeO.bind ?_ (fun _ => ?_))
   | exact ih0 _ _ _ _ _ _ _ _ _
   | exact zelligeref08_last.mono _ _ _ _ _ _ _ _ _
   | exact LeO.none _
   | refine LeO.ite ?_ ?_
   | refine LeO.bind ?_ (fun _ => ?_)
set_option maxHeartbeats 8000000 in
set_option maxRecDepth 100000 in
theorem zelligeref08_Conflict.calls (k : Nat) (a0_0 : Int) (a0_1 : Int) (a1_0 : Int) (a1_1 : Int) (a2_0 : Int) (a2_1 : Int) (a3_0 : Int) (a3_1 : Int) (r : Bool) (w : World) (h : zelligeref08_Conflict.f k a0_0 a0_1 a1_0 a1_1 a2_0 a2_1 a3_0 a3_1 = some r) :
  Calls Try.prog 9 #[.agg #[.int .i64 a0_0, .int .i64 a0_1], .agg #[.int .i64 a1_0, .int .i64 a1_1], .agg #[.int .i64 a2_0, .int .i64 a2_1], .agg #[.int .i64 a3_0, .int .i64 a3_1]] w fun e w' => e = .returned (.bool r) ∧ Below w.heap.size w w' := by
 have hu23 := Try.underlying23
 have HB := Aside0.mk (Below.refl w.heap.size w)
 have H : ((zelligeref08_Can.f a0_0 a0_1 a1_0 a1_1 a2_0 a2_1 a3_0 a3_1).bind fun t514 => (if t514 = true then ((zelligeref07_Orient.f a0_0 a0_1 a1_0 a1_1 a2_0 a2_1).bind fun t515 => (if t515 = 1 then (if (a3_0 == a0_0 && (a3_1 == a0_1)) = true then (zelligeref08_Conflict.j0 k true a0_0 a0_1 a1_0 a1_1 a2_0 a2_1 a3_0 a3_1) else (if (a3_0 == a1_0 && (a3_1 == a1_1)) = true then (zelligeref08_Conflict.j0 k true a0_0 a0_1 a1_0 a1_1 a2_0 a2_1 a3_0 a3_1) else (zelligeref08_Conflict.j0 k (a3_0 == a2_0 && (a3_1 == a2_1)) a0_0 a0_1 a1_0 a1_1 a2_0 a2_1 a3_0 a3_1))) else (zelligeref08_Conflict.j0 k true a0_0 a0_1 a1_0 a1_1 a2_0 a2_1 a3_0 a3_1))) else (zelligeref08_Conflict.j0 k true a0_0 a0_1 a1_0 a1_1 a2_0 a2_1 a3_0 a3_1))) = some r := h
 clear h
 have HC5 := Aside0.mk H
 clear H
 go_enter Try.func9, Try.ntmps9
 go_upto_region 1 with (first | ((with_reducible refine gate_dst (N := 4) rfl ?_); refine box_event ?hg (N := 4) ?hd (cs := #[.int .i64 a0_0, .int .i64 a0_1]) (t := 23) ?hr ?_; (case hd => rfl); (case hg => rfl); (case hr => first | (go_simp; done) | (go_simp; rfl)); intro gb510 hg w6 hbox hb; have BK510 := Aside0.mk hbox; have GW510 := u3 hg HB; have GE510 := u3 hg HB; replace HB := u2 HB hb; clear hb hbox hg) | ((with_reducible refine gate_dst (N := 5) rfl ?_); refine box_event ?hg (N := 5) ?hd (cs := #[.int .i64 a1_0, .int .i64 a1_1]) (t := 23) ?hr ?_; (case hd => rfl); (case hg => rfl); (case hr => first | (go_simp; done) | (go_simp; rfl)); intro gb511 hg w7 hbox hb; have BK511 := Aside0.mk hbox; have GW511 := u3 hg HB; have GE511 := u3 hg HB; have NB510_511 := u4 hg BK510; have NB511_510 := u5 hg BK510; replace BK510 := u1 BK510 hb; replace HB := u2 HB hb; clear hb hbox hg) | ((with_reducible refine gate_dst (N := 6) rfl ?_); refine box_event ?hg (N := 6) ?hd (cs := #[.int .i64 a2_0, .int .i64 a2_1]) (t := 23) ?hr ?_; (case hd => rfl); (case hg => rfl); (case hr => first | (go_simp; done) | (go_simp; rfl)); intro gb512 hg w8 hbox hb; have BK512 := Aside0.mk hbox; have GW512 := u3 hg HB; have GE512 := u3 hg HB; have NB510_512 := u4 hg BK510; have NB512_510 := u5 hg BK510; have NB511_512 := u4 hg BK511; have NB512_511 := u5 hg BK511; replace BK510 := u1 BK510 hb; replace BK511 := u1 BK511 hb; replace HB := u2 HB hb; clear hb hbox hg) | ((with_reducible refine gate_dst (N := 7) rfl ?_); refine box_event ?hg (N := 7) ?hd (cs := #[.int .i64 a3_0, .int .i64 a3_1]) (t := 23) ?hr ?_; (case hd => rfl); (case hg => rfl); (case hr => first | (go_simp; done) | (go_simp; rfl)); intro gb513 hg w9 hbox hb; have BK513 := Aside0.mk hbox; have GW513 := u3 hg HB; have GE513 := u3 hg HB; have NB510_513 := u4 hg BK510; have NB513_510 := u5 hg BK510; have NB511_513 := u4 hg BK511; have NB513_511 := u5 hg BK511; have NB512_513 := u4 hg BK512; have NB513_512 := u5 hg BK512; replace BK510 := u1 BK510 hb; replace BK511 := u1 BK511 hb; replace BK512 := u1 BK512 hb; replace HB := u2 HB hb; clear hb hbox hg))
 (try simp only [Act.put, List.setIfInBounds_toArray, List.set_cons_zero, List.set_cons_succ])
 go_cut [37] (fun v37 wc => ∃ (kq : Nat) (x37_4 : Bool), v37 = .bool x37_4 ∧ Aside0 (zelligeref08_Conflict.j0 kq x37_4 a0_0 a0_1 a1_0 a1_1 a2_0 a2_1 a3_0 a3_1 = some r) ∧ Aside0 (kq ≤ k) ∧ Aside0 (wc.heap[gb510]? = some (.cells #[.int .i64 a0_0, .int .i64 a0_1] 23 (0, 0))) ∧ Aside0 (wc.heap[gb511]? = some (.cells #[.int .i64 a1_0, .int .i64 a1_1] 23 (0, 0))) ∧ Aside0 (wc.heap[gb512]? = some (.cells #[.int .i64 a2_0, .int .i64 a2_1] 23 (0, 0))) ∧ Aside0 (wc.heap[gb513]? = some (.cells #[.int .i64 a3_0, .int .i64 a3_1] 23 (0, 0))) ∧ Aside0 (Below w.heap.size w wc))
 case first =>
  have H := HC5.out
  clear HC5
  replace H := Option.bind_eq_some_iff.mp H
  obtain ⟨t514, A100, H⟩ := H
  replace H : (if t514 = true then ((zelligeref07_Orient.f a0_0 a0_1 a1_0 a1_1 a2_0 a2_1).bind fun t515 => (if t515 = 1 then (if (a3_0 == a0_0 && (a3_1 == a0_1)) = true then (zelligeref08_Conflict.j0 k true a0_0 a0_1 a1_0 a1_1 a2_0 a2_1 a3_0 a3_1) else (if (a3_0 == a1_0 && (a3_1 == a1_1)) = true then (zelligeref08_Conflict.j0 k true a0_0 a0_1 a1_0 a1_1 a2_0 a2_1 a3_0 a3_1) else (zelligeref08_Conflict.j0 k (a3_0 == a2_0 && (a3_1 == a2_1)) a0_0 a0_1 a1_0 a1_1 a2_0 a2_1 a3_0 a3_1))) else (zelligeref08_Conflict.j0 k true a0_0 a0_1 a1_0 a1_1 a2_0 a2_1 a3_0 a3_1))) else (zelligeref08_Conflict.j0 k true a0_0 a0_1 a1_0 a1_1 a2_0 a2_1 a3_0 a3_1)) = some r := H
  have A10 := Aside0.mk A100
  clear A100
  by_cases c11 : t514 = true
  ·subst c11
   have H1 : ((zelligeref07_Orient.f a0_0 a0_1 a1_0 a1_1 a2_0 a2_1).bind fun t515 => (if t515 = 1 then (if (a3_0 == a0_0 && (a3_1 == a0_1)) = true then (zelligeref08_Conflict.j0 k true a0_0 a0_1 a1_0 a1_1 a2_0 a2_1 a3_0 a3_1) else (if (a3_0 == a1_0 && (a3_1 == a1_1)) = true then (zelligeref08_Conflict.j0 k true a0_0 a0_1 a1_0 a1_1 a2_0 a2_1 a3_0 a3_1) else (zelligeref08_Conflict.j0 k (a3_0 == a2_0 && (a3_1 == a2_1)) a0_0 a0_1 a1_0 a1_1 a2_0 a2_1 a3_0 a3_1))) else (zelligeref08_Conflict.j0 k true a0_0 a0_1 a1_0 a1_1 a2_0 a2_1 a3_0 a3_1))) = some r := by rw [if_pos rfl] at H; exact H
   clear H
   have H := H1
   clear H1
   replace H := Option.bind_eq_some_iff.mp H
   obtain ⟨t515, A120, H⟩ := H
   replace H : (if t515 = 1 then (if (a3_0 == a0_0 && (a3_1 == a0_1)) = true then (zelligeref08_Conflict.j0 k true a0_0 a0_1 a1_0 a1_1 a2_0 a2_1 a3_0 a3_1) else (if (a3_0 == a1_0 && (a3_1 == a1_1)) = true then (zelligeref08_Conflict.j0 k true a0_0 a0_1 a1_0 a1_1 a2_0 a2_1 a3_0 a3_1) else (zelligeref08_Conflict.j0 k (a3_0 == a2_0 && (a3_1 == a2_1)) a0_0 a0_1 a1_0 a1_1 a2_0 a2_1 a3_0 a3_1))) else (zelligeref08_Conflict.j0 k true a0_0 a0_1 a1_0 a1_1 a2_0 a2_1 a3_0 a3_1)) = some r := H
   have A12 := Aside0.mk A120
   clear A120
   by_cases c13 : t515 = 1
   ·rw [if_pos c13] at H
    have c13b0 : (t515 == 1) = true := beq_iff_eq.mpr c13
    have c13b1 : (t515 != 1) = false := bne_eq_false_iff_eq.mpr c13
    clear c13
    (first | rw [c13b0] | (simp only [i64_w, i32_w]; rw [c13b0]) | skip)
    by_cases c14 : (a3_0 == a0_0 && (a3_1 == a0_1)) = true
    ·rw [if_pos c14] at H
     have c14b0 : (a3_0 == a0_0 && (a3_1 == a0_1)) = true := c14
     (try (have c14b1 : decide (a3_0 = a0_0 && (a3_1 == a0_1)) = true := by simpa using c14))
     (try (have c14b2 : (a3_0 == a0_0 && (a3_1 == a0_1)) = true := by simpa using c14))
     clear c14
     have H' := Aside0.mk H
     clear H
     have hnb15 := NB510_511.out
     have hnc15 := NB511_510.out
     have hnb16 := NB510_512.out
     have hnc16 := NB512_510.out
     have hnb17 := NB510_513.out
     have hnc17 := NB513_510.out
     have hcz18_0 : w9.cell? ⟨gb510, 0, none⟩ = some (.int .i64 a0_0) := (blk_cell BK510.out 0).trans rfl
     have hcz18_1 : w9.cell? ⟨gb510, 1, none⟩ = some (.int .i64 a0_1) := (blk_cell BK510.out 1).trans rfl
     have hfz18_0 := blk_frozen BK510.out 0
     have hfz18_1 := blk_frozen BK510.out 1
     have hnb19 := NB511_512.out
     have hnc19 := NB512_511.out
     have hnb20 := NB511_513.out
     have hnc20 := NB513_511.out
     have hcz21_0 : w9.cell? ⟨gb511, 0, none⟩ = some (.int .i64 a1_0) := (blk_cell BK511.out 0).trans rfl
     have hcz21_1 : w9.cell? ⟨gb511, 1, none⟩ = some (.int .i64 a1_1) := (blk_cell BK511.out 1).trans rfl
     have hfz21_0 := blk_frozen BK511.out 0
     have hfz21_1 := blk_frozen BK511.out 1
     have hnb22 := NB512_513.out
     have hnc22 := NB513_512.out
     have hcz23_0 : w9.cell? ⟨gb512, 0, none⟩ = some (.int .i64 a2_0) := (blk_cell BK512.out 0).trans rfl
     have hcz23_1 : w9.cell? ⟨gb512, 1, none⟩ = some (.int .i64 a2_1) := (blk_cell BK512.out 1).trans rfl
     have hfz23_0 := blk_frozen BK512.out 0
     have hfz23_1 := blk_frozen BK512.out 1
     have hcz24_0 : w9.cell? ⟨gb513, 0, none⟩ = some (.int .i64 a3_0) := (blk_cell BK513.out 0).trans rfl
     have hcz24_1 : w9.cell? ⟨gb513, 1, none⟩ = some (.int .i64 a3_1) := (blk_cell BK513.out 1).trans rfl
     have hfz24_0 := blk_frozen BK513.out 0
     have hfz24_1 := blk_frozen BK513.out 1
     go_wp2_with (first | ((with_reducible refine gate_callee (f := 11) rfl ?_); refine goesL_ (some 14) rfl rfl Try.func11 (by kernel_rfl) rfl #[.agg #[.int .i64 a0_0, .int .i64 a0_1], .agg #[.int .i64 a1_0, .int .i64 a1_1], .agg #[.int .i64 a2_0, .int .i64 a2_1], .agg #[.int .i64 a3_0, .int .i64 a3_1]] rfl (by (try simp only [List.map_toArray, List.map_cons, List.map_nil]); first | done | rfl | (simp only [List.length_drop, List.length_take]; rfl)) ?_; (with_reducible refine (zelligeref08_Can.calls a0_0 a0_1 a1_0 a1_1 a2_0 a2_1 a3_0 a3_1 true _ A10.out).mono ?_); rintro e w25 ⟨rfl, hb⟩; refine ⟨_, rfl, ?_⟩; replace BK510 := u1 BK510 hb; replace BK511 := u1 BK511 hb; replace BK512 := u1 BK512 hb; replace BK513 := u1 BK513 hb; replace HB := u2 HB hb; clear hb; obtain ⟨hcz26_0, hcz26_1, hfz26_0, hfz26_1⟩ := p2 BK510; obtain ⟨hcz27_0, hcz27_1, hfz27_0, hfz27_1⟩ := p2 BK511; obtain ⟨hcz28_0, hcz28_1, hfz28_0, hfz28_1⟩ := p2 BK512) | (go_at_call 12; (with_reducible refine (zelligeref07_Orient.calls a0_0 a0_1 a1_0 a1_1 a2_0 a2_1 t515 _ A12.out).mono ?_); rintro e w29 ⟨rfl, hb⟩; replace BK510 := u1 BK510 hb; replace BK511 := u1 BK511 hb; replace BK512 := u1 BK512 hb; replace BK513 := u1 BK513 hb; replace HB := u2 HB hb; clear hb; obtain ⟨hcz30_0, hcz30_1, hfz30_0, hfz30_1⟩ := p2 BK513; obtain ⟨hcz31_0, hcz31_1, hfz31_0, hfz31_1⟩ := p2 BK510))
     go_meet
     case rel => exact ⟨_, (true), (by first | rfl | (simp; done) | (simp [*]; done)), H', ⟨by first | omega | exact Nat.le_refl _⟩, ⟨bk BK510.out⟩, ⟨bk BK511.out⟩, ⟨bk BK512.out⟩, ⟨bk BK513.out⟩, ⟨bw HB.out⟩⟩
    ·rw [if_neg c14] at H
     have c14b0 : (a3_0 == a0_0 && (a3_1 == a0_1)) = false := by simpa using c14
     (try (have c14b1 : decide (a3_0 = a0_0 && (a3_1 == a0_1)) = false := by simpa using c14))
     (try (have c14b2 : (a3_0 == a0_0 && (a3_1 == a0_1)) = false := by simpa using c14))
     (try (have c14b3 : ¬ (a3_0 = a0_0 && (a3_1 == a0_1)) := by simpa using c14))
     clear c14
     by_cases c32 : (a3_0 == a1_0 && (a3_1 == a1_1)) = true
     ·rw [if_pos c32] at H
      have c32b0 : (a3_0 == a1_0 && (a3_1 == a1_1)) = true := c32
      (try (have c32b1 : decide (a3_0 = a1_0 && (a3_1 == a1_1)) = true := by simpa using c32))
      (try (have c32b2 : (a3_0 == a1_0 && (a3_1 == a1_1)) = true := by simpa using c32))
      clear c32
      have H' := Aside0.mk H
      clear H
      have hnb33 := NB510_511.out
      have hnc33 := NB511_510.out
      have hnb34 := NB510_512.out
      have hnc34 := NB512_510.out
      have hnb35 := NB510_513.out
      have hnc35 := NB513_510.out
      have hcz36_0 : w9.cell? ⟨gb510, 0, none⟩ = some (.int .i64 a0_0) := (blk_cell BK510.out 0).trans rfl
      have hcz36_1 : w9.cell? ⟨gb510, 1, none⟩ = some (.int .i64 a0_1) := (blk_cell BK510.out 1).trans rfl
      have hfz36_0 := blk_frozen BK510.out 0
      have hfz36_1 := blk_frozen BK510.out 1
      have hnb37 := NB511_512.out
      have hnc37 := NB512_511.out
      have hnb38 := NB511_513.out
      have hnc38 := NB513_511.out
      have hcz39_0 : w9.cell? ⟨gb511, 0, none⟩ = some (.int .i64 a1_0) := (blk_cell BK511.out 0).trans rfl
      have hcz39_1 : w9.cell? ⟨gb511, 1, none⟩ = some (.int .i64 a1_1) := (blk_cell BK511.out 1).trans rfl
      have hfz39_0 := blk_frozen BK511.out 0
      have hfz39_1 := blk_frozen BK511.out 1
      have hnb40 := NB512_513.out
      have hnc40 := NB513_512.out
      have hcz41_0 : w9.cell? ⟨gb512, 0, none⟩ = some (.int .i64 a2_0) := (blk_cell BK512.out 0).trans rfl
      have hcz41_1 : w9.cell? ⟨gb512, 1, none⟩ = some (.int .i64 a2_1) := (blk_cell BK512.out 1).trans rfl
      have hfz41_0 := blk_frozen BK512.out 0
      have hfz41_1 := blk_frozen BK512.out 1
      have hcz42_0 : w9.cell? ⟨gb513, 0, none⟩ = some (.int .i64 a3_0) := (blk_cell BK513.out 0).trans rfl
      have hcz42_1 : w9.cell? ⟨gb513, 1, none⟩ = some (.int .i64 a3_1) := (blk_cell BK513.out 1).trans rfl
      have hfz42_0 := blk_frozen BK513.out 0
      have hfz42_1 := blk_frozen BK513.out 1
      go_wp2_with (first | ((with_reducible refine gate_callee (f := 11) rfl ?_); refine goesL_ (some 14) rfl rfl Try.func11 (by kernel_rfl) rfl #[.agg #[.int .i64 a0_0, .int .i64 a0_1], .agg #[.int .i64 a1_0, .int .i64 a1_1], .agg #[.int .i64 a2_0, .int .i64 a2_1], .agg #[.int .i64 a3_0, .int .i64 a3_1]] rfl (by (try simp only [List.map_toArray, List.map_cons, List.map_nil]); first | done | rfl | (simp only [List.length_drop, List.length_take]; rfl)) ?_; (with_reducible refine (zelligeref08_Can.calls a0_0 a0_1 a1_0 a1_1 a2_0 a2_1 a3_0 a3_1 true _ A10.out).mono ?_); rintro e w43 ⟨rfl, hb⟩; refine ⟨_, rfl, ?_⟩; replace BK510 := u1 BK510 hb; replace BK511 := u1 BK511 hb; replace BK512 := u1 BK512 hb; replace BK513 := u1 BK513 hb; replace HB := u2 HB hb; clear hb; obtain ⟨hcz44_0, hcz44_1, hfz44_0, hfz44_1⟩ := p2 BK510; obtain ⟨hcz45_0, hcz45_1, hfz45_0, hfz45_1⟩ := p2 BK511; obtain ⟨hcz46_0, hcz46_1, hfz46_0, hfz46_1⟩ := p2 BK512) | (go_at_call 12; (with_reducible refine (zelligeref07_Orient.calls a0_0 a0_1 a1_0 a1_1 a2_0 a2_1 t515 _ A12.out).mono ?_); rintro e w47 ⟨rfl, hb⟩; replace BK510 := u1 BK510 hb; replace BK511 := u1 BK511 hb; replace BK512 := u1 BK512 hb; replace BK513 := u1 BK513 hb; replace HB := u2 HB hb; clear hb; obtain ⟨hcz48_0, hcz48_1, hfz48_0, hfz48_1⟩ := p2 BK513; obtain ⟨hcz49_0, hcz49_1, hfz49_0, hfz49_1⟩ := p2 BK510; obtain ⟨hcz50_0, hcz50_1, hfz50_0, hfz50_1⟩ := p2 BK511))
      go_meet
      case rel => exact ⟨_, (true), (by first | rfl | (simp; done) | (simp [*]; done)), H', ⟨by first | omega | exact Nat.le_refl _⟩, ⟨bk BK510.out⟩, ⟨bk BK511.out⟩, ⟨bk BK512.out⟩, ⟨bk BK513.out⟩, ⟨bw HB.out⟩⟩
     ·rw [if_neg c32] at H
      have c32b0 : (a3_0 == a1_0 && (a3_1 == a1_1)) = false := by simpa using c32
      (try (have c32b1 : decide (a3_0 = a1_0 && (a3_1 == a1_1)) = false := by simpa using c32))
      (try (have c32b2 : (a3_0 == a1_0 && (a3_1 == a1_1)) = false := by simpa using c32))
      (try (have c32b3 : ¬ (a3_0 = a1_0 && (a3_1 == a1_1)) := by simpa using c32))
      clear c32
      have H' := Aside0.mk H
      clear H
      have hnb51 := NB510_511.out
      have hnc51 := NB511_510.out
      have hnb52 := NB510_512.out
      have hnc52 := NB512_510.out
      have hnb53 := NB510_513.out
      have hnc53 := NB513_510.out
      have hcz54_0 : w9.cell? ⟨gb510, 0, none⟩ = some (.int .i64 a0_0) := (blk_cell BK510.out 0).trans rfl
      have hcz54_1 : w9.cell? ⟨gb510, 1, none⟩ = some (.int .i64 a0_1) := (blk_cell BK510.out 1).trans rfl
      have hfz54_0 := blk_frozen BK510.out 0
      have hfz54_1 := blk_frozen BK510.out 1
      have hnb55 := NB511_512.out
      have hnc55 := NB512_511.out
      have hnb56 := NB511_513.out
      have hnc56 := NB513_511.out
      have hcz57_0 : w9.cell? ⟨gb511, 0, none⟩ = some (.int .i64 a1_0) := (blk_cell BK511.out 0).trans rfl
      have hcz57_1 : w9.cell? ⟨gb511, 1, none⟩ = some (.int .i64 a1_1) := (blk_cell BK511.out 1).trans rfl
      have hfz57_0 := blk_frozen BK511.out 0
      have hfz57_1 := blk_frozen BK511.out 1
      have hnb58 := NB512_513.out
      have hnc58 := NB513_512.out
      have hcz59_0 : w9.cell? ⟨gb512, 0, none⟩ = some (.int .i64 a2_0) := (blk_cell BK512.out 0).trans rfl
      have hcz59_1 : w9.cell? ⟨gb512, 1, none⟩ = some (.int .i64 a2_1) := (blk_cell BK512.out 1).trans rfl
      have hfz59_0 := blk_frozen BK512.out 0
      have hfz59_1 := blk_frozen BK512.out 1
      have hcz60_0 : w9.cell? ⟨gb513, 0, none⟩ = some (.int .i64 a3_0) := (blk_cell BK513.out 0).trans rfl
      have hcz60_1 : w9.cell? ⟨gb513, 1, none⟩ = some (.int .i64 a3_1) := (blk_cell BK513.out 1).trans rfl
      have hfz60_0 := blk_frozen BK513.out 0
      have hfz60_1 := blk_frozen BK513.out 1
      go_wp2_with (first | ((with_reducible refine gate_callee (f := 11) rfl ?_); refine goesL_ (some 14) rfl rfl Try.func11 (by kernel_rfl) rfl #[.agg #[.int .i64 a0_0, .int .i64 a0_1], .agg #[.int .i64 a1_0, .int .i64 a1_1], .agg #[.int .i64 a2_0, .int .i64 a2_1], .agg #[.int .i64 a3_0, .int .i64 a3_1]] rfl (by (try simp only [List.map_toArray, List.map_cons, List.map_nil]); first | done | rfl | (simp only [List.length_drop, List.length_take]; rfl)) ?_; (with_reducible refine (zelligeref08_Can.calls a0_0 a0_1 a1_0 a1_1 a2_0 a2_1 a3_0 a3_1 true _ A10.out).mono ?_); rintro e w61 ⟨rfl, hb⟩; refine ⟨_, rfl, ?_⟩; replace BK510 := u1 BK510 hb; replace BK511 := u1 BK511 hb; replace BK512 := u1 BK512 hb; replace BK513 := u1 BK513 hb; replace HB := u2 HB hb; clear hb; obtain ⟨hcz62_0, hcz62_1, hfz62_0, hfz62_1⟩ := p2 BK510; obtain ⟨hcz63_0, hcz63_1, hfz63_0, hfz63_1⟩ := p2 BK511; obtain ⟨hcz64_0, hcz64_1, hfz64_0, hfz64_1⟩ := p2 BK512) | (go_at_call 12; (with_reducible refine (zelligeref07_Orient.calls a0_0 a0_1 a1_0 a1_1 a2_0 a2_1 t515 _ A12.out).mono ?_); rintro e w65 ⟨rfl, hb⟩; replace BK510 := u1 BK510 hb; replace BK511 := u1 BK511 hb; replace BK512 := u1 BK512 hb; replace BK513 := u1 BK513 hb; replace HB := u2 HB hb; clear hb; obtain ⟨hcz66_0, hcz66_1, hfz66_0, hfz66_1⟩ := p2 BK513; obtain ⟨hcz67_0, hcz67_1, hfz67_0, hfz67_1⟩ := p2 BK510; obtain ⟨hcz68_0, hcz68_1, hfz68_0, hfz68_1⟩ := p2 BK511; obtain ⟨hcz69_0, hcz69_1, hfz69_0, hfz69_1⟩ := p2 BK512))
      go_meet
      case rel => exact ⟨_, ((a3_0 == a2_0 && (a3_1 == a2_1))), (by first | rfl | (simp; done) | (simp [*]; done)), H', ⟨by first | omega | exact Nat.le_refl _⟩, ⟨bk BK510.out⟩, ⟨bk BK511.out⟩, ⟨bk BK512.out⟩, ⟨bk BK513.out⟩, ⟨bw HB.out⟩⟩
   ·rw [if_neg c13] at H
    have c13b0 : (t515 == 1) = false := beq_eq_false_iff_ne.mpr c13
    have c13b1 : (t515 != 1) = true := bne_iff_ne.mpr c13
    (first | rw [c13b0] | (simp only [i64_w, i32_w]; rw [c13b0]) | skip)
    have H' := Aside0.mk H
    clear H
    have hnb70 := NB510_511.out
    have hnc70 := NB511_510.out
    have hnb71 := NB510_512.out
    have hnc71 := NB512_510.out
    have hnb72 := NB510_513.out
    have hnc72 := NB513_510.out
    have hcz73_0 : w9.cell? ⟨gb510, 0, none⟩ = some (.int .i64 a0_0) := (blk_cell BK510.out 0).trans rfl
    have hcz73_1 : w9.cell? ⟨gb510, 1, none⟩ = some (.int .i64 a0_1) := (blk_cell BK510.out 1).trans rfl
    have hfz73_0 := blk_frozen BK510.out 0
    have hfz73_1 := blk_frozen BK510.out 1
    have hnb74 := NB511_512.out
    have hnc74 := NB512_511.out
    have hnb75 := NB511_513.out
    have hnc75 := NB513_511.out
    have hcz76_0 : w9.cell? ⟨gb511, 0, none⟩ = some (.int .i64 a1_0) := (blk_cell BK511.out 0).trans rfl
    have hcz76_1 : w9.cell? ⟨gb511, 1, none⟩ = some (.int .i64 a1_1) := (blk_cell BK511.out 1).trans rfl
    have hfz76_0 := blk_frozen BK511.out 0
    have hfz76_1 := blk_frozen BK511.out 1
    have hnb77 := NB512_513.out
    have hnc77 := NB513_512.out
    have hcz78_0 : w9.cell? ⟨gb512, 0, none⟩ = some (.int .i64 a2_0) := (blk_cell BK512.out 0).trans rfl
    have hcz78_1 : w9.cell? ⟨gb512, 1, none⟩ = some (.int .i64 a2_1) := (blk_cell BK512.out 1).trans rfl
    have hfz78_0 := blk_frozen BK512.out 0
    have hfz78_1 := blk_frozen BK512.out 1
    have hcz79_0 : w9.cell? ⟨gb513, 0, none⟩ = some (.int .i64 a3_0) := (blk_cell BK513.out 0).trans rfl
    have hcz79_1 : w9.cell? ⟨gb513, 1, none⟩ = some (.int .i64 a3_1) := (blk_cell BK513.out 1).trans rfl
    have hfz79_0 := blk_frozen BK513.out 0
    have hfz79_1 := blk_frozen BK513.out 1
    go_wp2_with (first | ((with_reducible refine gate_callee (f := 11) rfl ?_); refine goesL_ (some 14) rfl rfl Try.func11 (by kernel_rfl) rfl #[.agg #[.int .i64 a0_0, .int .i64 a0_1], .agg #[.int .i64 a1_0, .int .i64 a1_1], .agg #[.int .i64 a2_0, .int .i64 a2_1], .agg #[.int .i64 a3_0, .int .i64 a3_1]] rfl (by (try simp only [List.map_toArray, List.map_cons, List.map_nil]); first | done | rfl | (simp only [List.length_drop, List.length_take]; rfl)) ?_; (with_reducible refine (zelligeref08_Can.calls a0_0 a0_1 a1_0 a1_1 a2_0 a2_1 a3_0 a3_1 true _ A10.out).mono ?_); rintro e w80 ⟨rfl, hb⟩; refine ⟨_, rfl, ?_⟩; replace BK510 := u1 BK510 hb; replace BK511 := u1 BK511 hb; replace BK512 := u1 BK512 hb; replace BK513 := u1 BK513 hb; replace HB := u2 HB hb; clear hb; obtain ⟨hcz81_0, hcz81_1, hfz81_0, hfz81_1⟩ := p2 BK510; obtain ⟨hcz82_0, hcz82_1, hfz82_0, hfz82_1⟩ := p2 BK511; obtain ⟨hcz83_0, hcz83_1, hfz83_0, hfz83_1⟩ := p2 BK512) | (go_at_call 12; (with_reducible refine (zelligeref07_Orient.calls a0_0 a0_1 a1_0 a1_1 a2_0 a2_1 t515 _ A12.out).mono ?_); rintro e w84 ⟨rfl, hb⟩; replace BK510 := u1 BK510 hb; replace BK511 := u1 BK511 hb; replace BK512 := u1 BK512 hb; replace BK513 := u1 BK513 hb; replace HB := u2 HB hb; clear hb))
    go_meet
    case rel => exact ⟨_, (true), (by first | rfl | (simp; done) | (simp [*]; done)), H', ⟨by first | omega | exact Nat.le_refl _⟩, ⟨bk BK510.out⟩, ⟨bk BK511.out⟩, ⟨bk BK512.out⟩, ⟨bk BK513.out⟩, ⟨bw HB.out⟩⟩
  ·replace c11 := Bool.eq_false_iff.mpr c11
   subst c11
   have H1 : (zelligeref08_Conflict.j0 k true a0_0 a0_1 a1_0 a1_1 a2_0 a2_1 a3_0 a3_1) = some r := by rw [if_neg (show ¬ (false = true) by decide)] at H; exact H
   clear H
   have H := H1
   clear H1
   have H' := Aside0.mk H
   clear H
   have hnb85 := NB510_511.out
   have hnc85 := NB511_510.out
   have hnb86 := NB510_512.out
   have hnc86 := NB512_510.out
   have hnb87 := NB510_513.out
   have hnc87 := NB513_510.out
   have hcz88_0 : w9.cell? ⟨gb510, 0, none⟩ = some (.int .i64 a0_0) := (blk_cell BK510.out 0).trans rfl
   have hcz88_1 : w9.cell? ⟨gb510, 1, none⟩ = some (.int .i64 a0_1) := (blk_cell BK510.out 1).trans rfl
   have hfz88_0 := blk_frozen BK510.out 0
   have hfz88_1 := blk_frozen BK510.out 1
   have hnb89 := NB511_512.out
   have hnc89 := NB512_511.out
   have hnb90 := NB511_513.out
   have hnc90 := NB513_511.out
   have hcz91_0 : w9.cell? ⟨gb511, 0, none⟩ = some (.int .i64 a1_0) := (blk_cell BK511.out 0).trans rfl
   have hcz91_1 : w9.cell? ⟨gb511, 1, none⟩ = some (.int .i64 a1_1) := (blk_cell BK511.out 1).trans rfl
   have hfz91_0 := blk_frozen BK511.out 0
   have hfz91_1 := blk_frozen BK511.out 1
   have hnb92 := NB512_513.out
   have hnc92 := NB513_512.out
   have hcz93_0 : w9.cell? ⟨gb512, 0, none⟩ = some (.int .i64 a2_0) := (blk_cell BK512.out 0).trans rfl
   have hcz93_1 : w9.cell? ⟨gb512, 1, none⟩ = some (.int .i64 a2_1) := (blk_cell BK512.out 1).trans rfl
   have hfz93_0 := blk_frozen BK512.out 0
   have hfz93_1 := blk_frozen BK512.out 1
   have hcz94_0 : w9.cell? ⟨gb513, 0, none⟩ = some (.int .i64 a3_0) := (blk_cell BK513.out 0).trans rfl
   have hcz94_1 : w9.cell? ⟨gb513, 1, none⟩ = some (.int .i64 a3_1) := (blk_cell BK513.out 1).trans rfl
   have hfz94_0 := blk_frozen BK513.out 0
   have hfz94_1 := blk_frozen BK513.out 1
   go_wp2_with (first | ((with_reducible refine gate_callee (f := 11) rfl ?_); refine goesL_ (some 14) rfl rfl Try.func11 (by kernel_rfl) rfl #[.agg #[.int .i64 a0_0, .int .i64 a0_1], .agg #[.int .i64 a1_0, .int .i64 a1_1], .agg #[.int .i64 a2_0, .int .i64 a2_1], .agg #[.int .i64 a3_0, .int .i64 a3_1]] rfl (by (try simp only [List.map_toArray, List.map_cons, List.map_nil]); first | done | rfl | (simp only [List.length_drop, List.length_take]; rfl)) ?_; (with_reducible refine (zelligeref08_Can.calls a0_0 a0_1 a1_0 a1_1 a2_0 a2_1 a3_0 a3_1 false _ A10.out).mono ?_); rintro e w95 ⟨rfl, hb⟩; refine ⟨_, rfl, ?_⟩; replace BK510 := u1 BK510 hb; replace BK511 := u1 BK511 hb; replace BK512 := u1 BK512 hb; replace BK513 := u1 BK513 hb; replace HB := u2 HB hb; clear hb))
   go_meet
   case rel => exact ⟨_, (true), (by first | rfl | (simp; done) | (simp [*]; done)), H', ⟨by first | omega | exact Nat.le_refl _⟩, ⟨bk BK510.out⟩, ⟨bk BK511.out⟩, ⟨bk BK512.out⟩, ⟨bk BK513.out⟩, ⟨bw HB.out⟩⟩
 case rest =>
  clear HC5
  try clear c1
  try clear c2
  try clear p2
  try clear c3
  try clear c4
  try clear c5
  try clear c7
  try clear c8
  try clear c9
  try clear c11
  try clear c13
  try clear c13b0
  try clear c13b1
  try clear c14
  try clear c14b0
  try clear c14b1
  try clear c14b2
  try clear c15
  try clear c16
  try clear c17
  try clear c19
  try clear c20
  try clear c22
  try clear c32
  try clear c32b0
  try clear c32b1
  try clear c32b2
  try clear c33
  try clear c34
  try clear c35
  try clear c37
  try clear c38
  try clear c40
  try clear c51
  try clear c52
  try clear c53
  try clear c55
  try clear c56
  try clear c58
  try clear c70
  try clear c71
  try clear c72
  try clear c74
  try clear c75
  try clear c77
  try clear c85
  try clear c86
  try clear c87
  try clear c89
  try clear c90
  try clear c92
  try clear hcz18_0
  try clear hcz18_1
  try clear hcz21_0
  try clear hcz21_1
  try clear hcz23_0
  try clear hcz23_1
  try clear hcz24_0
  try clear hcz24_1
  try clear hcz26_0
  try clear hcz26_1
  try clear hcz27_0
  try clear hcz27_1
  try clear hcz28_0
  try clear hcz28_1
  try clear hcz30_0
  try clear hcz30_1
  try clear hcz31_0
  try clear hcz31_1
  try clear hcz36_0
  try clear hcz36_1
  try clear hcz39_0
  try clear hcz39_1
  try clear hcz41_0
  try clear hcz41_1
  try clear hcz42_0
  try clear hcz42_1
  try clear hcz44_0
  try clear hcz44_1
  try clear hcz45_0
  try clear hcz45_1
  try clear hcz46_0
  try clear hcz46_1
  try clear hcz48_0
  try clear hcz48_1
  try clear hcz49_0
  try clear hcz49_1
  try clear hcz50_0
  try clear hcz50_1
  try clear hcz54_0
  try clear hcz54_1
  try clear hcz57_0
  try clear hcz57_1
  try clear hcz59_0
  try clear hcz59_1
  try clear hcz60_0
  try clear hcz60_1
  try clear hcz62_0
  try clear hcz62_1
  try clear hcz63_0
  try clear hcz63_1
  try clear hcz64_0
  try clear hcz64_1
  try clear hcz66_0
  try clear hcz66_1
  try clear hcz67_0
  try clear hcz67_1
  try clear hcz68_0
  try clear hcz68_1
  try clear hcz69_0
  try clear hcz69_1
  try clear hcz73_0
  try clear hcz73_1
  try clear hcz76_0
  try clear hcz76_1
  try clear hcz78_0
  try clear hcz78_1
  try clear hcz79_0
  try clear hcz79_1
  try clear hcz81_0
  try clear hcz81_1
  try clear hcz82_0
  try clear hcz82_1
  try clear hcz83_0
  try clear hcz83_1
  try clear hcz88_0
  try clear hcz88_1
  try clear hcz91_0
  try clear hcz91_1
  try clear hcz93_0
  try clear hcz93_1
  try clear hcz94_0
  try clear hcz94_1
  try clear hfz18_0
  try clear hfz18_1
  try clear hfz21_0
  try clear hfz21_1
  try clear hfz23_0
  try clear hfz23_1
  try clear hfz24_0
  try clear hfz24_1
  try clear hfz26_0
  try clear hfz26_1
  try clear hfz27_0
  try clear hfz27_1
  try clear hfz28_0
  try clear hfz28_1
  try clear hfz30_0
  try clear hfz30_1
  try clear hfz31_0
  try clear hfz31_1
  try clear hfz36_0
  try clear hfz36_1
  try clear hfz39_0
  try clear hfz39_1
  try clear hfz41_0
  try clear hfz41_1
  try clear hfz42_0
  try clear hfz42_1
  try clear hfz44_0
  try clear hfz44_1
  try clear hfz45_0
  try clear hfz45_1
  try clear hfz46_0
  try clear hfz46_1
  try clear hfz48_0
  try clear hfz48_1
  try clear hfz49_0
  try clear hfz49_1
  try clear hfz50_0
  try clear hfz50_1
  try clear hfz54_0
  try clear hfz54_1
  try clear hfz57_0
  try clear hfz57_1
  try clear hfz59_0
  try clear hfz59_1
  try clear hfz60_0
  try clear hfz60_1
  try clear hfz62_0
  try clear hfz62_1
  try clear hfz63_0
  try clear hfz63_1
  try clear hfz64_0
  try clear hfz64_1
  try clear hfz66_0
  try clear hfz66_1
  try clear hfz67_0
  try clear hfz67_1
  try clear hfz68_0
  try clear hfz68_1
  try clear hfz69_0
  try clear hfz69_1
  try clear hfz73_0
  try clear hfz73_1
  try clear hfz76_0
  try clear hfz76_1
  try clear hfz78_0
  try clear hfz78_1
  try clear hfz79_0
  try clear hfz79_1
  try clear hfz81_0
  try clear hfz81_1
  try clear hfz82_0
  try clear hfz82_1
  try clear hfz83_0
  try clear hfz83_1
  try clear hfz88_0
  try clear hfz88_1
  try clear hfz91_0
  try clear hfz91_1
  try clear hfz93_0
  try clear hfz93_1
  try clear hfz94_0
  try clear hfz94_1
  obtain ⟨kq, x37_4, rfl, HA, HJ4, BK510, BK511, BK512, BK513, HB⟩ := hcut
  cases kq with
  | zero => exact absurd HA.out (by simp [zelligeref08_Conflict.j0])
  | succ kj4 =>
   have H := HA.out
   clear HA
   simp only [zelligeref08_Conflict.j0] at H
   by_cases c96 : x37_4 = true
   ·subst c96
    have H1 : (some false) = some r := by rw [if_pos rfl] at H; exact H
    clear H
    have H := H1
    clear H1
    obtain rfl := Option.some.inj H
    go_wp2
    go_ret
    exact ⟨by first | rfl | (simp [*, errW_none, errW_some] <;> rfl), bw HB.out⟩
   ·replace c96 := Bool.eq_false_iff.mpr c96
    subst c96
    have H1 : ((zelligeref07_InCircle.f a0_0 a0_1 a1_0 a1_1 a2_0 a2_1 a3_0 a3_1).bind fun t516 => (if t516 = 0 then ((zelligeref08_last.f kj4 a3_0 a3_1 a0_0 a0_1 a1_0 a1_1 a2_0 a2_1).bind fun t517 => (if t517 = true then (some false) else ((zelligeref08_last.f kj4 a2_0 a2_1 a0_0 a0_1 a1_0 a1_1 a3_0 a3_1).bind fun t518 => (if t518 = true then ((zelligeref07_Orient.f a0_0 a0_1 a1_0 a1_1 a3_0 a3_1).bind fun t519 => (some (t519 == 1))) else ((zelligeref08_last.f kj4 a1_0 a1_1 a0_0 a0_1 a2_0 a2_1 a3_0 a3_1).bind fun t520 => (if t520 = true then ((zelligeref07_Orient.f a0_0 a0_1 a3_0 a3_1 a2_0 a2_1).bind fun t521 => (some (t521 == 1))) else ((zelligeref07_Orient.f a3_0 a3_1 a1_0 a1_1 a2_0 a2_1).bind fun t522 => (some (t522 == 1))))))))) else (some (decide (t516 > 0))))) = some r := by rw [if_neg (show ¬ (false = true) by decide)] at H; exact H
    clear H
    have H := H1
    clear H1
    replace H := Option.bind_eq_some_iff.mp H
    obtain ⟨t516, A970, H⟩ := H
    replace H : (if t516 = 0 then ((zelligeref08_last.f kj4 a3_0 a3_1 a0_0 a0_1 a1_0 a1_1 a2_0 a2_1).bind fun t517 => (if t517 = true then (some false) else ((zelligeref08_last.f kj4 a2_0 a2_1 a0_0 a0_1 a1_0 a1_1 a3_0 a3_1).bind fun t518 => (if t518 = true then ((zelligeref07_Orient.f a0_0 a0_1 a1_0 a1_1 a3_0 a3_1).bind fun t519 => (some (t519 == 1))) else ((zelligeref08_last.f kj4 a1_0 a1_1 a0_0 a0_1 a2_0 a2_1 a3_0 a3_1).bind fun t520 => (if t520 = true then ((zelligeref07_Orient.f a0_0 a0_1 a3_0 a3_1 a2_0 a2_1).bind fun t521 => (some (t521 == 1))) else ((zelligeref07_Orient.f a3_0 a3_1 a1_0 a1_1 a2_0 a2_1).bind fun t522 => (some (t522 == 1))))))))) else (some (decide (t516 > 0)))) = some r := H
    have A97 := Aside0.mk A970
    clear A970
    by_cases c98 : t516 = 0
    ·rw [if_pos c98] at H
     have c98b0 : (t516 == 0) = true := beq_iff_eq.mpr c98
     have c98b1 : (t516 != 0) = false := bne_eq_false_iff_eq.mpr c98
     clear c98
     replace H := Option.bind_eq_some_iff.mp H
     obtain ⟨t517, A990, H⟩ := H
     replace H : (if t517 = true then (some false) else ((zelligeref08_last.f kj4 a2_0 a2_1 a0_0 a0_1 a1_0 a1_1 a3_0 a3_1).bind fun t518 => (if t518 = true then ((zelligeref07_Orient.f a0_0 a0_1 a1_0 a1_1 a3_0 a3_1).bind fun t519 => (some (t519 == 1))) else ((zelligeref08_last.f kj4 a1_0 a1_1 a0_0 a0_1 a2_0 a2_1 a3_0 a3_1).bind fun t520 => (if t520 = true then ((zelligeref07_Orient.f a0_0 a0_1 a3_0 a3_1 a2_0 a2_1).bind fun t521 => (some (t521 == 1))) else ((zelligeref07_Orient.f a3_0 a3_1 a1_0 a1_1 a2_0 a2_1).bind fun t522 => (some (t522 == 1)))))))) = some r := H
     have A99 := Aside0.mk A990
     clear A990
     by_cases c100 : t517 = true
     ·subst c100
      have H1 : (some false) = some r := by rw [if_pos rfl] at H; exact H
      clear H
      have H := H1
      clear H1
      obtain rfl := Option.some.inj H
      have hnb101 := NB510_511.out
      have hnc101 := NB511_510.out
      have hnb102 := NB510_512.out
      have hnc102 := NB512_510.out
      have hnb103 := NB510_513.out
      have hnc103 := NB513_510.out
      have hcz104_0 : wc.cell? ⟨gb510, 0, none⟩ = some (.int .i64 a0_0) := (blk_cell BK510.out 0).trans rfl
      have hcz104_1 : wc.cell? ⟨gb510, 1, none⟩ = some (.int .i64 a0_1) := (blk_cell BK510.out 1).trans rfl
      have hfz104_0 := blk_frozen BK510.out 0
      have hfz104_1 := blk_frozen BK510.out 1
      have hnb105 := NB511_512.out
      have hnc105 := NB512_511.out
      have hnb106 := NB511_513.out
      have hnc106 := NB513_511.out
      have hcz107_0 : wc.cell? ⟨gb511, 0, none⟩ = some (.int .i64 a1_0) := (blk_cell BK511.out 0).trans rfl
      have hcz107_1 : wc.cell? ⟨gb511, 1, none⟩ = some (.int .i64 a1_1) := (blk_cell BK511.out 1).trans rfl
      have hfz107_0 := blk_frozen BK511.out 0
      have hfz107_1 := blk_frozen BK511.out 1
      have hnb108 := NB512_513.out
      have hnc108 := NB513_512.out
      have hcz109_0 : wc.cell? ⟨gb512, 0, none⟩ = some (.int .i64 a2_0) := (blk_cell BK512.out 0).trans rfl
      have hcz109_1 : wc.cell? ⟨gb512, 1, none⟩ = some (.int .i64 a2_1) := (blk_cell BK512.out 1).trans rfl
      have hfz109_0 := blk_frozen BK512.out 0
      have hfz109_1 := blk_frozen BK512.out 1
      have hcz110_0 : wc.cell? ⟨gb513, 0, none⟩ = some (.int .i64 a3_0) := (blk_cell BK513.out 0).trans rfl
      have hcz110_1 : wc.cell? ⟨gb513, 1, none⟩ = some (.int .i64 a3_1) := (blk_cell BK513.out 1).trans rfl
      have hfz110_0 := blk_frozen BK513.out 0
      have hfz110_1 := blk_frozen BK513.out 1
      go_wp2_with (first | ((with_reducible refine gate_callee (f := 19) rfl ?_); refine goesL_ (some 42) rfl rfl Try.func19 (by kernel_rfl) rfl #[.agg #[.int .i64 a0_0, .int .i64 a0_1], .agg #[.int .i64 a1_0, .int .i64 a1_1], .agg #[.int .i64 a2_0, .int .i64 a2_1], .agg #[.int .i64 a3_0, .int .i64 a3_1]] rfl (by (try simp only [List.map_toArray, List.map_cons, List.map_nil]); first | done | rfl | (simp only [List.length_drop, List.length_take]; rfl)) ?_; (with_reducible refine (zelligeref07_InCircle.calls a0_0 a0_1 a1_0 a1_1 a2_0 a2_1 a3_0 a3_1 t516 _ A97.out).mono ?_); rintro e w111 ⟨rfl, hb⟩; refine ⟨_, rfl, ?_⟩; replace BK510 := u1 BK510 hb; replace BK511 := u1 BK511 hb; replace BK512 := u1 BK512 hb; replace BK513 := u1 BK513 hb; replace HB := u2 HB hb; clear hb; obtain ⟨_, _, _, _⟩ := p2 BK513; obtain ⟨_, _, _, _⟩ := p2 BK510; obtain ⟨_, _, _, _⟩ := p2 BK511; obtain ⟨_, _, _, _⟩ := p2 BK512) | ((with_reducible refine gate_callee (f := 20) rfl ?_); refine goesL_ (some 51) rfl rfl Try.func20 (by kernel_rfl) rfl #[.agg #[.int .i64 a3_0, .int .i64 a3_1], .agg #[.int .i64 a0_0, .int .i64 a0_1], .agg #[.int .i64 a1_0, .int .i64 a1_1], .agg #[.int .i64 a2_0, .int .i64 a2_1]] rfl (by (try simp only [List.map_toArray, List.map_cons, List.map_nil]); first | done | rfl | (simp only [List.length_drop, List.length_take]; rfl)) ?_; (with_reducible refine (zelligeref08_last.calls kj4 a3_0 a3_1 a0_0 a0_1 a1_0 a1_1 a2_0 a2_1 true _ A99.out).mono ?_); rintro e w116 ⟨rfl, hb⟩; refine ⟨_, rfl, ?_⟩; replace BK510 := u1 BK510 hb; replace BK511 := u1 BK511 hb; replace BK512 := u1 BK512 hb; replace BK513 := u1 BK513 hb; replace HB := u2 HB hb; clear hb))
      go_ret
      exact ⟨by first | rfl | (simp [*, errW_none, errW_some] <;> rfl), bw HB.out⟩
     ·replace c100 := Bool.eq_false_iff.mpr c100
      subst c100
      have H1 : ((zelligeref08_last.f kj4 a2_0 a2_1 a0_0 a0_1 a1_0 a1_1 a3_0 a3_1).bind fun t518 => (if t518 = true then ((zelligeref07_Orient.f a0_0 a0_1 a1_0 a1_1 a3_0 a3_1).bind fun t519 => (some (t519 == 1))) else ((zelligeref08_last.f kj4 a1_0 a1_1 a0_0 a0_1 a2_0 a2_1 a3_0 a3_1).bind fun t520 => (if t520 = true then ((zelligeref07_Orient.f a0_0 a0_1 a3_0 a3_1 a2_0 a2_1).bind fun t521 => (some (t521 == 1))) else ((zelligeref07_Orient.f a3_0 a3_1 a1_0 a1_1 a2_0 a2_1).bind fun t522 => (some (t522 == 1))))))) = some r := by rw [if_neg (show ¬ (false = true) by decide)] at H; exact H
      clear H
      have H := H1
      clear H1
      replace H := Option.bind_eq_some_iff.mp H
      obtain ⟨t518, A1170, H⟩ := H
      replace H : (if t518 = true then ((zelligeref07_Orient.f a0_0 a0_1 a1_0 a1_1 a3_0 a3_1).bind fun t519 => (some (t519 == 1))) else ((zelligeref08_last.f kj4 a1_0 a1_1 a0_0 a0_1 a2_0 a2_1 a3_0 a3_1).bind fun t520 => (if t520 = true then ((zelligeref07_Orient.f a0_0 a0_1 a3_0 a3_1 a2_0 a2_1).bind fun t521 => (some (t521 == 1))) else ((zelligeref07_Orient.f a3_0 a3_1 a1_0 a1_1 a2_0 a2_1).bind fun t522 => (some (t522 == 1)))))) = some r := H
      have A117 := Aside0.mk A1170
      clear A1170
      by_cases c118 : t518 = true
      ·subst c118
       have H1 : ((zelligeref07_Orient.f a0_0 a0_1 a1_0 a1_1 a3_0 a3_1).bind fun t519 => (some (t519 == 1))) = some r := by rw [if_pos rfl] at H; exact H
       clear H
       have H := H1
       clear H1
       replace H := Option.bind_eq_some_iff.mp H
       obtain ⟨t519, A1190, H⟩ := H
       replace H : (some (t519 == 1)) = some r := H
       have A119 := Aside0.mk A1190
       clear A1190
       obtain rfl := Option.some.inj H
       have hnb120 := NB510_511.out
       have hnc120 := NB511_510.out
       have hnb121 := NB510_512.out
       have hnc121 := NB512_510.out
       have hnb122 := NB510_513.out
       have hnc122 := NB513_510.out
       have hcz123_0 : wc.cell? ⟨gb510, 0, none⟩ = some (.int .i64 a0_0) := (blk_cell BK510.out 0).trans rfl
       have hcz123_1 : wc.cell? ⟨gb510, 1, none⟩ = some (.int .i64 a0_1) := (blk_cell BK510.out 1).trans rfl
       have hfz123_0 := blk_frozen BK510.out 0
       have hfz123_1 := blk_frozen BK510.out 1
       have hnb124 := NB511_512.out
       have hnc124 := NB512_511.out
       have hnb125 := NB511_513.out
       have hnc125 := NB513_511.out
       have hcz126_0 : wc.cell? ⟨gb511, 0, none⟩ = some (.int .i64 a1_0) := (blk_cell BK511.out 0).trans rfl
       have hcz126_1 : wc.cell? ⟨gb511, 1, none⟩ = some (.int .i64 a1_1) := (blk_cell BK511.out 1).trans rfl
       have hfz126_0 := blk_frozen BK511.out 0
       have hfz126_1 := blk_frozen BK511.out 1
       have hnb127 := NB512_513.out
       have hnc127 := NB513_512.out
       have hcz128_0 : wc.cell? ⟨gb512, 0, none⟩ = some (.int .i64 a2_0) := (blk_cell BK512.out 0).trans rfl
       have hcz128_1 : wc.cell? ⟨gb512, 1, none⟩ = some (.int .i64 a2_1) := (blk_cell BK512.out 1).trans rfl
       have hfz128_0 := blk_frozen BK512.out 0
       have hfz128_1 := blk_frozen BK512.out 1
       have hcz129_0 : wc.cell? ⟨gb513, 0, none⟩ = some (.int .i64 a3_0) := (blk_cell BK513.out 0).trans rfl
       have hcz129_1 : wc.cell? ⟨gb513, 1, none⟩ = some (.int .i64 a3_1) := (blk_cell BK513.out 1).trans rfl
       have hfz129_0 := blk_frozen BK513.out 0
       have hfz129_1 := blk_frozen BK513.out 1
       go_wp2_with (first | ((with_reducible refine gate_callee (f := 19) rfl ?_); refine goesL_ (some 42) rfl rfl Try.func19 (by kernel_rfl) rfl #[.agg #[.int .i64 a0_0, .int .i64 a0_1], .agg #[.int .i64 a1_0, .int .i64 a1_1], .agg #[.int .i64 a2_0, .int .i64 a2_1], .agg #[.int .i64 a3_0, .int .i64 a3_1]] rfl (by (try simp only [List.map_toArray, List.map_cons, List.map_nil]); first | done | rfl | (simp only [List.length_drop, List.length_take]; rfl)) ?_; (with_reducible refine (zelligeref07_InCircle.calls a0_0 a0_1 a1_0 a1_1 a2_0 a2_1 a3_0 a3_1 t516 _ A97.out).mono ?_); rintro e w130 ⟨rfl, hb⟩; refine ⟨_, rfl, ?_⟩; replace BK510 := u1 BK510 hb; replace BK511 := u1 BK511 hb; replace BK512 := u1 BK512 hb; replace BK513 := u1 BK513 hb; replace HB := u2 HB hb; clear hb; obtain ⟨_, _, _, _⟩ := p2 BK513; obtain ⟨_, _, _, _⟩ := p2 BK510; obtain ⟨_, _, _, _⟩ := p2 BK511; obtain ⟨_, _, _, _⟩ := p2 BK512) | ((with_reducible refine gate_callee (f := 20) rfl ?_); refine goesL_ (some 51) rfl rfl Try.func20 (by kernel_rfl) rfl #[.agg #[.int .i64 a3_0, .int .i64 a3_1], .agg #[.int .i64 a0_0, .int .i64 a0_1], .agg #[.int .i64 a1_0, .int .i64 a1_1], .agg #[.int .i64 a2_0, .int .i64 a2_1]] rfl (by (try simp only [List.map_toArray, List.map_cons, List.map_nil]); first | done | rfl | (simp only [List.length_drop, List.length_take]; rfl)) ?_; (with_reducible refine (zelligeref08_last.calls kj4 a3_0 a3_1 a0_0 a0_1 a1_0 a1_1 a2_0 a2_1 false _ A99.out).mono ?_); rintro e w135 ⟨rfl, hb⟩; refine ⟨_, rfl, ?_⟩; replace BK510 := u1 BK510 hb; replace BK511 := u1 BK511 hb; replace BK512 := u1 BK512 hb; replace BK513 := u1 BK513 hb; replace HB := u2 HB hb; clear hb; obtain ⟨_, _, _, _⟩ := p2 BK512; obtain ⟨_, _, _, _⟩ := p2 BK510; obtain ⟨_, _, _, _⟩ := p2 BK511; obtain ⟨_, _, _, _⟩ := p2 BK513) | ((with_reducible refine gate_callee (f := 20) rfl ?_); refine goesL_ (some 56) rfl rfl Try.func20 (by kernel_rfl) rfl #[.agg #[.int .i64 a2_0, .int .i64 a2_1], .agg #[.int .i64 a0_0, .int .i64 a0_1], .agg #[.int .i64 a1_0, .int .i64 a1_1], .agg #[.int .i64 a3_0, .int .i64 a3_1]] rfl (by (try simp only [List.map_toArray, List.map_cons, List.map_nil]); first | done | rfl | (simp only [List.length_drop, List.length_take]; rfl)) ?_; (with_reducible refine (zelligeref08_last.calls kj4 a2_0 a2_1 a0_0 a0_1 a1_0 a1_1 a3_0 a3_1 true _ A117.out).mono ?_); rintro e w140 ⟨rfl, hb⟩; refine ⟨_, rfl, ?_⟩; replace BK510 := u1 BK510 hb; replace BK511 := u1 BK511 hb; replace BK512 := u1 BK512 hb; replace BK513 := u1 BK513 hb; replace HB := u2 HB hb; clear hb; obtain ⟨_, _, _, _⟩ := p2 BK510; obtain ⟨_, _, _, _⟩ := p2 BK511; obtain ⟨_, _, _, _⟩ := p2 BK513) | ((with_reducible refine gate_callee (f := 12) rfl ?_); refine goesL_ (some 60) rfl rfl Try.func12 (by kernel_rfl) rfl #[.agg #[.int .i64 a0_0, .int .i64 a0_1], .agg #[.int .i64 a1_0, .int .i64 a1_1], .agg #[.int .i64 a3_0, .int .i64 a3_1]] rfl (by (try simp only [List.map_toArray, List.map_cons, List.map_nil]); first | done | rfl | (simp only [List.length_drop, List.length_take]; rfl)) ?_; (with_reducible refine (zelligeref07_Orient.calls a0_0 a0_1 a1_0 a1_1 a3_0 a3_1 t519 _ A119.out).mono ?_); rintro e w144 ⟨rfl, hb⟩; refine ⟨_, rfl, ?_⟩; replace BK510 := u1 BK510 hb; replace BK511 := u1 BK511 hb; replace BK512 := u1 BK512 hb; replace BK513 := u1 BK513 hb; replace HB := u2 HB hb; clear hb))
       go_ret
       exact ⟨by first | rfl | (simp [*, errW_none, errW_some] <;> rfl), bw HB.out⟩
      ·replace c118 := Bool.eq_false_iff.mpr c118
       subst c118
       have H1 : ((zelligeref08_last.f kj4 a1_0 a1_1 a0_0 a0_1 a2_0 a2_1 a3_0 a3_1).bind fun t520 => (if t520 = true then ((zelligeref07_Orient.f a0_0 a0_1 a3_0 a3_1 a2_0 a2_1).bind fun t521 => (some (t521 == 1))) else ((zelligeref07_Orient.f a3_0 a3_1 a1_0 a1_1 a2_0 a2_1).bind fun t522 => (some (t522 == 1))))) = some r := by rw [if_neg (show ¬ (false = true) by decide)] at H; exact H
       clear H
       have H := H1
       clear H1
       replace H := Option.bind_eq_some_iff.mp H
       obtain ⟨t520, A1450, H⟩ := H
       replace H : (if t520 = true then ((zelligeref07_Orient.f a0_0 a0_1 a3_0 a3_1 a2_0 a2_1).bind fun t521 => (some (t521 == 1))) else ((zelligeref07_Orient.f a3_0 a3_1 a1_0 a1_1 a2_0 a2_1).bind fun t522 => (some (t522 == 1)))) = some r := H
       have A145 := Aside0.mk A1450
       clear A1450
       by_cases c146 : t520 = true
       ·subst c146
        have H1 : ((zelligeref07_Orient.f a0_0 a0_1 a3_0 a3_1 a2_0 a2_1).bind fun t521 => (some (t521 == 1))) = some r := by rw [if_pos rfl] at H; exact H
        clear H
        have H := H1
        clear H1
        replace H := Option.bind_eq_some_iff.mp H
        obtain ⟨t521, A1470, H⟩ := H
        replace H : (some (t521 == 1)) = some r := H
        have A147 := Aside0.mk A1470
        clear A1470
        obtain rfl := Option.some.inj H
        have hnb148 := NB510_511.out
        have hnc148 := NB511_510.out
        have hnb149 := NB510_512.out
        have hnc149 := NB512_510.out
        have hnb150 := NB510_513.out
        have hnc150 := NB513_510.out
        have hcz151_0 : wc.cell? ⟨gb510, 0, none⟩ = some (.int .i64 a0_0) := (blk_cell BK510.out 0).trans rfl
        have hcz151_1 : wc.cell? ⟨gb510, 1, none⟩ = some (.int .i64 a0_1) := (blk_cell BK510.out 1).trans rfl
        have hfz151_0 := blk_frozen BK510.out 0
        have hfz151_1 := blk_frozen BK510.out 1
        have hnb152 := NB511_512.out
        have hnc152 := NB512_511.out
        have hnb153 := NB511_513.out
        have hnc153 := NB513_511.out
        have hcz154_0 : wc.cell? ⟨gb511, 0, none⟩ = some (.int .i64 a1_0) := (blk_cell BK511.out 0).trans rfl
        have hcz154_1 : wc.cell? ⟨gb511, 1, none⟩ = some (.int .i64 a1_1) := (blk_cell BK511.out 1).trans rfl
        have hfz154_0 := blk_frozen BK511.out 0
        have hfz154_1 := blk_frozen BK511.out 1
        have hnb155 := NB512_513.out
        have hnc155 := NB513_512.out
        have hcz156_0 : wc.cell? ⟨gb512, 0, none⟩ = some (.int .i64 a2_0) := (blk_cell BK512.out 0).trans rfl
        have hcz156_1 : wc.cell? ⟨gb512, 1, none⟩ = some (.int .i64 a2_1) := (blk_cell BK512.out 1).trans rfl
        have hfz156_0 := blk_frozen BK512.out 0
        have hfz156_1 := blk_frozen BK512.out 1
        have hcz157_0 : wc.cell? ⟨gb513, 0, none⟩ = some (.int .i64 a3_0) := (blk_cell BK513.out 0).trans rfl
        have hcz157_1 : wc.cell? ⟨gb513, 1, none⟩ = some (.int .i64 a3_1) := (blk_cell BK513.out 1).trans rfl
        have hfz157_0 := blk_frozen BK513.out 0
        have hfz157_1 := blk_frozen BK513.out 1
        go_wp2_with (first | ((with_reducible refine gate_callee (f := 19) rfl ?_); refine goesL_ (some 42) rfl rfl Try.func19 (by kernel_rfl) rfl #[.agg #[.int .i64 a0_0, .int .i64 a0_1], .agg #[.int .i64 a1_0, .int .i64 a1_1], .agg #[.int .i64 a2_0, .int .i64 a2_1], .agg #[.int .i64 a3_0, .int .i64 a3_1]] rfl (by (try simp only [List.map_toArray, List.map_cons, List.map_nil]); first | done | rfl | (simp only [List.length_drop, List.length_take]; rfl)) ?_; (with_reducible refine (zelligeref07_InCircle.calls a0_0 a0_1 a1_0 a1_1 a2_0 a2_1 a3_0 a3_1 t516 _ A97.out).mono ?_); rintro e w158 ⟨rfl, hb⟩; refine ⟨_, rfl, ?_⟩; replace BK510 := u1 BK510 hb; replace BK511 := u1 BK511 hb; replace BK512 := u1 BK512 hb; replace BK513 := u1 BK513 hb; replace HB := u2 HB hb; clear hb; obtain ⟨_, _, _, _⟩ := p2 BK513; obtain ⟨_, _, _, _⟩ := p2 BK510; obtain ⟨_, _, _, _⟩ := p2 BK511; obtain ⟨_, _, _, _⟩ := p2 BK512) | ((with_reducible refine gate_callee (f := 20) rfl ?_); refine goesL_ (some 51) rfl rfl Try.func20 (by kernel_rfl) rfl #[.agg #[.int .i64 a3_0, .int .i64 a3_1], .agg #[.int .i64 a0_0, .int .i64 a0_1], .agg #[.int .i64 a1_0, .int .i64 a1_1], .agg #[.int .i64 a2_0, .int .i64 a2_1]] rfl (by (try simp only [List.map_toArray, List.map_cons, List.map_nil]); first | done | rfl | (simp only [List.length_drop, List.length_take]; rfl)) ?_; (with_reducible refine (zelligeref08_last.calls kj4 a3_0 a3_1 a0_0 a0_1 a1_0 a1_1 a2_0 a2_1 false _ A99.out).mono ?_); rintro e w163 ⟨rfl, hb⟩; refine ⟨_, rfl, ?_⟩; replace BK510 := u1 BK510 hb; replace BK511 := u1 BK511 hb; replace BK512 := u1 BK512 hb; replace BK513 := u1 BK513 hb; replace HB := u2 HB hb; clear hb; obtain ⟨_, _, _, _⟩ := p2 BK512; obtain ⟨_, _, _, _⟩ := p2 BK510; obtain ⟨_, _, _, _⟩ := p2 BK511; obtain ⟨_, _, _, _⟩ := p2 BK513) | ((with_reducible refine gate_callee (f := 20) rfl ?_); refine goesL_ (some 56) rfl rfl Try.func20 (by kernel_rfl) rfl #[.agg #[.int .i64 a2_0, .int .i64 a2_1], .agg #[.int .i64 a0_0, .int .i64 a0_1], .agg #[.int .i64 a1_0, .int .i64 a1_1], .agg #[.int .i64 a3_0, .int .i64 a3_1]] rfl (by (try simp only [List.map_toArray, List.map_cons, List.map_nil]); first | done | rfl | (simp only [List.length_drop, List.length_take]; rfl)) ?_; (with_reducible refine (zelligeref08_last.calls kj4 a2_0 a2_1 a0_0 a0_1 a1_0 a1_1 a3_0 a3_1 false _ A117.out).mono ?_); rintro e w168 ⟨rfl, hb⟩; refine ⟨_, rfl, ?_⟩; replace BK510 := u1 BK510 hb; replace BK511 := u1 BK511 hb; replace BK512 := u1 BK512 hb; replace BK513 := u1 BK513 hb; replace HB := u2 HB hb; clear hb; obtain ⟨_, _, _, _⟩ := p2 BK511; obtain ⟨_, _, _, _⟩ := p2 BK510; obtain ⟨_, _, _, _⟩ := p2 BK512; obtain ⟨_, _, _, _⟩ := p2 BK513) | ((with_reducible refine gate_callee (f := 20) rfl ?_); refine goesL_ (some 66) rfl rfl Try.func20 (by kernel_rfl) rfl #[.agg #[.int .i64 a1_0, .int .i64 a1_1], .agg #[.int .i64 a0_0, .int .i64 a0_1], .agg #[.int .i64 a2_0, .int .i64 a2_1], .agg #[.int .i64 a3_0, .int .i64 a3_1]] rfl (by (try simp only [List.map_toArray, List.map_cons, List.map_nil]); first | done | rfl | (simp only [List.length_drop, List.length_take]; rfl)) ?_; (with_reducible refine (zelligeref08_last.calls kj4 a1_0 a1_1 a0_0 a0_1 a2_0 a2_1 a3_0 a3_1 true _ A145.out).mono ?_); rintro e w173 ⟨rfl, hb⟩; refine ⟨_, rfl, ?_⟩; replace BK510 := u1 BK510 hb; replace BK511 := u1 BK511 hb; replace BK512 := u1 BK512 hb; replace BK513 := u1 BK513 hb; replace HB := u2 HB hb; clear hb; obtain ⟨_, _, _, _⟩ := p2 BK510; obtain ⟨_, _, _, _⟩ := p2 BK513; obtain ⟨_, _, _, _⟩ := p2 BK512) | ((with_reducible refine gate_callee (f := 12) rfl ?_); refine goesL_ (some 70) rfl rfl Try.func12 (by kernel_rfl) rfl #[.agg #[.int .i64 a0_0, .int .i64 a0_1], .agg #[.int .i64 a3_0, .int .i64 a3_1], .agg #[.int .i64 a2_0, .int .i64 a2_1]] rfl (by (try simp only [List.map_toArray, List.map_cons, List.map_nil]); first | done | rfl | (simp only [List.length_drop, List.length_take]; rfl)) ?_; (with_reducible refine (zelligeref07_Orient.calls a0_0 a0_1 a3_0 a3_1 a2_0 a2_1 t521 _ A147.out).mono ?_); rintro e w177 ⟨rfl, hb⟩; refine ⟨_, rfl, ?_⟩; replace BK510 := u1 BK510 hb; replace BK511 := u1 BK511 hb; replace BK512 := u1 BK512 hb; replace BK513 := u1 BK513 hb; replace HB := u2 HB hb; clear hb))
        go_ret
        exact ⟨by first | rfl | (simp [*, errW_none, errW_some] <;> rfl), bw HB.out⟩
       ·replace c146 := Bool.eq_false_iff.mpr c146
        subst c146
        have H1 : ((zelligeref07_Orient.f a3_0 a3_1 a1_0 a1_1 a2_0 a2_1).bind fun t522 => (some (t522 == 1))) = some r := by rw [if_neg (show ¬ (false = true) by decide)] at H; exact H
        clear H
        have H := H1
        clear H1
        replace H := Option.bind_eq_some_iff.mp H
        obtain ⟨t522, A1780, H⟩ := H
        replace H : (some (t522 == 1)) = some r := H
        have A178 := Aside0.mk A1780
        clear A1780
        obtain rfl := Option.some.inj H
        have hnb179 := NB510_511.out
        have hnc179 := NB511_510.out
        have hnb180 := NB510_512.out
        have hnc180 := NB512_510.out
        have hnb181 := NB510_513.out
        have hnc181 := NB513_510.out
        have hcz182_0 : wc.cell? ⟨gb510, 0, none⟩ = some (.int .i64 a0_0) := (blk_cell BK510.out 0).trans rfl
        have hcz182_1 : wc.cell? ⟨gb510, 1, none⟩ = some (.int .i64 a0_1) := (blk_cell BK510.out 1).trans rfl
        have hfz182_0 := blk_frozen BK510.out 0
        have hfz182_1 := blk_frozen BK510.out 1
        have hnb183 := NB511_512.out
        have hnc183 := NB512_511.out
        have hnb184 := NB511_513.out
        have hnc184 := NB513_511.out
        have hcz185_0 : wc.cell? ⟨gb511, 0, none⟩ = some (.int .i64 a1_0) := (blk_cell BK511.out 0).trans rfl
        have hcz185_1 : wc.cell? ⟨gb511, 1, none⟩ = some (.int .i64 a1_1) := (blk_cell BK511.out 1).trans rfl
        have hfz185_0 := blk_frozen BK511.out 0
        have hfz185_1 := blk_frozen BK511.out 1
        have hnb186 := NB512_513.out
        have hnc186 := NB513_512.out
        have hcz187_0 : wc.cell? ⟨gb512, 0, none⟩ = some (.int .i64 a2_0) := (blk_cell BK512.out 0).trans rfl
        have hcz187_1 : wc.cell? ⟨gb512, 1, none⟩ = some (.int .i64 a2_1) := (blk_cell BK512.out 1).trans rfl
        have hfz187_0 := blk_frozen BK512.out 0
        have hfz187_1 := blk_frozen BK512.out 1
        have hcz188_0 : wc.cell? ⟨gb513, 0, none⟩ = some (.int .i64 a3_0) := (blk_cell BK513.out 0).trans rfl
        have hcz188_1 : wc.cell? ⟨gb513, 1, none⟩ = some (.int .i64 a3_1) := (blk_cell BK513.out 1).trans rfl
        have hfz188_0 := blk_frozen BK513.out 0
        have hfz188_1 := blk_frozen BK513.out 1
        go_wp2_with (first | ((with_reducible refine gate_callee (f := 19) rfl ?_); refine goesL_ (some 42) rfl rfl Try.func19 (by kernel_rfl) rfl #[.agg #[.int .i64 a0_0, .int .i64 a0_1], .agg #[.int .i64 a1_0, .int .i64 a1_1], .agg #[.int .i64 a2_0, .int .i64 a2_1], .agg #[.int .i64 a3_0, .int .i64 a3_1]] rfl (by (try simp only [List.map_toArray, List.map_cons, List.map_nil]); first | done | rfl | (simp only [List.length_drop, List.length_take]; rfl)) ?_; (with_reducible refine (zelligeref07_InCircle.calls a0_0 a0_1 a1_0 a1_1 a2_0 a2_1 a3_0 a3_1 t516 _ A97.out).mono ?_); rintro e w189 ⟨rfl, hb⟩; refine ⟨_, rfl, ?_⟩; replace BK510 := u1 BK510 hb; replace BK511 := u1 BK511 hb; replace BK512 := u1 BK512 hb; replace BK513 := u1 BK513 hb; replace HB := u2 HB hb; clear hb; obtain ⟨_, _, _, _⟩ := p2 BK513; obtain ⟨_, _, _, _⟩ := p2 BK510; obtain ⟨_, _, _, _⟩ := p2 BK511; obtain ⟨_, _, _, _⟩ := p2 BK512) | ((with_reducible refine gate_callee (f := 20) rfl ?_); refine goesL_ (some 51) rfl rfl Try.func20 (by kernel_rfl) rfl #[.agg #[.int .i64 a3_0, .int .i64 a3_1], .agg #[.int .i64 a0_0, .int .i64 a0_1], .agg #[.int .i64 a1_0, .int .i64 a1_1], .agg #[.int .i64 a2_0, .int .i64 a2_1]] rfl (by (try simp only [List.map_toArray, List.map_cons, List.map_nil]); first | done | rfl | (simp only [List.length_drop, List.length_take]; rfl)) ?_; (with_reducible refine (zelligeref08_last.calls kj4 a3_0 a3_1 a0_0 a0_1 a1_0 a1_1 a2_0 a2_1 false _ A99.out).mono ?_); rintro e w194 ⟨rfl, hb⟩; refine ⟨_, rfl, ?_⟩; replace BK510 := u1 BK510 hb; replace BK511 := u1 BK511 hb; replace BK512 := u1 BK512 hb; replace BK513 := u1 BK513 hb; replace HB := u2 HB hb; clear hb; obtain ⟨_, _, _, _⟩ := p2 BK512; obtain ⟨_, _, _, _⟩ := p2 BK510; obtain ⟨_, _, _, _⟩ := p2 BK511; obtain ⟨_, _, _, _⟩ := p2 BK513) | ((with_reducible refine gate_callee (f := 20) rfl ?_); refine goesL_ (some 56) rfl rfl Try.func20 (by kernel_rfl) rfl #[.agg #[.int .i64 a2_0, .int .i64 a2_1], .agg #[.int .i64 a0_0, .int .i64 a0_1], .agg #[.int .i64 a1_0, .int .i64 a1_1], .agg #[.int .i64 a3_0, .int .i64 a3_1]] rfl (by (try simp only [List.map_toArray, List.map_cons, List.map_nil]); first | done | rfl | (simp only [List.length_drop, List.length_take]; rfl)) ?_; (with_reducible refine (zelligeref08_last.calls kj4 a2_0 a2_1 a0_0 a0_1 a1_0 a1_1 a3_0 a3_1 false _ A117.out).mono ?_); rintro e w199 ⟨rfl, hb⟩; refine ⟨_, rfl, ?_⟩; replace BK510 := u1 BK510 hb; replace BK511 := u1 BK511 hb; replace BK512 := u1 BK512 hb; replace BK513 := u1 BK513 hb; replace HB := u2 HB hb; clear hb; obtain ⟨_, _, _, _⟩ := p2 BK511; obtain ⟨_, _, _, _⟩ := p2 BK510; obtain ⟨_, _, _, _⟩ := p2 BK512; obtain ⟨_, _, _, _⟩ := p2 BK513) | ((with_reducible refine gate_callee (f := 20) rfl ?_); refine goesL_ (some 66) rfl rfl Try.func20 (by kernel_rfl) rfl #[.agg #[.int .i64 a1_0, .int .i64 a1_1], .agg #[.int .i64 a0_0, .int .i64 a0_1], .agg #[.int .i64 a2_0, .int .i64 a2_1], .agg #[.int .i64 a3_0, .int .i64 a3_1]] rfl (by (try simp only [List.map_toArray, List.map_cons, List.map_nil]); first | done | rfl | (simp only [List.length_drop, List.length_take]; rfl)) ?_; (with_reducible refine (zelligeref08_last.calls kj4 a1_0 a1_1 a0_0 a0_1 a2_0 a2_1 a3_0 a3_1 false _ A145.out).mono ?_); rintro e w204 ⟨rfl, hb⟩; refine ⟨_, rfl, ?_⟩; replace BK510 := u1 BK510 hb; replace BK511 := u1 BK511 hb; replace BK512 := u1 BK512 hb; replace BK513 := u1 BK513 hb; replace HB := u2 HB hb; clear hb; obtain ⟨_, _, _, _⟩ := p2 BK513; obtain ⟨_, _, _, _⟩ := p2 BK511; obtain ⟨_, _, _, _⟩ := p2 BK512) | ((with_reducible refine gate_callee (f := 12) rfl ?_); refine goesL_ (some 75) rfl rfl Try.func12 (by kernel_rfl) rfl #[.agg #[.int .i64 a3_0, .int .i64 a3_1], .agg #[.int .i64 a1_0, .int .i64 a1_1], .agg #[.int .i64 a2_0, .int .i64 a2_1]] rfl (by (try simp only [List.map_toArray, List.map_cons, List.map_nil]); first | done | rfl | (simp only [List.length_drop, List.length_take]; rfl)) ?_; (with_reducible refine (zelligeref07_Orient.calls a3_0 a3_1 a1_0 a1_1 a2_0 a2_1 t522 _ A178.out).mono ?_); rintro e w208 ⟨rfl, hb⟩; refine ⟨_, rfl, ?_⟩; replace BK510 := u1 BK510 hb; replace BK511 := u1 BK511 hb; replace BK512 := u1 BK512 hb; replace BK513 := u1 BK513 hb; replace HB := u2 HB hb; clear hb))
        go_ret
        exact ⟨by first | rfl | (simp [*, errW_none, errW_some] <;> rfl), bw HB.out⟩
    ·rw [if_neg c98] at H
     have c98b0 : (t516 == 0) = false := beq_eq_false_iff_ne.mpr c98
     have c98b1 : (t516 != 0) = true := bne_iff_ne.mpr c98
     obtain rfl := Option.some.inj H
     have hnb209 := NB510_511.out
     have hnc209 := NB511_510.out
     have hnb210 := NB510_512.out
     have hnc210 := NB512_510.out
     have hnb211 := NB510_513.out
     have hnc211 := NB513_510.out
     have hcz212_0 : wc.cell? ⟨gb510, 0, none⟩ = some (.int .i64 a0_0) := (blk_cell BK510.out 0).trans rfl
     have hcz212_1 : wc.cell? ⟨gb510, 1, none⟩ = some (.int .i64 a0_1) := (blk_cell BK510.out 1).trans rfl
     have hfz212_0 := blk_frozen BK510.out 0
     have hfz212_1 := blk_frozen BK510.out 1
     have hnb213 := NB511_512.out
     have hnc213 := NB512_511.out
     have hnb214 := NB511_513.out
     have hnc214 := NB513_511.out
     have hcz215_0 : wc.cell? ⟨gb511, 0, none⟩ = some (.int .i64 a1_0) := (blk_cell BK511.out 0).trans rfl
     have hcz215_1 : wc.cell? ⟨gb511, 1, none⟩ = some (.int .i64 a1_1) := (blk_cell BK511.out 1).trans rfl
     have hfz215_0 := blk_frozen BK511.out 0
     have hfz215_1 := blk_frozen BK511.out 1
     have hnb216 := NB512_513.out
     have hnc216 := NB513_512.out
     have hcz217_0 : wc.cell? ⟨gb512, 0, none⟩ = some (.int .i64 a2_0) := (blk_cell BK512.out 0).trans rfl
     have hcz217_1 : wc.cell? ⟨gb512, 1, none⟩ = some (.int .i64 a2_1) := (blk_cell BK512.out 1).trans rfl
     have hfz217_0 := blk_frozen BK512.out 0
     have hfz217_1 := blk_frozen BK512.out 1
     have hcz218_0 : wc.cell? ⟨gb513, 0, none⟩ = some (.int .i64 a3_0) := (blk_cell BK513.out 0).trans rfl
     have hcz218_1 : wc.cell? ⟨gb513, 1, none⟩ = some (.int .i64 a3_1) := (blk_cell BK513.out 1).trans rfl
     have hfz218_0 := blk_frozen BK513.out 0
     have hfz218_1 := blk_frozen BK513.out 1
     go_wp2_with (first | ((with_reducible refine gate_callee (f := 19) rfl ?_); refine goesL_ (some 42) rfl rfl Try.func19 (by kernel_rfl) rfl #[.agg #[.int .i64 a0_0, .int .i64 a0_1], .agg #[.int .i64 a1_0, .int .i64 a1_1], .agg #[.int .i64 a2_0, .int .i64 a2_1], .agg #[.int .i64 a3_0, .int .i64 a3_1]] rfl (by (try simp only [List.map_toArray, List.map_cons, List.map_nil]); first | done | rfl | (simp only [List.length_drop, List.length_take]; rfl)) ?_; (with_reducible refine (zelligeref07_InCircle.calls a0_0 a0_1 a1_0 a1_1 a2_0 a2_1 a3_0 a3_1 t516 _ A97.out).mono ?_); rintro e w219 ⟨rfl, hb⟩; refine ⟨_, rfl, ?_⟩; replace BK510 := u1 BK510 hb; replace BK511 := u1 BK511 hb; replace BK512 := u1 BK512 hb; replace BK513 := u1 BK513 hb; replace HB := u2 HB hb; clear hb))
     go_ret
     exact ⟨by first | rfl | (simp [*, errW_none, errW_some] <;> rfl), bw HB.out⟩
end Go.Proofs.Ytlkngfidohiepaa.F
end
section
namespace Go.Proofs.Ytlkngfidohiepaa.Tl
open Go Go.RowKit Go.Proofs.YtlkngfidohiepaaW.PrintWords Go.Proofs.Ytlkngfidohiepaa.F Go.Proofs.Ytlkngfidohiepaa.Wd Go.Proofs.Ytlkngfidohiepaa.Pm Go.Proofs.Ytlkngfidohiepaa.Pd Go.Proofs.Ytlkngfidohiepaa.Tm
set_option linter.unusedVariables false
set_option linter.unusedSimpArgs false
theorem rc_f {a b : Int} (h : I64 a ∧ I64 b) : zelligeref06_Can.f a b = some (decide (CoP a b)) := by
 unfold zelligeref06_Can.f
 rw [if_pos h]
theorem rc4_f {a0 a1 b0 b1 c0 c1 d0 d1 : Int} (ha : I64 a0 ∧ I64 a1) (hb : I64 b0 ∧ I64 b1) (hc : I64 c0 ∧ I64 c1) (hd : I64 d0 ∧ I64 d1) : zelligeref08_Can.f a0 a1 b0 b1 c0 c1 d0 d1 = some (decide (CoP a0 a1 ∧ CoP b0 b1 ∧ CoP c0 c1 ∧ CoP d0 d1)) := by
 unfold zelligeref08_Can.f
 rw [rc_f ha, rc_f hb, rc_f hc, rc_f hd, Option.bind_some, Option.bind_some, Option.bind_some, Option.bind_some]
 by_cases h1 : CoP a0 a1
 ·rw [if_pos (decide_eq_true h1)]
  by_cases h2 : CoP b0 b1
  ·rw [if_pos (decide_eq_true h2)]
   by_cases h3 : CoP c0 c1
   ·rw [if_pos (decide_eq_true h3)]
    congr 1
    rw [decide_eq_decide]
    exact ⟨fun q => ⟨h1, h2, h3, q⟩, fun q => q.2.2.2⟩
   ·rw [if_neg (by rw [decide_eq_true_eq]; exact h3), decide_eq_false (fun q => h3 q.2.2.1)]
  ·rw [if_neg (by rw [decide_eq_true_eq]; exact h2), decide_eq_false (fun q => h2 q.2.1)]
 ·rw [if_neg (by rw [decide_eq_true_eq]; exact h1), decide_eq_false (fun q => h1 q.1)]
theorem ro_f {a0 a1 b0 b1 c0 c1 : Int} (ha : CoP a0 a1) (hb : CoP b0 b1) (hc : CoP c0 c1) : zelligeref07_Orient.f a0 a1 b0 b1 c0 c1 = some (ar a0 a1 b0 b1 c0 c1).sign := by
 unfold zelligeref07_Orient.f
 rw [if_pos ⟨ha, hb, hc⟩]
theorem rcmp_f (a b c d : Int) (k : Nat) : zelligeref06_Cmp.f (k + 1) a b c d = some (ord a b c d) := by
 unfold zelligeref06_Cmp.f ord
 by_cases h1 : a < c
 ·rw [if_pos h1, if_pos h1, zelligeref06_Cmp.j0, if_pos rfl]
 ·rw [if_neg h1, if_neg h1]
  by_cases h2 : a = c
  ·rw [if_pos h2, zelligeref06_Cmp.j0, if_neg (show ¬ a > c by omega)]
   by_cases h3 : b < d
   ·rw [if_pos (decide_eq_true h3), if_pos h3]
   ·rw [if_neg (by rw [decide_eq_true_eq]; exact h3), if_neg h3, eq_b]
    by_cases h4 : b > d
    ·rw [if_pos h4, if_neg (by rw [decide_eq_true_eq]; omega)]
    ·rw [if_neg h4, if_pos (decide_eq_true (by omega))]
  ·rw [if_neg h2, zelligeref06_Cmp.j0, if_neg (by decide), eq_b, if_neg (by rw [decide_eq_true_eq]; omega), if_pos (by omega)]
theorem rlast_f {p0 p1 a0 a1 b0 b1 c0 c1 : Int} (hp : CoP p0 p1) (ha : CoP a0 a1) (hb : CoP b0 b1) (hc : CoP c0 c1) (k : Nat) :
  zelligeref08_last.f (k + 1) p0 p1 a0 a1 b0 b1 c0 c1 = some (decide (ky a0 a1 < ky p0 p1 ∧ ky b0 b1 < ky p0 p1 ∧ ky c0 c1 < ky p0 p1)) := by
 unfold zelligeref08_last.f
 rw [rcmp_f, rcmp_f, rcmp_f, Option.bind_some, Option.bind_some, Option.bind_some]
 have e1 := ord_ky hp ha; have e2 := ord_ky hp hb; have e3 := ord_ky hp hc
 by_cases h1 : ord p0 p1 a0 a1 > 0
 ·rw [if_pos h1]
  by_cases h2 : ord p0 p1 b0 b1 > 0
  ·rw [if_pos h2]
   congr 1
   rw [decide_eq_decide]
   exact ⟨fun q => ⟨e1.1 h1, e2.1 h2, e3.1 q⟩, fun q => e3.2 q.2.2⟩
  ·rw [if_neg h2, decide_eq_false (fun q => h2 (e2.2 q.2.1))]
 ·rw [if_neg h1, decide_eq_false (fun q => h1 (e1.2 q.1))]
theorem co_does {a0 a1 b0 b1 c0 c1 d0 d1 : Int} (ha : CoP a0 a1) (hb : CoP b0 b1) (hc : CoP c0 c1) (hd : CoP d0 d1) (g : 0 < ar a0 a1 b0 b1 c0 c1) (n1 : ¬ (d0 = a0 ∧ d1 = a1)) (n2 : ¬ (d0 = b0 ∧ d1 = b1)) (n3 : ¬ (d0 = c0 ∧ d1 = c1)) :
  coS a0 a1 b0 b1 c0 c1 d0 d1 = decide (does a0 a1 b0 b1 c0 c1 d0 d1) := by
 unfold coS tieS
 rw [decide_eq_true hd, Bool.true_and, decide_eq_decide]
 exact ⟨fun q => q.2.2.2.2.2, fun q => ⟨⟨ha, hb, hc⟩, g, n1, n2, n3, q⟩⟩
theorem rj0 {a0 a1 b0 b1 c0 c1 d0 d1 : Int} (ha : CoP a0 a1) (hb : CoP b0 b1) (hc : CoP c0 c1) (hd : CoP d0 d1) (g : 0 < ar a0 a1 b0 b1 c0 c1) (g1 : ¬ (d0 = a0 ∧ d1 = a1)) (g2 : ¬ (d0 = b0 ∧ d1 = b1)) (g3 : ¬ (d0 = c0 ∧ d1 = c1)) (k : Nat) :
  zelligeref08_Conflict.j0 (k + 2) false a0 a1 b0 b1 c0 c1 d0 d1 = some (decide (does a0 a1 b0 b1 c0 c1 d0 d1)) := by
 have nk1 := (not_congr (ky_eq (a0 := d0) (a1 := d1) (b0 := a0) (b1 := a1) hd.2 ha.2)).2 g1
 have nk2 := (not_congr (ky_eq (a0 := d0) (a1 := d1) (b0 := b0) (b1 := b1) hd.2 hb.2)).2 g2
 have nk3 := (not_congr (ky_eq (a0 := d0) (a1 := d1) (b0 := c0) (b1 := c1) hd.2 hc.2)).2 g3
 have L := left_ne g
 have nk4 := (not_congr (ky_eq (a0 := a0) (a1 := a1) (b0 := b0) (b1 := b1) ha.2 hb.2)).2 L.2.2
 have nk5 := (not_congr (ky_eq (a0 := c0) (a1 := c1) (b0 := a0) (b1 := a1) hc.2 ha.2)).2 L.1
 have nk6 := (not_congr (ky_eq (a0 := c0) (a1 := c1) (b0 := b0) (b1 := b1) hc.2 hb.2)).2 L.2.1
 have ic : zelligeref07_InCircle.f a0 a1 b0 b1 c0 c1 d0 d1 = some (dt a0 a1 b0 b1 c0 c1 d0 d1).sign := by unfold zelligeref07_InCircle.f; rw [if_pos ⟨ha, hb, hc, hd⟩]
 rw [zelligeref08_Conflict.j0, if_neg (by decide), ic, Option.bind_some, rlast_f hd ha hb hc, rlast_f hc ha hb hd, rlast_f hb ha hc hd, ro_f ha hb hd, ro_f ha hd hc, ro_f hd hb hc, Option.bind_some, Option.bind_some, Option.bind_some, Option.bind_some, Option.bind_some, Option.bind_some, one_b, one_b, one_b]
 clear ic L
 generalize hq : decide (does a0 a1 b0 b1 c0 c1 d0 d1) = q
 have D : q = true ↔ does a0 a1 b0 b1 c0 c1 d0 d1 := by rw [← hq, decide_eq_true_eq]
 clear hq
 unfold does at D
 clear g g1 g2 g3
 generalize ky a0 a1 = ka at *; generalize ky b0 b1 = kb at *; generalize ky c0 c1 = kc at *; generalize ky d0 d1 = kd at *
 generalize ar d0 d1 b0 b1 c0 c1 = u1 at *; generalize ar a0 a1 d0 d1 c0 c1 = u2 at *; generalize ar a0 a1 b0 b1 d0 d1 = u3 at *
 generalize dt a0 a1 b0 b1 c0 c1 d0 d1 = t at *
 by_cases z : t = 0
 ·subst z
  rw [if_pos (by rfl)]
  by_cases p1 : ka < kd ∧ kb < kd ∧ kc < kd
  ·rw [if_pos (decide_eq_true p1)]
   obtain ⟨m1, m2, m3⟩ := p1
   simp only [Int.lt_asymm m1, Int.lt_asymm m2, Int.lt_asymm m3, and_false, false_and, or_false, Int.lt_irrefl] at D
   cases q
   ·rfl
   ·exact (D.1 rfl).elim
  ·rw [if_neg (by rw [decide_eq_true_eq]; exact p1)]
   by_cases p2 : ka < kc ∧ kb < kc ∧ kd < kc
   ·rw [if_pos (decide_eq_true p2)]
    congr 1
    obtain ⟨m1, m2, m3⟩ := p2
    simp only [m1, m2, m3, Int.lt_asymm m1, Int.lt_asymm m2, Int.lt_asymm m3, Int.lt_irrefl, true_and, false_and, and_false, false_or, or_false] at D
    rw [Bool.eq_iff_iff, D, decide_eq_true_eq]
   ·rw [if_neg (by rw [decide_eq_true_eq]; exact p2)]
    by_cases p3 : ka < kb ∧ kc < kb ∧ kd < kb
    ·rw [if_pos (decide_eq_true p3)]
     congr 1
     obtain ⟨m1, m2, m3⟩ := p3
     simp only [m1, m2, m3, Int.lt_asymm m1, Int.lt_asymm m2, Int.lt_asymm m3, Int.lt_irrefl, true_and, false_and, and_false, false_or, or_false] at D
     rw [Bool.eq_iff_iff, D, decide_eq_true_eq]
    ·rw [if_neg (by rw [decide_eq_true_eq]; exact p3)]
     congr 1
     obtain ⟨m1, m2, m3⟩ : kb < ka ∧ kc < ka ∧ kd < ka := by clear D; omega
     simp only [m1, m2, m3, Int.lt_asymm m1, Int.lt_asymm m2, Int.lt_asymm m3, Int.lt_irrefl, true_and, false_and, and_false, false_or, or_false] at D
     rw [Bool.eq_iff_iff, D, decide_eq_true_eq]
 ·rw [if_neg (fun e => z (Int.sign_eq_zero_iff_zero.1 e))]
  congr 1
  rw [Bool.eq_iff_iff, D, decide_eq_true_eq]
  clear D nk1 nk2 nk3 nk4 nk5 nk6
  rcases sign_cases t with ⟨x, x'⟩ | ⟨x, x'⟩ | ⟨x, x'⟩ <;> rw [x'] <;> omega
theorem rConflict_f {a0 a1 b0 b1 c0 c1 d0 d1 : Int} (Ha : I64 a0 ∧ I64 a1) (Hb : I64 b0 ∧ I64 b1) (Hc : I64 c0 ∧ I64 c1) (Hd : I64 d0 ∧ I64 d1) (k : Nat) :
  zelligeref08_Conflict.f (k + 2) a0 a1 b0 b1 c0 c1 d0 d1 = some (coS a0 a1 b0 b1 c0 c1 d0 d1) := by
 unfold zelligeref08_Conflict.f
 have no : ∀ (h : coS a0 a1 b0 b1 c0 c1 d0 d1 = false), zelligeref08_Conflict.j0 (k + 2) true a0 a1 b0 b1 c0 c1 d0 d1 = some (coS a0 a1 b0 b1 c0 c1 d0 d1) := fun h => by rw [h, zelligeref08_Conflict.j0, if_pos rfl]
 have fa : ∀ (h : ¬ (CoP d0 d1 ∧ (CoP a0 a1 ∧ CoP b0 b1 ∧ CoP c0 c1) ∧ 0 < ar a0 a1 b0 b1 c0 c1 ∧ ¬ (d0 = a0 ∧ d1 = a1) ∧ ¬ (d0 = b0 ∧ d1 = b1) ∧ ¬ (d0 = c0 ∧ d1 = c1))), coS a0 a1 b0 b1 c0 c1 d0 d1 = false := fun h => by
  unfold coS tieS
  rw [← Bool.decide_and]
  exact decide_eq_false (fun q => h ⟨q.1, q.2.1, q.2.2.1, q.2.2.2.1, q.2.2.2.2.1, q.2.2.2.2.2.1⟩)
 rw [rc4_f Ha Hb Hc Hd, Option.bind_some, eq_b, eq_b, eq_b]
 by_cases hh : CoP a0 a1 ∧ CoP b0 b1 ∧ CoP c0 c1 ∧ CoP d0 d1
 ·rw [if_pos (decide_eq_true hh)]
  obtain ⟨ha, hb, hc, hd⟩ := hh
  rw [ro_f ha hb hc, Option.bind_some]
  by_cases g : 0 < ar a0 a1 b0 b1 c0 c1
  ·rw [if_pos ((sign_pos _).2 g)]
   by_cases g1 : d0 = a0 ∧ d1 = a1
   ·rw [if_pos (decide_eq_true g1)]; exact no (fa (fun q => q.2.2.2.1 g1))
   rw [if_neg (by rw [decide_eq_true_eq]; exact g1)]
   by_cases g2 : d0 = b0 ∧ d1 = b1
   ·rw [if_pos (decide_eq_true g2)]; exact no (fa (fun q => q.2.2.2.2.1 g2))
   rw [if_neg (by rw [decide_eq_true_eq]; exact g2)]
   by_cases g3 : d0 = c0 ∧ d1 = c1
   ·rw [decide_eq_true g3]; exact no (fa (fun q => q.2.2.2.2.2 g3))
   rw [decide_eq_false g3, rj0 ha hb hc hd g g1 g2 g3, co_does ha hb hc hd g g1 g2 g3]
  ·rw [if_neg (fun e => g ((sign_pos _).1 e))]
   exact no (fa (fun q => g q.2.2.1))
 ·rw [if_neg (by rw [decide_eq_true_eq]; exact hh)]
  exact no (fa (fun q => hh ⟨q.2.1.1, q.2.1.2.1, q.2.1.2.2, q.1⟩))
theorem i64_of {n : Int} (h : (Lit.int .i64 n).wf = true) : I64 n := by have := bounds_i64 h; omega
end Go.Proofs.Ytlkngfidohiepaa.Tl
end
section
namespace Go.Proofs.Ytlkngfidohiepaa.F
open Go.RowKit Go.Proofs.YtlkngfidohiepaaW.PrintWords Go.Proofs.YtlkngfidohiepaaW.PrintLast Go.Proofs.YtlkngfidohiepaaW.PrintMore
attribute [local go_sem] max2_int min2_int max_two min_two max_three min_three max_four min_four
set_option linter.unusedVariables false
set_option linter.unusedSimpArgs false
def zelligelaw08_TieConflicts.f (k : Nat) (a0_0 : Int) (a0_1 : Int) (a0_2 : Int) (a0_3 : Int) (a0_4 : Int) (a0_5 : Int) (a1_0 : Int) (a1_1 : Int) : Option (Bool) := (tie_Conflict.f k a0_0 a0_1 a0_2 a0_3 a0_4 a0_5 a1_0 a1_1).bind fun t542 => ((zelligeref08_Conflict.f k a0_0 a0_1 a0_2 a0_3 a0_4 a0_5 a1_0 a1_1).bind fun t543 => (if (t542 == t543) = true then ((zelligelaw08_lives.f k).bind fun t544 => (some t544)) else (some false)))
theorem zelligelaw08_TieConflicts.mono : ∀ a0 a1 a2 a3 a4 a5 a6 a7 k, LeO (zelligelaw08_TieConflicts.f k a0 a1 a2 a3 a4 a5 a6 a7) (zelligelaw08_TieConflicts.f (k + 1) a0 a1 a2 a3 a4 a5 a6 a7) := by
 intro a0 a1 a2 a3 a4 a5 a6 a7 k
 unfold zelligelaw08_TieConflicts.f
 repeat' first
   | (with_reducible exact tie_Conflict.mono _ _ _ _ _ _ _ _ _)
   | (with_reducible exact zelligelaw08_lives.mono _)
   | (with_reducible exact zelligeref08_Conflict.mono _ _ _ _ _ _ _ _ _)
   | (with_reducible exact LeO.refl _)
   | (with_reducible exact LeO.none _)
   | (with_reducible refine LeO.ite ?_ ?_)
   | (with_reducible refine LeO.bind ?_ (fun _ => ?_))
   | exact tie_Conflict.mono _ _ _ _ _ _ _ _ _
   | exact zelligelaw08_lives.mono _
   | exact zelligeref08_Conflict.mono _ _ _ _ _ _ _ _ _
   | exact LeO.none _
   | refine LeO.ite ?_ ?_
   | refine LeO.bind ?_ (fun _ => ?_)
def zelligelaw08_TieConflicts.T1 : Bool × List (List Nat × List Nat) := (true, [([], []), ([0], [0]), ([], []), ([2], [2]), ([], []), ([4], [4]), ([], []), ([1, 3, 5, 6], [1, 3, 5, 6]), ([], []), ([8], [8]), ([], []), ([10], [10]), ([], []), ([12], [12]), ([], []), ([9, 11, 13, 14, 7], [9, 11, 13, 14]), ([7, 15], [7, 15]), ([16, 15], [16]), ([17, 17], [17]), ([17, 18], [17, 18]), ([19, 18, 0, 1, 2, 3, 4, 5, 6, 7, 8, 9, 10, 11, 12, 13, 14, 15, 16, 17, 18, 19], [19])])
def zelligelaw08_TieConflicts.B1 : List Nat := [0, 1, 0, 4, 0, 16, 0, 127, 0, 256, 0, 1024, 0, 4096, 0, 32767, 65535, 131071, 262143, 524287, 1048575]
theorem zelligelaw08_TieConflicts.tab1 : rtab .any (opsOf Try.f3 1) = zelligelaw08_TieConflicts.T1 := by kernel_rfl
theorem zelligelaw08_TieConflicts.bits1 : waitsOk zelligelaw08_TieConflicts.T1.2 zelligelaw08_TieConflicts.B1 = true := by kernel_rfl
set_option maxHeartbeats 8000000 in
set_option maxRecDepth 100000 in
theorem zelligelaw08_TieConflicts.calls (k : Nat) (a0_0 : Int) (a0_1 : Int) (a0_2 : Int) (a0_3 : Int) (a0_4 : Int) (a0_5 : Int) (a1_0 : Int) (a1_1 : Int) (w : World) (h : zelligelaw08_TieConflicts.f k a0_0 a0_1 a0_2 a0_3 a0_4 a0_5 a1_0 a1_1 = some true) :
  Calls Try.prog 3 #[.agg #[.int .i64 a0_0, .int .i64 a0_1, .int .i64 a0_2, .int .i64 a0_3, .int .i64 a0_4, .int .i64 a0_5], .agg #[.int .i64 a1_0, .int .i64 a1_1]] w fun e w' => e = .returned (.bool true) ∧ Below w.heap.size w w' := by
 have hu24 := Try.underlying24
 have hu23 := Try.underlying23
 have HB := Aside0.mk (Below.refl w.heap.size w)
 have H : ((tie_Conflict.f k a0_0 a0_1 a0_2 a0_3 a0_4 a0_5 a1_0 a1_1).bind fun t542 => ((zelligeref08_Conflict.f k a0_0 a0_1 a0_2 a0_3 a0_4 a0_5 a1_0 a1_1).bind fun t543 => (if (t542 == t543) = true then ((zelligelaw08_lives.f k).bind fun t544 => (some t544)) else (some false)))) = some true := h
 clear h
 replace H := Option.bind_eq_some_iff.mp H
 obtain ⟨t542, A30, H⟩ := H
 replace H : ((zelligeref08_Conflict.f k a0_0 a0_1 a0_2 a0_3 a0_4 a0_5 a1_0 a1_1).bind fun t543 => (if (t542 == t543) = true then ((zelligelaw08_lives.f k).bind fun t544 => (some t544)) else (some false))) = some true := H
 have A3 := Aside0.mk A30
 clear A30
 replace H := Option.bind_eq_some_iff.mp H
 obtain ⟨t543, A40, H⟩ := H
 replace H : (if (t542 == t543) = true then ((zelligelaw08_lives.f k).bind fun t544 => (some t544)) else (some false)) = some true := H
 have A4 := Aside0.mk A40
 clear A40
 by_cases c5 : (t542 == t543) = true
 ·rw [if_pos c5] at H
  have c5b0 : (t542 == t543) = true := c5
  (try (have c5b1 : decide (t542 = t543) = true := by simpa using c5))
  (try (have c5b2 : (t542 == t543) = true := by simpa using c5))
  clear c5
  replace H := Option.bind_eq_some_iff.mp H
  obtain ⟨t544, A60, H⟩ := H
  replace H : (some t544) = some true := H
  have A6 := Aside0.mk A60
  clear A60
  obtain rfl := Option.some.inj H
  go_enter Try.func3, Try.ntmps3
  try go_wp2_with (first | ((with_reducible refine gate_dst (N := 2) rfl ?_); refine box_event ?hg (N := 2) ?hd (cs := #[.int .i64 a0_0, .int .i64 a0_1, .int .i64 a0_2, .int .i64 a0_3, .int .i64 a0_4, .int .i64 a0_5]) (t := 24) ?hr ?_; (case hd => rfl); (case hg => rfl); (case hr => first | (go_simp; done) | (go_simp; rfl)); intro gb540 hg w7 hbox hb; have BK540 := Aside0.mk hbox; have GW540 := u3 hg HB; have GE540 := u3 hg HB; replace HB := u2 HB hb; clear hb hbox hg) | ((with_reducible refine gate_dst (N := 3) rfl ?_); refine box_event ?hg (N := 3) ?hd (cs := #[.int .i64 a1_0, .int .i64 a1_1]) (t := 23) ?hr ?_; (case hd => rfl); (case hg => rfl); (case hr => first | (go_simp; done) | (go_simp; rfl)); intro gb541 hg w8 hbox hb; have BK541 := Aside0.mk hbox; have GW541 := u3 hg HB; have GE541 := u3 hg HB; have NB540_541 := u4 hg BK540; have NB541_540 := u5 hg BK540; replace BK540 := u1 BK540 hb; replace HB := u2 HB hb; clear hb hbox hg))
  have n0_ := Aside0.mk (blk_drew BK540.out)
  have n1_ := Aside0.mk (blk_drew BK541.out)
  have n2_ := Aside0.mk (below_drew1 HB.out)
  clear BK540
  clear BK541
  clear HB
  have BK540 := n0_
  have BK541 := n1_
  have HB := n2_
  clear n0_ n1_ n2_
  refine start_ (n := 21) (S := fun w' => w'.cell? ⟨gb540, 0, none⟩ = some (.int .i64 a0_0) ∧ w'.cell? ⟨gb540, 1, none⟩ = some (.int .i64 a0_1) ∧ w'.cell? ⟨gb540, 2, none⟩ = some (.int .i64 a0_2) ∧ w'.cell? ⟨gb540, 3, none⟩ = some (.int .i64 a0_3) ∧ w'.cell? ⟨gb540, 4, none⟩ = some (.int .i64 a0_4) ∧ w'.cell? ⟨gb540, 5, none⟩ = some (.int .i64 a0_5) ∧ w'.cell? ⟨gb541, 0, none⟩ = some (.int .i64 a1_0) ∧ w'.cell? ⟨gb541, 1, none⟩ = some (.int .i64 a1_1)) (ds := []) #[false, false, false, false, false, false, false, false, false, false, false, false, false, false, false, false, false, false, false, false, false] (by kernel_rfl) rfl rfl ⟨(blk_cell BK540.out 0).trans rfl, (blk_cell BK540.out 1).trans rfl, (blk_cell BK540.out 2).trans rfl, (blk_cell BK540.out 3).trans rfl, (blk_cell BK540.out 4).trans rfl, (blk_cell BK540.out 5).trans rfl, (blk_cell BK541.out 0).trans rfl, (blk_cell BK541.out 1).trans rfl⟩ (fun hHeld => ?_); refine with_tabW zelligelaw08_TieConflicts.tab1 zelligelaw08_TieConflicts.bits1 (fun HT_ HW_ => ?_)
  generalize w8.drew = w9 at BK540 BK541 HB hHeld ⊢
  refine pure_ (i := 0) (N := some 5) (v := ?_) (a' := ?_) #[true, false, false, false, false, false, false, false, false, false, false, false, false, false, false, false, false, false, false, false, false] rfl rfl (any_of HT_.out (by kernel_rfl)) (fun _ _ _ h => h) (Or.inl ⟨by rfl, ?_⟩) ?_ ?_
  rotate_left
  ·intro w'
   go_simp
   with_reducible rfl
  rotate_left
  ·simp only [Act.put, List.setIfInBounds_toArray, List.set_cons_zero, List.set_cons_succ, i64_w, i32_w]
   rfl
  refine pure_ (i := 2) (N := some 7) (v := ?_) (a' := ?_) #[true, false, true, false, false, false, false, false, false, false, false, false, false, false, false, false, false, false, false, false, false] rfl rfl (any_of HT_.out (by kernel_rfl)) (fun _ _ _ h => h) (Or.inl ⟨by rfl, ?_⟩) ?_ ?_
  rotate_left
  ·intro w'
   go_simp
   with_reducible rfl
  rotate_left
  ·simp only [Act.put, List.setIfInBounds_toArray, List.set_cons_zero, List.set_cons_succ, i64_w, i32_w]
   rfl
  refine pure_ (i := 4) (N := some 9) (v := ?_) (a' := ?_) #[true, false, true, false, true, false, false, false, false, false, false, false, false, false, false, false, false, false, false, false, false] rfl rfl (any_of HT_.out (by kernel_rfl)) (fun _ _ _ h => h) (Or.inl ⟨by rfl, ?_⟩) ?_ ?_
  rotate_left
  ·intro w'
   go_simp
   with_reducible rfl
  rotate_left
  ·simp only [Act.put, List.setIfInBounds_toArray, List.set_cons_zero, List.set_cons_succ, i64_w, i32_w]
   rfl
  refine pure_ (i := 8) (N := some 13) (v := ?_) (a' := ?_) #[true, false, true, false, true, false, false, false, true, false, false, false, false, false, false, false, false, false, false, false, false] rfl rfl (any_of HT_.out (by kernel_rfl)) (fun _ _ _ h => h) (Or.inl ⟨by rfl, ?_⟩) ?_ ?_
  rotate_left
  ·intro w'
   go_simp
   with_reducible rfl
  rotate_left
  ·simp only [Act.put, List.setIfInBounds_toArray, List.set_cons_zero, List.set_cons_succ, i64_w, i32_w]
   rfl
  refine pure_ (i := 10) (N := some 15) (v := ?_) (a' := ?_) #[true, false, true, false, true, false, false, false, true, false, true, false, false, false, false, false, false, false, false, false, false] rfl rfl (any_of HT_.out (by kernel_rfl)) (fun _ _ _ h => h) (Or.inl ⟨by rfl, ?_⟩) ?_ ?_
  rotate_left
  ·intro w'
   go_simp
   with_reducible rfl
  rotate_left
  ·simp only [Act.put, List.setIfInBounds_toArray, List.set_cons_zero, List.set_cons_succ, i64_w, i32_w]
   rfl
  refine pure_ (i := 12) (N := some 17) (v := ?_) (a' := ?_) #[true, false, true, false, true, false, false, false, true, false, true, false, true, false, false, false, false, false, false, false, false] rfl rfl (any_of HT_.out (by kernel_rfl)) (fun _ _ _ h => h) (Or.inl ⟨by rfl, ?_⟩) ?_ ?_
  rotate_left
  ·intro w'
   go_simp
   with_reducible rfl
  rotate_left
  ·simp only [Act.put, List.setIfInBounds_toArray, List.set_cons_zero, List.set_cons_succ, i64_w, i32_w]
   rfl
  refine take_ (i := 1) (N := some 6) (v := ?_) (a' := ?_) #[true, true, true, false, true, false, false, false, true, false, true, false, true, false, false, false, false, false, false, false, false] rfl rfl (take_ofW HT_.out HW_.out (by kernel_rfl)) (fun _ _ _ h => h) (Or.inl ⟨by rfl, ?_⟩) hHeld ?_ ?_
  rotate_left
  ·rintro w' ⟨s0, s1, s2, s3, s4, s5, s6, s7⟩
   go_simp
   with_reducible rfl
  rotate_left
  ·simp only [Act.put, List.setIfInBounds_toArray, List.set_cons_zero, List.set_cons_succ, i64_w, i32_w]
   rfl
  refine take_ (i := 3) (N := some 8) (v := ?_) (a' := ?_) #[true, true, true, true, true, false, false, false, true, false, true, false, true, false, false, false, false, false, false, false, false] rfl rfl (take_ofW HT_.out HW_.out (by kernel_rfl)) (fun _ _ _ h => h) (Or.inl ⟨by rfl, ?_⟩) hHeld ?_ ?_
  rotate_left
  ·rintro w' ⟨s0, s1, s2, s3, s4, s5, s6, s7⟩
   go_simp
   with_reducible rfl
  rotate_left
  ·simp only [Act.put, List.setIfInBounds_toArray, List.set_cons_zero, List.set_cons_succ, i64_w, i32_w]
   rfl
  refine take_ (i := 5) (N := some 10) (v := ?_) (a' := ?_) #[true, true, true, true, true, true, false, false, true, false, true, false, true, false, false, false, false, false, false, false, false] rfl rfl (take_ofW HT_.out HW_.out (by kernel_rfl)) (fun _ _ _ h => h) (Or.inl ⟨by rfl, ?_⟩) hHeld ?_ ?_
  rotate_left
  ·rintro w' ⟨s0, s1, s2, s3, s4, s5, s6, s7⟩
   go_simp
   with_reducible rfl
  rotate_left
  ·simp only [Act.put, List.setIfInBounds_toArray, List.set_cons_zero, List.set_cons_succ, i64_w, i32_w]
   rfl
  refine take_ (i := 6) (N := some 11) (v := ?_) (a' := ?_) #[true, true, true, true, true, true, true, false, true, false, true, false, true, false, false, false, false, false, false, false, false] rfl rfl (take_ofW HT_.out HW_.out (by kernel_rfl)) (fun _ _ _ h => h) (Or.inl ⟨by rfl, ?_⟩) hHeld ?_ ?_
  rotate_left
  ·rintro w' ⟨s0, s1, s2, s3, s4, s5, s6, s7⟩
   go_simp
   with_reducible rfl
  rotate_left
  ·simp only [Act.put, List.setIfInBounds_toArray, List.set_cons_zero, List.set_cons_succ, i64_w, i32_w]
   rfl
  refine take_ (i := 9) (N := some 14) (v := ?_) (a' := ?_) #[true, true, true, true, true, true, true, false, true, true, true, false, true, false, false, false, false, false, false, false, false] rfl rfl (take_ofW HT_.out HW_.out (by kernel_rfl)) (fun _ _ _ h => h) (Or.inl ⟨by rfl, ?_⟩) hHeld ?_ ?_
  rotate_left
  ·rintro w' ⟨s0, s1, s2, s3, s4, s5, s6, s7⟩
   go_simp
   with_reducible rfl
  rotate_left
  ·simp only [Act.put, List.setIfInBounds_toArray, List.set_cons_zero, List.set_cons_succ, i64_w, i32_w]
   rfl
  refine take_ (i := 11) (N := some 16) (v := ?_) (a' := ?_) #[true, true, true, true, true, true, true, false, true, true, true, true, true, false, false, false, false, false, false, false, false] rfl rfl (take_ofW HT_.out HW_.out (by kernel_rfl)) (fun _ _ _ h => h) (Or.inl ⟨by rfl, ?_⟩) hHeld ?_ ?_
  rotate_left
  ·rintro w' ⟨s0, s1, s2, s3, s4, s5, s6, s7⟩
   go_simp
   with_reducible rfl
  rotate_left
  ·simp only [Act.put, List.setIfInBounds_toArray, List.set_cons_zero, List.set_cons_succ, i64_w, i32_w]
   rfl
  refine take_ (i := 13) (N := some 18) (v := ?_) (a' := ?_) #[true, true, true, true, true, true, true, false, true, true, true, true, true, true, false, false, false, false, false, false, false] rfl rfl (take_ofW HT_.out HW_.out (by kernel_rfl)) (fun _ _ _ h => h) (Or.inl ⟨by rfl, ?_⟩) hHeld ?_ ?_
  rotate_left
  ·rintro w' ⟨s0, s1, s2, s3, s4, s5, s6, s7⟩
   go_simp
   with_reducible rfl
  rotate_left
  ·simp only [Act.put, List.setIfInBounds_toArray, List.set_cons_zero, List.set_cons_succ, i64_w, i32_w]
   rfl
  refine take_ (i := 14) (N := some 19) (v := ?_) (a' := ?_) #[true, true, true, true, true, true, true, false, true, true, true, true, true, true, true, false, false, false, false, false, false] rfl rfl (take_ofW HT_.out HW_.out (by kernel_rfl)) (fun _ _ _ h => h) (Or.inl ⟨by rfl, ?_⟩) hHeld ?_ ?_
  rotate_left
  ·rintro w' ⟨s0, s1, s2, s3, s4, s5, s6, s7⟩
   go_simp
   with_reducible rfl
  rotate_left
  ·simp only [Act.put, List.setIfInBounds_toArray, List.set_cons_zero, List.set_cons_succ, i64_w, i32_w]
   rfl
  refine one_ (i := 7) (N := some 12) #[true, true, true, true, true, true, true, true, true, true, true, true, true, true, true, false, false, false, false, false, false] rfl rfl (one_of HT_.out (by kernel_rfl)) (by decide) (fun K hK => ?_)
  refine goes_ Try.func8 (by kernel_rfl) rfl #[.agg #[.int .i64 a0_0, .int .i64 a0_1], .agg #[.int .i64 a0_2, .int .i64 a0_3], .agg #[.int .i64 a0_4, .int .i64 a0_5], .agg #[.int .i64 a1_0, .int .i64 a1_1]] (by rfl) rfl rfl (by (try simp only [List.map_toArray, List.map_cons, List.map_nil]); first | done | rfl | (simp only [List.length_drop, List.length_take]; rfl)) ?_
  with_reducible refine (tie_Conflict.calls k a0_0 a0_1 a0_2 a0_3 a0_4 a0_5 a1_0 a1_1 t542 _ A3.out).mono ?_
  rintro e w10 ⟨rfl, hb⟩
  refine ⟨_, rfl, ?_⟩
  have n0_ := Aside0.mk (blk_below (bk BK540.out) hb)
  have n1_ := Aside0.mk (blk_below (bk BK541.out) hb)
  have n2_ := Aside0.mk (below_step (bw HB.out) hb)
  clear BK540
  clear BK541
  clear HB
  have BK540 := n0_
  have BK541 := n1_
  have HB := n2_
  clear n0_ n1_ n2_
  (try clear hb)
  (try clear hb2)
  (try clear hk)
  (try clear hi)
  refine hK.out _ _ ⟨(blk_cell BK540.out 0).trans rfl, (blk_cell BK540.out 1).trans rfl, (blk_cell BK540.out 2).trans rfl, (blk_cell BK540.out 3).trans rfl, (blk_cell BK540.out 4).trans rfl, (blk_cell BK540.out 5).trans rfl, (blk_cell BK541.out 0).trans rfl, (blk_cell BK541.out 1).trans rfl⟩ (fun hHeld => ?_)
  clear hK K
  refine norm_ (a' := ?_) ?_ ?_
  rotate_left
  ·show Act.put _ (some 12) _ = _
   simp only [Act.put, List.setIfInBounds_toArray, List.set_cons_zero, List.set_cons_succ, i64_w, i32_w]
   rfl
  refine one_ (i := 15) (N := some 20) #[true, true, true, true, true, true, true, true, true, true, true, true, true, true, true, true, false, false, false, false, false] rfl rfl (one_of HT_.out (by kernel_rfl)) (by decide) (fun K hK => ?_)
  refine goes_ Try.func9 (by kernel_rfl) rfl #[.agg #[.int .i64 a0_0, .int .i64 a0_1], .agg #[.int .i64 a0_2, .int .i64 a0_3], .agg #[.int .i64 a0_4, .int .i64 a0_5], .agg #[.int .i64 a1_0, .int .i64 a1_1]] (by rfl) rfl rfl (by (try simp only [List.map_toArray, List.map_cons, List.map_nil]); first | done | rfl | (simp only [List.length_drop, List.length_take]; rfl)) ?_
  with_reducible refine (zelligeref08_Conflict.calls k a0_0 a0_1 a0_2 a0_3 a0_4 a0_5 a1_0 a1_1 t543 _ A4.out).mono ?_
  rintro e w11 ⟨rfl, hb⟩
  refine ⟨_, rfl, ?_⟩
  have n0_ := Aside0.mk (blk_below (bk BK540.out) hb)
  have n1_ := Aside0.mk (blk_below (bk BK541.out) hb)
  have n2_ := Aside0.mk (below_step (bw HB.out) hb)
  clear BK540
  clear BK541
  clear HB
  have BK540 := n0_
  have BK541 := n1_
  have HB := n2_
  clear n0_ n1_ n2_
  (try clear hb)
  (try clear hb2)
  (try clear hk)
  (try clear hi)
  refine hK.out _ _ ⟨(blk_cell BK540.out 0).trans rfl, (blk_cell BK540.out 1).trans rfl, (blk_cell BK540.out 2).trans rfl, (blk_cell BK540.out 3).trans rfl, (blk_cell BK540.out 4).trans rfl, (blk_cell BK540.out 5).trans rfl, (blk_cell BK541.out 0).trans rfl, (blk_cell BK541.out 1).trans rfl⟩ (fun hHeld => ?_)
  clear hK K
  refine norm_ (a' := ?_) ?_ ?_
  rotate_left
  ·show Act.put _ (some 20) _ = _
   simp only [Act.put, List.setIfInBounds_toArray, List.set_cons_zero, List.set_cons_succ, i64_w, i32_w]
   rfl
  refine pure_ (i := 16) (N := some 21) (v := ?_) (a' := ?_) #[true, true, true, true, true, true, true, true, true, true, true, true, true, true, true, true, true, false, false, false, false] rfl rfl (any_of HT_.out (by kernel_rfl)) (fun _ _ _ h => h) (Or.inl ⟨by rfl, ?_⟩) ?_ ?_
  rotate_left
  ·intro w'
   go_simp
   with_reducible rfl
  rotate_left
  ·simp only [Act.put, List.setIfInBounds_toArray, List.set_cons_zero, List.set_cons_succ, i64_w, i32_w]
   rfl
  refine pure_ (i := 17) (N := some 22) (v := ?_) (a' := ?_) #[true, true, true, true, true, true, true, true, true, true, true, true, true, true, true, true, true, true, false, false, false] rfl rfl (any_of HT_.out (by kernel_rfl)) (fun _ _ _ h => h) (Or.inl ⟨by rfl, ?_⟩) ?_ ?_
  rotate_left
  ·intro w'
   go_simp
   with_reducible rfl
  rotate_left
  ·simp only [Act.put, List.setIfInBounds_toArray, List.set_cons_zero, List.set_cons_succ, i64_w, i32_w]
   rfl
  refine one_ (i := 18) (N := some 23) #[true, true, true, true, true, true, true, true, true, true, true, true, true, true, true, true, true, true, true, false, false] rfl rfl (one_of HT_.out (by kernel_rfl)) (by decide) (fun K hK => ?_)
  refine goes_ Try.func10 (by kernel_rfl) rfl #[] (by rfl) rfl rfl (by (try simp only [List.map_toArray, List.map_cons, List.map_nil]); first | done | rfl | (simp only [List.length_drop, List.length_take]; rfl)) ?_
  with_reducible refine (zelligelaw08_lives.calls k  true _ A6.out).mono ?_
  rintro e w12 ⟨rfl, hb⟩
  refine ⟨_, rfl, ?_⟩
  have n0_ := Aside0.mk (blk_below (bk BK540.out) hb)
  have n1_ := Aside0.mk (blk_below (bk BK541.out) hb)
  have n2_ := Aside0.mk (below_step (bw HB.out) hb)
  clear BK540
  clear BK541
  clear HB
  have BK540 := n0_
  have BK541 := n1_
  have HB := n2_
  clear n0_ n1_ n2_
  (try clear hb)
  (try clear hb2)
  (try clear hk)
  (try clear hi)
  refine hK.out _ _ ⟨(blk_cell BK540.out 0).trans rfl, (blk_cell BK540.out 1).trans rfl, (blk_cell BK540.out 2).trans rfl, (blk_cell BK540.out 3).trans rfl, (blk_cell BK540.out 4).trans rfl, (blk_cell BK540.out 5).trans rfl, (blk_cell BK541.out 0).trans rfl, (blk_cell BK541.out 1).trans rfl⟩ (fun hHeld => ?_)
  clear hK K
  refine norm_ (a' := ?_) ?_ ?_
  rotate_left
  ·show Act.put _ (some 23) _ = _
   simp only [Act.put, List.setIfInBounds_toArray, List.set_cons_zero, List.set_cons_succ, i64_w, i32_w]
   rfl
  refine pure_ (i := 19) (N := some 24) (v := ?_) (a' := ?_) #[true, true, true, true, true, true, true, true, true, true, true, true, true, true, true, true, true, true, true, true, false] rfl rfl (any_of HT_.out (by kernel_rfl)) (fun _ _ _ h => h) (Or.inl ⟨by rfl, ?_⟩) ?_ ?_
  rotate_left
  ·intro w'
   go_simp
   with_reducible rfl
  rotate_left
  ·simp only [Act.put, List.setIfInBounds_toArray, List.set_cons_zero, List.set_cons_succ, i64_w, i32_w]
   rfl
  refine pure_ (i := 20) (N := some 4) (v := ?_) (a' := ?_) #[true, true, true, true, true, true, true, true, true, true, true, true, true, true, true, true, true, true, true, true, true] rfl rfl (any_of HT_.out (by kernel_rfl)) (fun _ _ _ h => h) (Or.inl ⟨by rfl, ?_⟩) ?_ ?_
  rotate_left
  ·intro w'
   go_simp
   with_reducible rfl
  rotate_left
  ·simp only [Act.put, List.setIfInBounds_toArray, List.set_cons_zero, List.set_cons_succ, i64_w, i32_w]
   rfl
  refine done_ (done_of HT_.out (by kernel_rfl)) ?_
  try go_wp2
  go_ret
  exact ⟨by first | rfl | (simp [*, errW_none, errW_some] <;> rfl), bw HB.out⟩
 ·rw [if_neg c5] at H
  have c5b0 : (t542 == t543) = false := by simpa using c5
  (try (have c5b1 : decide (t542 = t543) = false := by simpa using c5))
  (try (have c5b2 : (t542 == t543) = false := by simpa using c5))
  (try (have c5b3 : ¬ (t542 = t543) := by simpa using c5))
  clear c5
  exact absurd (Option.some.inj H) (by decide)
end Go.Proofs.Ytlkngfidohiepaa.F
end
section
namespace Go.Proofs.Ytlkngfidohiepaa.Tl
open Go Go.RowKit Go.Proofs.YtlkngfidohiepaaW.PrintWords Go.Proofs.Ytlkngfidohiepaa.F Go.Proofs.Ytlkngfidohiepaa.Wd Go.Proofs.Ytlkngfidohiepaa.Pm Go.Proofs.Ytlkngfidohiepaa.Pd Go.Proofs.Ytlkngfidohiepaa.Tm
set_option linter.unusedVariables false
theorem confs_f {a0 a1 b0 b1 c0 c1 d0 d1 : Int} (Ha : I64 a0 ∧ I64 a1) (Hb : I64 b0 ∧ I64 b1) (Hc : I64 c0 ∧ I64 c1) (Hd : I64 d0 ∧ I64 d1) {k : Nat} (hk : 2010 ≤ k) : zelligelaw08_TieConflicts.f (k + 2) a0 a1 b0 b1 c0 c1 d0 d1 = some true := by
 unfold zelligelaw08_TieConflicts.f
 rw [Conflict_f _ _ _ _ _ _ _ _ (by omega), Option.bind_some, rConflict_f Ha Hb Hc Hd, Option.bind_some, if_pos (beq_self_eq_true _), lives_true (by omega)]
 rfl
theorem confs_calls (a0_0 a0_1 a0_2 a0_3 a0_4 a0_5 a1_0 a1_1 : Int) (w : World) (h0_0 : (Lit.int .i64 a0_0).wf = true) (h0_1 : (Lit.int .i64 a0_1).wf = true) (h0_2 : (Lit.int .i64 a0_2).wf = true) (h0_3 : (Lit.int .i64 a0_3).wf = true) (h0_4 : (Lit.int .i64 a0_4).wf = true) (h0_5 : (Lit.int .i64 a0_5).wf = true) (h1_0 : (Lit.int .i64 a1_0).wf = true) (h1_1 : (Lit.int .i64 a1_1).wf = true) :
  Calls Try.prog 3 #[.agg #[.int .i64 a0_0, .int .i64 a0_1, .int .i64 a0_2, .int .i64 a0_3, .int .i64 a0_4, .int .i64 a0_5], .agg #[.int .i64 a1_0, .int .i64 a1_1]] w fun e w' => e = .returned (.bool true) ∧ Below w.heap.size w w' :=
 zelligelaw08_TieConflicts.calls 3002 _ _ _ _ _ _ _ _ w (confs_f ⟨i64_of h0_0, i64_of h0_1⟩ ⟨i64_of h0_2, i64_of h0_3⟩ ⟨i64_of h0_4, i64_of h0_5⟩ ⟨i64_of h1_0, i64_of h1_1⟩ (by omega))
end Go.Proofs.Ytlkngfidohiepaa.Tl
end
section
namespace Go.Proofs.Ytlkngfidohiepaa.RK
open Go Go.ChangeShapes Go.WideShapes Go.ChangeAt Go.RowKit Go.WideElems Go.Maps Go.Deep
variable {H : Type} {enc : TypeId × Value → H} {P : Program}
theorem okWide_array {k e : TypeId} {n : Nat} (hu : P.underlying k = some (.array n e)) {W : World} {r : Reach} {b0 : Nat} {v : Value} (h : Value.okWide P W r b0 k v) : ∃ cs : Array Value, v = .agg cs ∧ cs.size = P.cellsOf k := by
 simp only [Value.okWide, hu] at h
 obtain ⟨cs, h1, h2, _⟩ := h
 exact ⟨cs, h1, h2⟩
theorem list6 {α : Type} {l : List α} (h : l.length = 6) : ∃ a b c d e f, l = [a, b, c, d, e, f] := by
 match l, h with
 | [a, b, c, d, e, f], _ => exact ⟨a, b, c, d, e, f, rfl⟩
theorem cells_two {w : World} {sp : Nat → Bool} {held : Bool} {base fuel : Nat} {e : TypeId} {f0 f1 : Field} {k0 k1 : IntKind} {v0 v1 : Value} {x : DataW H × List MemPlace} (hs : P.underlying e = some (.struct #[f0, f1]))
  (o0 : f0.offset = 0) (o1 : f1.offset = 1) (s0 : P.cellsOf f0.type = 1) (s1 : P.cellsOf f1.type = 1) (h0 : P.underlying f0.type = some (.int k0)) (h1 : P.underlying f1.type = some (.int k1)) (h : DataW.trod enc P w base sp held fuel e [v0, v1] = some x) :
  ∃ a b : Int, v0 = .int k0 a ∧ v1 = .int k1 b ∧ (Lit.int k0 a).wf = true ∧ (Lit.int k1 b).wf = true := by
 obtain ⟨y0, y1, n, _, _, g0, g1⟩ := trod_struct2 hs h
 rw [o0, s0] at g0
 rw [o1, s1] at g1
 obtain ⟨a, ea, _, wa⟩ := DataW.trod_int h0 g0
 obtain ⟨b, eb, _, wb⟩ := DataW.trod_int h1 g1
 simp at ea eb
 exact ⟨a, b, ea, eb, wa, wb⟩
theorem open_pairs3 {w : World} {sp : Nat → Bool} {held : Bool} {r : Reach} {b0 base : Nat} {t e : TypeId} {f0 f1 : Field} {k0 k1 : IntKind} {v : Value} {d : DataW H} {p : List MemPlace} (hu : P.underlying t = some (.array 3 e)) (hs : P.underlying e = some (.struct #[f0, f1]))
  (o0 : f0.offset = 0) (o1 : f1.offset = 1) (s0 : P.cellsOf f0.type = 1) (s1 : P.cellsOf f1.type = 1) (h0 : P.underlying f0.type = some (.int k0)) (h1 : P.underlying f1.type = some (.int k1)) (two : P.cellsOf e = 2) (size : P.cellsOf t = 6)
  (hv : Value.okWide P w r b0 t v) (h : DataW.Trod enc P w base sp held t v d p) :
  ∃ a b a' b' a'' b'' : Int, v = .agg #[.int k0 a, .int k1 b, .int k0 a', .int k1 b', .int k0 a'', .int k1 b''] ∧ (Lit.int k0 a).wf = true ∧ (Lit.int k1 b).wf = true ∧ (Lit.int k0 a').wf = true ∧ (Lit.int k1 b').wf = true ∧ (Lit.int k0 a'').wf = true ∧ (Lit.int k1 b'').wf = true := by
 obtain ⟨cs, rfl, hsz⟩ := okWide_array hu hv
 obtain ⟨l⟩ := cs
 obtain ⟨c0, c1, c2, c3, c4, c5, rfl⟩ := list6 (hsz.trans size)
 obtain ⟨fuel, hf⟩ := h
 cases fuel with
 | zero => simp [DataW.trod] at hf
 | succ n =>
  rw [DataW.trod_step] at hf
  unfold DataW.trodStep at hf
  simp only [hu, Value.cells] at hf
  rw [if_pos (by rw [size]; rfl)] at hf
  simp only [Option.map_eq_some_iff] at hf
  obtain ⟨xs, hx, e1⟩ := hf
  rw [show List.range 3 = [0, 1, 2] from rfl, List.mapM_cons, List.mapM_cons, List.mapM_cons, List.mapM_nil] at hx
  simp only [bind, Option.bind_eq_some_iff, pure, Option.some.injEq, two] at hx
  obtain ⟨y0, g0, _, ⟨y1, g1, _, ⟨y2, g2, _, rfl, rfl⟩, rfl⟩, rfl⟩ := hx
  obtain ⟨a, b, rfl, rfl, wa, wb⟩ := cells_two hs o0 o1 s0 s1 h0 h1 g0
  obtain ⟨a', b', rfl, rfl, wa', wb'⟩ := cells_two hs o0 o1 s0 s1 h0 h1 g1
  obtain ⟨a'', b'', rfl, rfl, wa'', wb''⟩ := cells_two hs o0 o1 s0 s1 h0 h1 g2
  exact ⟨a, b, a', b', a'', b'', rfl, wa, wb, wa', wb', wa'', wb''⟩
end Go.Proofs.Ytlkngfidohiepaa.RK
end
