/- TieMoves: own texts in one (part 3 of 4): contracts of the functions that the law reaches. -/
import Derived.Test.YtlkngfidohiepaaBTieMovesb

section
namespace Go.Proofs.Ytlkngfidohiepaa.F
open RowKit YtlkngfidohiepaaW.PrintWords YtlkngfidohiepaaW.PrintLast YtlkngfidohiepaaW.PrintMore
set_option linter.unusedVariables false
set_option linter.unusedSimpArgs false
attribute [local go_sem high] eqA23
def tie_conflict.j0 : Nat → Bool → Int → Int → Int → Int → Int → Int → Int → Int → Option (Bool)
 | 0, _, _, _, _, _, _, _, _, _ => none
 | k + 1, x28, x244000, x244001, x245000, x245001, x246000, x246001, x247000, x247001 => if x28 = true then (some false) else ((pred_InCircle.f k x244000 x244001 x245000 x245001 x246000 x246001 x247000 x247001).bind fun t248 => (if t248 = 1 then (some true) else (if t248 = (-1) then (some false) else ((tie_last.f k (([(⟨x244000, x244001⟩ : S23), (⟨x245000, x245001⟩ : S23), (⟨x246000, x246001⟩ : S23), (⟨x247000, x247001⟩ : S23)] : List (S23)))).bind fun t252 => (if t252 = 0 then ((pred_Orient.f k x247000 x247001 x245000 x245001 x246000 x246001).bind fun t253 => (some (t253 == 1))) else (if t252 = 1 then ((pred_Orient.f k x244000 x244001 x247000 x247001 x246000 x246001).bind fun t254 => (some (t254 == 1))) else (if t252 = 2 then ((pred_Orient.f k x244000 x244001 x245000 x245001 x247000 x247001).bind fun t255 => (some (t255 == 1))) else (some false))))))))
def tie_conflict.f (k : Nat) (a0_0 : Int) (a0_1 : Int) (a1_0 : Int) (a1_1 : Int) (a2_0 : Int) (a2_1 : Int) (a3_0 : Int) (a3_1 : Int) : Option (Bool) := (pred_Orient.f k a0_0 a0_1 a1_0 a1_1 a2_0 a2_1).bind fun t247 => (if t247 = 1 then (if (a3_0 == a0_0 && (a3_1 == a0_1)) = true then (tie_conflict.j0 k true a0_0 a0_1 a1_0 a1_1 a2_0 a2_1 a3_0 a3_1) else (if (a3_0 == a1_0 && (a3_1 == a1_1)) = true then (tie_conflict.j0 k true a0_0 a0_1 a1_0 a1_1 a2_0 a2_1 a3_0 a3_1) else (tie_conflict.j0 k (a3_0 == a2_0 && (a3_1 == a2_1)) a0_0 a0_1 a1_0 a1_1 a2_0 a2_1 a3_0 a3_1))) else (tie_conflict.j0 k true a0_0 a0_1 a1_0 a1_1 a2_0 a2_1 a3_0 a3_1))
theorem tie_conflict.mono_l : ∀ k, (∀ y0 y1 y2 y3 y4 y5 y6 y7 y8, LeO (tie_conflict.j0 k y0 y1 y2 y3 y4 y5 y6 y7 y8) (tie_conflict.j0 (k + 1) y0 y1 y2 y3 y4 y5 y6 y7 y8))
 | 0 => fun _ _ _ _ _ _ _ _ _ r h => by simp [tie_conflict.j0] at h
 | k + 1 => by
  have ih0 := tie_conflict.mono_l k
  ·intro y0 y1 y2 y3 y4 y5 y6 y7 y8
   unfold tie_conflict.j0
   repeat' first
   | (with_reducible exact ih0 _ _ _ _ _ _ _ _ _)
   | (with_reducible exact pred_InCircle.mono _ _ _ _ _ _ _ _ _)
   | (with_reducible exact pred_Orient.mono _ _ _ _ _ _ _)
   | (with_reducible exact tie_last.mono _ _)
   | (with_reducible exact LeO.refl _)
   | (with_reducible exact LeO.none _)
   | (with_reducible refine LeO.ite ?_ ?_)
   | (with_reducible refine LeO.bind ?_ (fun _ => ?_))
   | exact ih0 _ _ _ _ _ _ _ _ _
   | exact pred_InCircle.mono _ _ _ _ _ _ _ _ _
   | exact pred_Orient.mono _ _ _ _ _ _ _
   | exact tie_last.mono _ _
   | exact LeO.none _
   | refine LeO.ite ?_ ?_
   | refine LeO.bind ?_ (fun _ => ?_)
theorem tie_conflict.mono : ∀ a0 a1 a2 a3 a4 a5 a6 a7 k, LeO (tie_conflict.f k a0 a1 a2 a3 a4 a5 a6 a7) (tie_conflict.f (k + 1) a0 a1 a2 a3 a4 a5 a6 a7) := by
 intro a0 a1 a2 a3 a4 a5 a6 a7 k
 have ih0 := tie_conflict.mono_l k
 unfold tie_conflict.f
 repeat' first
   | (with_reducible exact ih0 _ _ _ _ _ _ _ _ _)
   | (with_reducible exact pred_InCircle.mono _ _ _ _ _ _ _ _ _)
   | (with_reducible exact pred_Orient.mono _ _ _ _ _ _ _)
   | (with_reducible exact tie_last.mono _ _)
   | (with_reducible exact LeO.refl _)
   | (with_reducible exact LeO.none _)
   | (with_reducible refine LeO.ite ?_ ?_)
   | (with_reducible refine LeO.bind ?_ (fun _ => ?_))
   | exact ih0 _ _ _ _ _ _ _ _ _
   | exact pred_InCircle.mono _ _ _ _ _ _ _ _ _
   | exact pred_Orient.mono _ _ _ _ _ _ _
   | exact tie_last.mono _ _
   | exact LeO.none _
   | refine LeO.ite ?_ ?_
   | refine LeO.bind ?_ (fun _ => ?_)
set_option maxHeartbeats 8000000 in
set_option maxRecDepth 100000 in
theorem tie_conflict.calls (k : Nat) (a0_0 : Int) (a0_1 : Int) (a1_0 : Int) (a1_1 : Int) (a2_0 : Int) (a2_1 : Int) (a3_0 : Int) (a3_1 : Int) (r : Bool) (w : World) (h : tie_conflict.f k a0_0 a0_1 a1_0 a1_1 a2_0 a2_1 a3_0 a3_1 = some r) :
  Calls Try.prog 18 #[.agg #[.int .i64 a0_0, .int .i64 a0_1], .agg #[.int .i64 a1_0, .int .i64 a1_1], .agg #[.int .i64 a2_0, .int .i64 a2_1], .agg #[.int .i64 a3_0, .int .i64 a3_1]] w fun e w' => e = .returned (.bool r) ∧ Below w.heap.size w w' := by
 have hu23 := Try.underlying23
 have HB := Aside0.mk (Below.refl w.heap.size w)
 have H : ((pred_Orient.f k a0_0 a0_1 a1_0 a1_1 a2_0 a2_1).bind fun t247 => (if t247 = 1 then (if (a3_0 == a0_0 && (a3_1 == a0_1)) = true then (tie_conflict.j0 k true a0_0 a0_1 a1_0 a1_1 a2_0 a2_1 a3_0 a3_1) else (if (a3_0 == a1_0 && (a3_1 == a1_1)) = true then (tie_conflict.j0 k true a0_0 a0_1 a1_0 a1_1 a2_0 a2_1 a3_0 a3_1) else (tie_conflict.j0 k (a3_0 == a2_0 && (a3_1 == a2_1)) a0_0 a0_1 a1_0 a1_1 a2_0 a2_1 a3_0 a3_1))) else (tie_conflict.j0 k true a0_0 a0_1 a1_0 a1_1 a2_0 a2_1 a3_0 a3_1))) = some r := h
 clear h
 have HC5 := Aside0.mk H
 clear H
 go_enter Try.func18, Try.ntmps18
 go_upto_region 1 with (first | ((with_reducible refine gate_dst (N := 4) rfl ?_); refine bx 4 #[.int .i64 a0_0, .int .i64 a0_1] 23 ?_; intro gb243 hg w6 hbox hb; have BK243 := Aside0.mk hbox; have GW243 := u3 hg HB; have GE243 := u3 hg HB; replace HB := u2 HB hb; clear hb hbox hg) | ((with_reducible refine gate_dst (N := 5) rfl ?_); refine bx 5 #[.int .i64 a1_0, .int .i64 a1_1] 23 ?_; intro gb244 hg w7 hbox hb; have BK244 := Aside0.mk hbox; have GW244 := u3 hg HB; have GE244 := u3 hg HB; have NB243_244 := u4 hg BK243; have NB244_243 := u5 hg BK243; replace BK243 := u1 BK243 hb; replace HB := u2 HB hb; clear hb hbox hg) | ((with_reducible refine gate_dst (N := 6) rfl ?_); refine bx 6 #[.int .i64 a2_0, .int .i64 a2_1] 23 ?_; intro gb245 hg w8 hbox hb; have BK245 := Aside0.mk hbox; have GW245 := u3 hg HB; have GE245 := u3 hg HB; have NB243_245 := u4 hg BK243; have NB245_243 := u5 hg BK243; have NB244_245 := u4 hg BK244; have NB245_244 := u5 hg BK244; replace BK243 := u1 BK243 hb; replace BK244 := u1 BK244 hb; replace HB := u2 HB hb; clear hb hbox hg) | ((with_reducible refine gate_dst (N := 7) rfl ?_); refine bx 7 #[.int .i64 a3_0, .int .i64 a3_1] 23 ?_; intro gb246 hg w9 hbox hb; have BK246 := Aside0.mk hbox; have GW246 := u3 hg HB; have GE246 := u3 hg HB; have NB243_246 := u4 hg BK243; have NB246_243 := u5 hg BK243; have NB244_246 := u4 hg BK244; have NB246_244 := u5 hg BK244; have NB245_246 := u4 hg BK245; have NB246_245 := u5 hg BK245; replace BK243 := u1 BK243 hb; replace BK244 := u1 BK244 hb; replace BK245 := u1 BK245 hb; replace HB := u2 HB hb; clear hb hbox hg))
 (try simp only [Act.put, List.setIfInBounds_toArray, List.set_cons_zero, List.set_cons_succ])
 go_cut [28] (fun v28 wc => ∃ (kq : Nat) (x28_4 : Bool), v28 = .bool x28_4 ∧ Aside0 (tie_conflict.j0 kq x28_4 a0_0 a0_1 a1_0 a1_1 a2_0 a2_1 a3_0 a3_1 = some r) ∧ Aside0 (kq ≤ k) ∧ Aside0 (wc.heap[gb243]? = some (.cells #[.int .i64 a0_0, .int .i64 a0_1] 23 (0, 0))) ∧ Aside0 (wc.heap[gb244]? = some (.cells #[.int .i64 a1_0, .int .i64 a1_1] 23 (0, 0))) ∧ Aside0 (wc.heap[gb245]? = some (.cells #[.int .i64 a2_0, .int .i64 a2_1] 23 (0, 0))) ∧ Aside0 (wc.heap[gb246]? = some (.cells #[.int .i64 a3_0, .int .i64 a3_1] 23 (0, 0))) ∧ Aside0 (Below w.heap.size w wc))
 case first =>
  have H := HC5.out
  clear HC5
  replace H := Option.bind_eq_some_iff.mp H
  obtain ⟨t247, A100, H⟩ := H
  try dsimp only at H
  have A10 := Aside0.mk A100
  clear A100
  by_cases c11 : t247 = 1
  ·rw [if_pos c11] at H
   have c11b0 : (t247 == 1) = true := beq_iff_eq.mpr c11
   have c11b1 : (t247 != 1) = false := bne_eq_false_iff_eq.mpr c11
   clear c11
   (first | rw [c11b0] | (simp only [i64_w, i32_w]; rw [c11b0]) | skip)
   by_cases c12 : (a3_0 == a0_0 && (a3_1 == a0_1)) = true
   ·rw [if_pos c12] at H
    have c12b0 : (a3_0 == a0_0 && (a3_1 == a0_1)) = true := c12
    (try (have c12b1 : decide (a3_0 = a0_0 && (a3_1 == a0_1)) = true := by simpa using c12))
    (try (have c12b2 : (a3_0 == a0_0 && (a3_1 == a0_1)) = true := by simpa using c12))
    clear c12
    have H' := Aside0.mk H
    clear H
    have hnb13 := NB243_244.out
    have hnc13 := NB244_243.out
    have hnb14 := NB243_245.out
    have hnc14 := NB245_243.out
    have hnb15 := NB243_246.out
    have hnc15 := NB246_243.out
    obtain ⟨hcz16_0, hcz16_1, hfz16_0, hfz16_1⟩ := p2 BK243
    have hnb17 := NB244_245.out
    have hnc17 := NB245_244.out
    have hnb18 := NB244_246.out
    have hnc18 := NB246_244.out
    obtain ⟨hcz19_0, hcz19_1, hfz19_0, hfz19_1⟩ := p2 BK244
    have hnb20 := NB245_246.out
    have hnc20 := NB246_245.out
    obtain ⟨hcz21_0, hcz21_1, hfz21_0, hfz21_1⟩ := p2 BK245
    go_wp2_with (first | ((with_reducible refine gate_callee (f := 26) rfl ?_); refine gL (some 12) Try.func26 #[.agg #[.int .i64 a0_0, .int .i64 a0_1], .agg #[.int .i64 a1_0, .int .i64 a1_1], .agg #[.int .i64 a2_0, .int .i64 a2_1]] rfl ?_; (with_reducible refine (pred_Orient.calls k a0_0 a0_1 a1_0 a1_1 a2_0 a2_1 t247 _ A10.out).mono ?_); rintro e w22 ⟨rfl, hb⟩; refine ⟨_, rfl, ?_⟩; replace BK243 := u1 BK243 hb; replace BK244 := u1 BK244 hb; replace BK245 := u1 BK245 hb; replace BK246 := u1 BK246 hb; replace HB := u2 HB hb; clear hb; obtain ⟨hcz23_0, hcz23_1, hfz23_0, hfz23_1⟩ := p2 BK246; obtain ⟨hcz24_0, hcz24_1, hfz24_0, hfz24_1⟩ := p2 BK243))
    go_meet
    case rel => exact ⟨_, (true), (by first | rfl | (simp; done) | (simp [*]; done)), H', ⟨by first | omega | exact Nat.le_refl _⟩, ⟨bk BK243.out⟩, ⟨bk BK244.out⟩, ⟨bk BK245.out⟩, ⟨bk BK246.out⟩, ⟨bw HB.out⟩⟩
   ·rw [if_neg c12] at H
    have c12b0 : (a3_0 == a0_0 && (a3_1 == a0_1)) = false := by simpa using c12
    (try (have c12b1 : decide (a3_0 = a0_0 && (a3_1 == a0_1)) = false := by simpa using c12))
    (try (have c12b2 : (a3_0 == a0_0 && (a3_1 == a0_1)) = false := by simpa using c12))
    (try (have c12b3 : ¬ (a3_0 = a0_0 && (a3_1 == a0_1)) := by simpa using c12))
    clear c12
    by_cases c25 : (a3_0 == a1_0 && (a3_1 == a1_1)) = true
    ·rw [if_pos c25] at H
     have c25b0 : (a3_0 == a1_0 && (a3_1 == a1_1)) = true := c25
     (try (have c25b1 : decide (a3_0 = a1_0 && (a3_1 == a1_1)) = true := by simpa using c25))
     (try (have c25b2 : (a3_0 == a1_0 && (a3_1 == a1_1)) = true := by simpa using c25))
     clear c25
     have H' := Aside0.mk H
     clear H
     have hnb26 := NB243_244.out
     have hnc26 := NB244_243.out
     have hnb27 := NB243_245.out
     have hnc27 := NB245_243.out
     have hnb28 := NB243_246.out
     have hnc28 := NB246_243.out
     obtain ⟨hcz29_0, hcz29_1, hfz29_0, hfz29_1⟩ := p2 BK243
     have hnb30 := NB244_245.out
     have hnc30 := NB245_244.out
     have hnb31 := NB244_246.out
     have hnc31 := NB246_244.out
     obtain ⟨hcz32_0, hcz32_1, hfz32_0, hfz32_1⟩ := p2 BK244
     have hnb33 := NB245_246.out
     have hnc33 := NB246_245.out
     obtain ⟨hcz34_0, hcz34_1, hfz34_0, hfz34_1⟩ := p2 BK245
     go_wp2_with (first | ((with_reducible refine gate_callee (f := 26) rfl ?_); refine gL (some 12) Try.func26 #[.agg #[.int .i64 a0_0, .int .i64 a0_1], .agg #[.int .i64 a1_0, .int .i64 a1_1], .agg #[.int .i64 a2_0, .int .i64 a2_1]] rfl ?_; (with_reducible refine (pred_Orient.calls k a0_0 a0_1 a1_0 a1_1 a2_0 a2_1 t247 _ A10.out).mono ?_); rintro e w35 ⟨rfl, hb⟩; refine ⟨_, rfl, ?_⟩; replace BK243 := u1 BK243 hb; replace BK244 := u1 BK244 hb; replace BK245 := u1 BK245 hb; replace BK246 := u1 BK246 hb; replace HB := u2 HB hb; clear hb; obtain ⟨hcz36_0, hcz36_1, hfz36_0, hfz36_1⟩ := p2 BK246; obtain ⟨hcz37_0, hcz37_1, hfz37_0, hfz37_1⟩ := p2 BK243; obtain ⟨hcz38_0, hcz38_1, hfz38_0, hfz38_1⟩ := p2 BK244))
     go_meet
     case rel => exact ⟨_, (true), (by first | rfl | (simp; done) | (simp [*]; done)), H', ⟨by first | omega | exact Nat.le_refl _⟩, ⟨bk BK243.out⟩, ⟨bk BK244.out⟩, ⟨bk BK245.out⟩, ⟨bk BK246.out⟩, ⟨bw HB.out⟩⟩
    ·rw [if_neg c25] at H
     have c25b0 : (a3_0 == a1_0 && (a3_1 == a1_1)) = false := by simpa using c25
     (try (have c25b1 : decide (a3_0 = a1_0 && (a3_1 == a1_1)) = false := by simpa using c25))
     (try (have c25b2 : (a3_0 == a1_0 && (a3_1 == a1_1)) = false := by simpa using c25))
     (try (have c25b3 : ¬ (a3_0 = a1_0 && (a3_1 == a1_1)) := by simpa using c25))
     clear c25
     have H' := Aside0.mk H
     clear H
     have hnb39 := NB243_244.out
     have hnc39 := NB244_243.out
     have hnb40 := NB243_245.out
     have hnc40 := NB245_243.out
     have hnb41 := NB243_246.out
     have hnc41 := NB246_243.out
     obtain ⟨hcz42_0, hcz42_1, hfz42_0, hfz42_1⟩ := p2 BK243
     have hnb43 := NB244_245.out
     have hnc43 := NB245_244.out
     have hnb44 := NB244_246.out
     have hnc44 := NB246_244.out
     obtain ⟨hcz45_0, hcz45_1, hfz45_0, hfz45_1⟩ := p2 BK244
     have hnb46 := NB245_246.out
     have hnc46 := NB246_245.out
     obtain ⟨hcz47_0, hcz47_1, hfz47_0, hfz47_1⟩ := p2 BK245
     go_wp2_with (first | ((with_reducible refine gate_callee (f := 26) rfl ?_); refine gL (some 12) Try.func26 #[.agg #[.int .i64 a0_0, .int .i64 a0_1], .agg #[.int .i64 a1_0, .int .i64 a1_1], .agg #[.int .i64 a2_0, .int .i64 a2_1]] rfl ?_; (with_reducible refine (pred_Orient.calls k a0_0 a0_1 a1_0 a1_1 a2_0 a2_1 t247 _ A10.out).mono ?_); rintro e w48 ⟨rfl, hb⟩; refine ⟨_, rfl, ?_⟩; replace BK243 := u1 BK243 hb; replace BK244 := u1 BK244 hb; replace BK245 := u1 BK245 hb; replace BK246 := u1 BK246 hb; replace HB := u2 HB hb; clear hb; obtain ⟨hcz49_0, hcz49_1, hfz49_0, hfz49_1⟩ := p2 BK246; obtain ⟨hcz50_0, hcz50_1, hfz50_0, hfz50_1⟩ := p2 BK243; obtain ⟨hcz51_0, hcz51_1, hfz51_0, hfz51_1⟩ := p2 BK244; obtain ⟨hcz52_0, hcz52_1, hfz52_0, hfz52_1⟩ := p2 BK245))
     go_meet
     case rel => exact ⟨_, ((a3_0 == a2_0 && (a3_1 == a2_1))), (by first | rfl | (simp; done) | (simp [*]; done)), H', ⟨by first | omega | exact Nat.le_refl _⟩, ⟨bk BK243.out⟩, ⟨bk BK244.out⟩, ⟨bk BK245.out⟩, ⟨bk BK246.out⟩, ⟨bw HB.out⟩⟩
  ·rw [if_neg c11] at H
   have c11b0 : (t247 == 1) = false := beq_eq_false_iff_ne.mpr c11
   have c11b1 : (t247 != 1) = true := bne_iff_ne.mpr c11
   (first | rw [c11b0] | (simp only [i64_w, i32_w]; rw [c11b0]) | skip)
   have H' := Aside0.mk H
   clear H
   have hnb53 := NB243_244.out
   have hnc53 := NB244_243.out
   have hnb54 := NB243_245.out
   have hnc54 := NB245_243.out
   have hnb55 := NB243_246.out
   have hnc55 := NB246_243.out
   obtain ⟨hcz56_0, hcz56_1, hfz56_0, hfz56_1⟩ := p2 BK243
   have hnb57 := NB244_245.out
   have hnc57 := NB245_244.out
   have hnb58 := NB244_246.out
   have hnc58 := NB246_244.out
   obtain ⟨hcz59_0, hcz59_1, hfz59_0, hfz59_1⟩ := p2 BK244
   have hnb60 := NB245_246.out
   have hnc60 := NB246_245.out
   obtain ⟨hcz61_0, hcz61_1, hfz61_0, hfz61_1⟩ := p2 BK245
   go_wp2_with (first | ((with_reducible refine gate_callee (f := 26) rfl ?_); refine gL (some 12) Try.func26 #[.agg #[.int .i64 a0_0, .int .i64 a0_1], .agg #[.int .i64 a1_0, .int .i64 a1_1], .agg #[.int .i64 a2_0, .int .i64 a2_1]] rfl ?_; (with_reducible refine (pred_Orient.calls k a0_0 a0_1 a1_0 a1_1 a2_0 a2_1 t247 _ A10.out).mono ?_); rintro e w62 ⟨rfl, hb⟩; refine ⟨_, rfl, ?_⟩; replace BK243 := u1 BK243 hb; replace BK244 := u1 BK244 hb; replace BK245 := u1 BK245 hb; replace BK246 := u1 BK246 hb; replace HB := u2 HB hb; clear hb))
   go_meet
   case rel => exact ⟨_, (true), (by first | rfl | (simp; done) | (simp [*]; done)), H', ⟨by first | omega | exact Nat.le_refl _⟩, ⟨bk BK243.out⟩, ⟨bk BK244.out⟩, ⟨bk BK245.out⟩, ⟨bk BK246.out⟩, ⟨bw HB.out⟩⟩
 case rest =>
  clear HC5
  try clear c1
  try clear c2
  try clear p2
  try clear c3
  try clear c4
  try clear c5
  try clear c6
  try clear c11
  try clear c11b0
  try clear c11b1
  try clear c12
  try clear c12b0
  try clear c12b1
  try clear c12b2
  try clear c13
  try clear c14
  try clear c15
  try clear c17
  try clear c18
  try clear c20
  try clear c25
  try clear c25b0
  try clear c25b1
  try clear c25b2
  try clear c26
  try clear c27
  try clear c28
  try clear c30
  try clear c31
  try clear c33
  try clear c39
  try clear c40
  try clear c41
  try clear c43
  try clear c44
  try clear c46
  try clear c53
  try clear c54
  try clear c55
  try clear c57
  try clear c58
  try clear c60
  try clear hcz16_0
  try clear hcz16_1
  try clear hcz19_0
  try clear hcz19_1
  try clear hcz21_0
  try clear hcz21_1
  try clear hcz23_0
  try clear hcz23_1
  try clear hcz24_0
  try clear hcz24_1
  try clear hcz29_0
  try clear hcz29_1
  try clear hcz32_0
  try clear hcz32_1
  try clear hcz34_0
  try clear hcz34_1
  try clear hcz36_0
  try clear hcz36_1
  try clear hcz37_0
  try clear hcz37_1
  try clear hcz38_0
  try clear hcz38_1
  try clear hcz42_0
  try clear hcz42_1
  try clear hcz45_0
  try clear hcz45_1
  try clear hcz47_0
  try clear hcz47_1
  try clear hcz49_0
  try clear hcz49_1
  try clear hcz50_0
  try clear hcz50_1
  try clear hcz51_0
  try clear hcz51_1
  try clear hcz52_0
  try clear hcz52_1
  try clear hcz56_0
  try clear hcz56_1
  try clear hcz59_0
  try clear hcz59_1
  try clear hcz61_0
  try clear hcz61_1
  try clear hfz16_0
  try clear hfz16_1
  try clear hfz19_0
  try clear hfz19_1
  try clear hfz21_0
  try clear hfz21_1
  try clear hfz23_0
  try clear hfz23_1
  try clear hfz24_0
  try clear hfz24_1
  try clear hfz29_0
  try clear hfz29_1
  try clear hfz32_0
  try clear hfz32_1
  try clear hfz34_0
  try clear hfz34_1
  try clear hfz36_0
  try clear hfz36_1
  try clear hfz37_0
  try clear hfz37_1
  try clear hfz38_0
  try clear hfz38_1
  try clear hfz42_0
  try clear hfz42_1
  try clear hfz45_0
  try clear hfz45_1
  try clear hfz47_0
  try clear hfz47_1
  try clear hfz49_0
  try clear hfz49_1
  try clear hfz50_0
  try clear hfz50_1
  try clear hfz51_0
  try clear hfz51_1
  try clear hfz52_0
  try clear hfz52_1
  try clear hfz56_0
  try clear hfz56_1
  try clear hfz59_0
  try clear hfz59_1
  try clear hfz61_0
  try clear hfz61_1
  obtain ⟨kq, x28_4, rfl, HA, HJ4, BK243, BK244, BK245, BK246, HB⟩ := hcut
  cases kq with
  | zero => exact absurd HA.out (by simp [tie_conflict.j0])
  | succ kj4 =>
   have H := HA.out
   clear HA
   simp only [tie_conflict.j0] at H
   by_cases c63 : x28_4 = true
   ·subst c63
    rw [if_pos rfl] at H
    obtain rfl := Option.some.inj H
    go_wp2
    go_ret
    exact ⟨by first | rfl | (simp [*, errW_none, errW_some] <;> rfl), bw HB.out⟩
   ·replace c63 := Bool.eq_false_iff.mpr c63
    subst c63
    rw [if_neg (show ¬ (false = true) by decide)] at H
    replace H := Option.bind_eq_some_iff.mp H
    obtain ⟨t248, A640, H⟩ := H
    try dsimp only at H
    have A64 := Aside0.mk A640
    clear A640
    by_cases c65 : t248 = 1
    ·rw [if_pos c65] at H
     have c65b0 : (t248 == 1) = true := beq_iff_eq.mpr c65
     have c65b1 : (t248 != 1) = false := bne_eq_false_iff_eq.mpr c65
     clear c65
     obtain rfl := Option.some.inj H
     have hnb66 := NB243_244.out
     have hnc66 := NB244_243.out
     have hnb67 := NB243_245.out
     have hnc67 := NB245_243.out
     have hnb68 := NB243_246.out
     have hnc68 := NB246_243.out
     obtain ⟨_, _, _, _⟩ := p2 BK243
     have hnb70 := NB244_245.out
     have hnc70 := NB245_244.out
     have hnb71 := NB244_246.out
     have hnc71 := NB246_244.out
     obtain ⟨_, _, _, _⟩ := p2 BK244
     have hnb73 := NB245_246.out
     have hnc73 := NB246_245.out
     obtain ⟨_, _, _, _⟩ := p2 BK245
     obtain ⟨_, _, _, _⟩ := p2 BK246
     go_wp2_with (first | ((with_reducible refine gate_callee (f := 28) rfl ?_); refine gL (some 33) Try.func28 #[.agg #[.int .i64 a0_0, .int .i64 a0_1], .agg #[.int .i64 a1_0, .int .i64 a1_1], .agg #[.int .i64 a2_0, .int .i64 a2_1], .agg #[.int .i64 a3_0, .int .i64 a3_1]] rfl ?_; (with_reducible refine (pred_InCircle.calls kj4 a0_0 a0_1 a1_0 a1_1 a2_0 a2_1 a3_0 a3_1 t248 _ A64.out).mono ?_); rintro e w76 ⟨rfl, hb⟩; refine ⟨_, rfl, ?_⟩; replace BK243 := u1 BK243 hb; replace BK244 := u1 BK244 hb; replace BK245 := u1 BK245 hb; replace BK246 := u1 BK246 hb; replace HB := u2 HB hb; clear hb))
     go_ret
     exact ⟨by first | rfl | (simp [*, errW_none, errW_some] <;> rfl), bw HB.out⟩
    ·rw [if_neg c65] at H
     have c65b0 : (t248 == 1) = false := beq_eq_false_iff_ne.mpr c65
     have c65b1 : (t248 != 1) = true := bne_iff_ne.mpr c65
     by_cases c77 : t248 = (-1)
     ·rw [if_pos c77] at H
      have c77b0 : (t248 == (-1)) = true := beq_iff_eq.mpr c77
      have c77b1 : (t248 != (-1)) = false := bne_eq_false_iff_eq.mpr c77
      clear c77
      obtain rfl := Option.some.inj H
      have hnb78 := NB243_244.out
      have hnc78 := NB244_243.out
      have hnb79 := NB243_245.out
      have hnc79 := NB245_243.out
      have hnb80 := NB243_246.out
      have hnc80 := NB246_243.out
      obtain ⟨_, _, _, _⟩ := p2 BK243
      have hnb82 := NB244_245.out
      have hnc82 := NB245_244.out
      have hnb83 := NB244_246.out
      have hnc83 := NB246_244.out
      obtain ⟨_, _, _, _⟩ := p2 BK244
      have hnb85 := NB245_246.out
      have hnc85 := NB246_245.out
      obtain ⟨_, _, _, _⟩ := p2 BK245
      obtain ⟨_, _, _, _⟩ := p2 BK246
      go_wp2_with (first | ((with_reducible refine gate_callee (f := 28) rfl ?_); refine gL (some 33) Try.func28 #[.agg #[.int .i64 a0_0, .int .i64 a0_1], .agg #[.int .i64 a1_0, .int .i64 a1_1], .agg #[.int .i64 a2_0, .int .i64 a2_1], .agg #[.int .i64 a3_0, .int .i64 a3_1]] rfl ?_; (with_reducible refine (pred_InCircle.calls kj4 a0_0 a0_1 a1_0 a1_1 a2_0 a2_1 a3_0 a3_1 t248 _ A64.out).mono ?_); rintro e w88 ⟨rfl, hb⟩; refine ⟨_, rfl, ?_⟩; replace BK243 := u1 BK243 hb; replace BK244 := u1 BK244 hb; replace BK245 := u1 BK245 hb; replace BK246 := u1 BK246 hb; replace HB := u2 HB hb; clear hb))
      go_ret
      exact ⟨by first | rfl | (simp [*, errW_none, errW_some] <;> rfl), bw HB.out⟩
     ·rw [if_neg c77] at H
      have c77b0 : (t248 == (-1)) = false := beq_eq_false_iff_ne.mpr c77
      have c77b1 : (t248 != (-1)) = true := bne_iff_ne.mpr c77
      obtain ⟨y249, hy249⟩ : ∃ y_ : List (S23), y_ = (([(⟨a0_0, a0_1⟩ : S23), (⟨a1_0, a1_1⟩ : S23), (⟨a2_0, a2_1⟩ : S23), (⟨a3_0, a3_1⟩ : S23)] : List (S23))) := ⟨_, rfl⟩
      replace H : ((tie_last.f kj4 y249).bind fun t252 => (if t252 = 0 then ((pred_Orient.f kj4 a3_0 a3_1 a1_0 a1_1 a2_0 a2_1).bind fun t253 => (some (t253 == 1))) else (if t252 = 1 then ((pred_Orient.f kj4 a0_0 a0_1 a3_0 a3_1 a2_0 a2_1).bind fun t254 => (some (t254 == 1))) else (if t252 = 2 then ((pred_Orient.f kj4 a0_0 a0_1 a1_0 a1_1 a3_0 a3_1).bind fun t255 => (some (t255 == 1))) else (some false))))) = some r := by first | (rw [hy249]; with_reducible exact H) | (have H2_ := (Option.bind_some _ _).symm.trans H; rw [hy249]; with_reducible exact H2_) | (have H2_ := (Option.bind_some _ _).symm.trans H; with_reducible exact H2_) | with_reducible exact H | (rw [hy249]; exact H) | exact H
      have Ny249 := Aside0.mk hy249
      clear hy249
      replace H := Option.bind_eq_some_iff.mp H
      obtain ⟨t252, A890, H⟩ := H
      try dsimp only at H
      have A89 := Aside0.mk A890
      clear A890
      by_cases c90 : t252 = 0
      ·rw [if_pos c90] at H
       have c90b0 : (t252 == 0) = true := beq_iff_eq.mpr c90
       have c90b1 : (t252 != 0) = false := bne_eq_false_iff_eq.mpr c90
       clear c90
       replace H := Option.bind_eq_some_iff.mp H
       obtain ⟨t253, A910, H⟩ := H
       try dsimp only at H
       have A91 := Aside0.mk A910
       clear A910
       obtain rfl := Option.some.inj H
       have hnb92 := NB243_244.out
       have hnc92 := NB244_243.out
       have hnb93 := NB243_245.out
       have hnc93 := NB245_243.out
       have hnb94 := NB243_246.out
       have hnc94 := NB246_243.out
       obtain ⟨_, _, _, _⟩ := p2 BK243
       have hnb96 := NB244_245.out
       have hnc96 := NB245_244.out
       have hnb97 := NB244_246.out
       have hnc97 := NB246_244.out
       obtain ⟨_, _, _, _⟩ := p2 BK244
       have hnb99 := NB245_246.out
       have hnc99 := NB246_245.out
       obtain ⟨_, _, _, _⟩ := p2 BK245
       obtain ⟨_, _, _, _⟩ := p2 BK246
       go_wp2_with (first | ((with_reducible refine gate_callee (f := 28) rfl ?_); refine gL (some 33) Try.func28 #[.agg #[.int .i64 a0_0, .int .i64 a0_1], .agg #[.int .i64 a1_0, .int .i64 a1_1], .agg #[.int .i64 a2_0, .int .i64 a2_1], .agg #[.int .i64 a3_0, .int .i64 a3_1]] rfl ?_; (with_reducible refine (pred_InCircle.calls kj4 a0_0 a0_1 a1_0 a1_1 a2_0 a2_1 a3_0 a3_1 t248 _ A64.out).mono ?_); rintro e w102 ⟨rfl, hb⟩; refine ⟨_, rfl, ?_⟩; replace BK243 := u1 BK243 hb; replace BK244 := u1 BK244 hb; replace BK245 := u1 BK245 hb; replace BK246 := u1 BK246 hb; replace HB := u2 HB hb; clear hb; obtain ⟨_, _, _, _⟩ := p2 BK243; obtain ⟨_, _, _, _⟩ := p2 BK244; obtain ⟨_, _, _, _⟩ := p2 BK245; obtain ⟨_, _, _, _⟩ := p2 BK246) | ((with_reducible refine gate_dst (N := 42) rfl ?_); refine Kd.R_lit k23 _ 23 ?hg (N := 42) ?hd (xs := ([(⟨a0_0, a0_1⟩ : S23), (⟨a1_0, a1_1⟩ : S23), (⟨a2_0, a2_1⟩ : S23), (⟨a3_0, a3_1⟩ : S23)] : List (S23))) (inner := [.int .i64 a0_0, .int .i64 a0_1, .int .i64 a1_0, .int .i64 a1_1, .int .i64 a2_0, .int .i64 a2_1, .int .i64 a3_0, .int .i64 a3_1]) (ok := fun _ => True) (okp := fun _ => True) ?hr ?hp (fun _ hk => hk) trivial (Below.refl _ _) (Nat.le_refl _) (by simp) ?_; (case hd => rfl); (case hg => rfl); (case hr => first | (go_simp; done) | (go_simp; rfl)); (case hp => exact (Reps.c2 (show Kd.M k23 _ _ _ (⟨a0_0, a0_1⟩ : S23) [.int .i64 a0_0, .int .i64 a0_1] from (k23_mkM _ _ _ (⟨a0_0, a0_1⟩ : S23) )) (Reps.c2 (show Kd.M k23 _ _ _ (⟨a1_0, a1_1⟩ : S23) [.int .i64 a1_0, .int .i64 a1_1] from (k23_mkM _ _ _ (⟨a1_0, a1_1⟩ : S23) )) (Reps.c2 (show Kd.M k23 _ _ _ (⟨a2_0, a2_1⟩ : S23) [.int .i64 a2_0, .int .i64 a2_1] from (k23_mkM _ _ _ (⟨a2_0, a2_1⟩ : S23) )) (Reps.c2 (show Kd.M k23 _ _ _ (⟨a3_0, a3_1⟩ : S23) [.int .i64 a3_0, .int .i64 a3_1] from (k23_mkM _ _ _ (⟨a3_0, a3_1⟩ : S23) )) (Reps.none _ _)))))); intro v250 w107 ho108 hb hg_ hnew_; clear hg_ hnew_; (first | rw [← Ny249.out] at ho108 | (simp only [Int.reduceToNat] at ho108; rw [← Ny249.out] at ho108)); have n0_ := Aside0.mk (Kd.R_lower (Kd.R_newB (Kd.R_newB (Kd.R_newB (Kd.R_newB ho108 (bk BK243.out)) (bk BK244.out)) (bk BK245.out)) (bk BK246.out)) (below_size (bw HB.out))); have n1_ := u1 BK243 hb; have n2_ := u1 BK244 hb; have n3_ := u1 BK245 hb; have n4_ := u1 BK246 hb; have n5_ := u2 HB hb; clear BK243; clear BK244; clear BK245; clear BK246; clear HB; have HO251 := n0_; have BK243 := n1_; have BK244 := n2_; have BK245 := n3_; have BK246 := n4_; have HB := n5_; clear n0_ n1_ n2_ n3_ n4_ n5_; clear hb ho108; obtain ⟨Ao109, co109, eo109⟩ := Kd.R_slice HO251.out; subst eo109) | ((with_reducible refine gate_callee (f := 29) rfl ?_); refine gL (some 43) Try.func29 #[.slice Ao109 y249.length co109] rfl ?_; (with_reducible refine (tie_last.calls kj4 _ _ y249 t252 _ ?side1 ?side2 A89.out).mono ?_); (case side1 => repeat (first | exact (Kd.R_reads' HO251.out).2.2 | (with_reducible refine Kd.C_alloc ?_ _) | (with_reducible refine Kd.C_drewN ?_ _) | (with_reducible refine Kd.C_drew ?_))); (case side2 => exact (Kd.R_reads' HO251.out).2.1); rintro e w110 ⟨rfl, hb⟩; refine ⟨_, rfl, ?_⟩; have n0_ := Aside0.mk (Kd.R_below (by (with_reducible repeat (first | apply Kd.R_alloc | apply Kd.R_drewN | apply Kd.R_drew)); exact HO251.out) hb); have n1_ := u1 BK243 hb; have n2_ := u1 BK244 hb; have n3_ := u1 BK245 hb; have n4_ := u1 BK246 hb; have n5_ := u2 HB hb; clear HO251; clear BK243; clear BK244; clear BK245; clear BK246; clear HB; have HO251 := n0_; have BK243 := n1_; have BK244 := n2_; have BK245 := n3_; have BK246 := n4_; have HB := n5_; clear n0_ n1_ n2_ n3_ n4_ n5_; clear hb; obtain ⟨_, _, _, _⟩ := p2 BK246; obtain ⟨_, _, _, _⟩ := p2 BK244; obtain ⟨_, _, _, _⟩ := p2 BK245) | ((with_reducible refine gate_callee (f := 26) rfl ?_); refine gL (some 49) Try.func26 #[.agg #[.int .i64 a3_0, .int .i64 a3_1], .agg #[.int .i64 a1_0, .int .i64 a1_1], .agg #[.int .i64 a2_0, .int .i64 a2_1]] rfl ?_; (with_reducible refine (pred_Orient.calls kj4 a3_0 a3_1 a1_0 a1_1 a2_0 a2_1 t253 _ A91.out).mono ?_); rintro e w114 ⟨rfl, hb⟩; refine ⟨_, rfl, ?_⟩; have n0_ := Aside0.mk (Kd.R_below (by (with_reducible repeat (first | apply Kd.R_alloc | apply Kd.R_drewN | apply Kd.R_drew)); exact HO251.out) hb); have n1_ := u1 BK243 hb; have n2_ := u1 BK244 hb; have n3_ := u1 BK245 hb; have n4_ := u1 BK246 hb; have n5_ := u2 HB hb; clear HO251; clear BK243; clear BK244; clear BK245; clear BK246; clear HB; have HO251 := n0_; have BK243 := n1_; have BK244 := n2_; have BK245 := n3_; have BK246 := n4_; have HB := n5_; clear n0_ n1_ n2_ n3_ n4_ n5_; clear hb))
       go_ret
       exact ⟨by first | rfl | (simp [*, errW_none, errW_some] <;> rfl), bw HB.out⟩
      ·rw [if_neg c90] at H
       have c90b0 : (t252 == 0) = false := beq_eq_false_iff_ne.mpr c90
       have c90b1 : (t252 != 0) = true := bne_iff_ne.mpr c90
       by_cases c115 : t252 = 1
       ·rw [if_pos c115] at H
        have c115b0 : (t252 == 1) = true := beq_iff_eq.mpr c115
        have c115b1 : (t252 != 1) = false := bne_eq_false_iff_eq.mpr c115
        clear c115
        replace H := Option.bind_eq_some_iff.mp H
        obtain ⟨t254, A1160, H⟩ := H
        try dsimp only at H
        have A116 := Aside0.mk A1160
        clear A1160
        obtain rfl := Option.some.inj H
        have hnb117 := NB243_244.out
        have hnc117 := NB244_243.out
        have hnb118 := NB243_245.out
        have hnc118 := NB245_243.out
        have hnb119 := NB243_246.out
        have hnc119 := NB246_243.out
        obtain ⟨_, _, _, _⟩ := p2 BK243
        have hnb121 := NB244_245.out
        have hnc121 := NB245_244.out
        have hnb122 := NB244_246.out
        have hnc122 := NB246_244.out
        obtain ⟨_, _, _, _⟩ := p2 BK244
        have hnb124 := NB245_246.out
        have hnc124 := NB246_245.out
        obtain ⟨_, _, _, _⟩ := p2 BK245
        obtain ⟨_, _, _, _⟩ := p2 BK246
        go_wp2_with (first | ((with_reducible refine gate_callee (f := 28) rfl ?_); refine gL (some 33) Try.func28 #[.agg #[.int .i64 a0_0, .int .i64 a0_1], .agg #[.int .i64 a1_0, .int .i64 a1_1], .agg #[.int .i64 a2_0, .int .i64 a2_1], .agg #[.int .i64 a3_0, .int .i64 a3_1]] rfl ?_; (with_reducible refine (pred_InCircle.calls kj4 a0_0 a0_1 a1_0 a1_1 a2_0 a2_1 a3_0 a3_1 t248 _ A64.out).mono ?_); rintro e w127 ⟨rfl, hb⟩; refine ⟨_, rfl, ?_⟩; replace BK243 := u1 BK243 hb; replace BK244 := u1 BK244 hb; replace BK245 := u1 BK245 hb; replace BK246 := u1 BK246 hb; replace HB := u2 HB hb; clear hb; obtain ⟨_, _, _, _⟩ := p2 BK243; obtain ⟨_, _, _, _⟩ := p2 BK244; obtain ⟨_, _, _, _⟩ := p2 BK245; obtain ⟨_, _, _, _⟩ := p2 BK246) | ((with_reducible refine gate_dst (N := 42) rfl ?_); refine Kd.R_lit k23 _ 23 ?hg (N := 42) ?hd (xs := ([(⟨a0_0, a0_1⟩ : S23), (⟨a1_0, a1_1⟩ : S23), (⟨a2_0, a2_1⟩ : S23), (⟨a3_0, a3_1⟩ : S23)] : List (S23))) (inner := [.int .i64 a0_0, .int .i64 a0_1, .int .i64 a1_0, .int .i64 a1_1, .int .i64 a2_0, .int .i64 a2_1, .int .i64 a3_0, .int .i64 a3_1]) (ok := fun _ => True) (okp := fun _ => True) ?hr ?hp (fun _ hk => hk) trivial (Below.refl _ _) (Nat.le_refl _) (by simp) ?_; (case hd => rfl); (case hg => rfl); (case hr => first | (go_simp; done) | (go_simp; rfl)); (case hp => exact (Reps.c2 (show Kd.M k23 _ _ _ (⟨a0_0, a0_1⟩ : S23) [.int .i64 a0_0, .int .i64 a0_1] from (k23_mkM _ _ _ (⟨a0_0, a0_1⟩ : S23) )) (Reps.c2 (show Kd.M k23 _ _ _ (⟨a1_0, a1_1⟩ : S23) [.int .i64 a1_0, .int .i64 a1_1] from (k23_mkM _ _ _ (⟨a1_0, a1_1⟩ : S23) )) (Reps.c2 (show Kd.M k23 _ _ _ (⟨a2_0, a2_1⟩ : S23) [.int .i64 a2_0, .int .i64 a2_1] from (k23_mkM _ _ _ (⟨a2_0, a2_1⟩ : S23) )) (Reps.c2 (show Kd.M k23 _ _ _ (⟨a3_0, a3_1⟩ : S23) [.int .i64 a3_0, .int .i64 a3_1] from (k23_mkM _ _ _ (⟨a3_0, a3_1⟩ : S23) )) (Reps.none _ _)))))); intro v250 w132 ho133 hb hg_ hnew_; clear hg_ hnew_; (first | rw [← Ny249.out] at ho133 | (simp only [Int.reduceToNat] at ho133; rw [← Ny249.out] at ho133)); have n0_ := Aside0.mk (Kd.R_lower (Kd.R_newB (Kd.R_newB (Kd.R_newB (Kd.R_newB ho133 (bk BK243.out)) (bk BK244.out)) (bk BK245.out)) (bk BK246.out)) (below_size (bw HB.out))); have n1_ := u1 BK243 hb; have n2_ := u1 BK244 hb; have n3_ := u1 BK245 hb; have n4_ := u1 BK246 hb; have n5_ := u2 HB hb; clear BK243; clear BK244; clear BK245; clear BK246; clear HB; have HO251 := n0_; have BK243 := n1_; have BK244 := n2_; have BK245 := n3_; have BK246 := n4_; have HB := n5_; clear n0_ n1_ n2_ n3_ n4_ n5_; clear hb ho133; obtain ⟨Ao134, co134, eo134⟩ := Kd.R_slice HO251.out; subst eo134) | ((with_reducible refine gate_callee (f := 29) rfl ?_); refine gL (some 43) Try.func29 #[.slice Ao134 y249.length co134] rfl ?_; (with_reducible refine (tie_last.calls kj4 _ _ y249 t252 _ ?side1 ?side2 A89.out).mono ?_); (case side1 => repeat (first | exact (Kd.R_reads' HO251.out).2.2 | (with_reducible refine Kd.C_alloc ?_ _) | (with_reducible refine Kd.C_drewN ?_ _) | (with_reducible refine Kd.C_drew ?_))); (case side2 => exact (Kd.R_reads' HO251.out).2.1); rintro e w135 ⟨rfl, hb⟩; refine ⟨_, rfl, ?_⟩; have n0_ := Aside0.mk (Kd.R_below (by (with_reducible repeat (first | apply Kd.R_alloc | apply Kd.R_drewN | apply Kd.R_drew)); exact HO251.out) hb); have n1_ := u1 BK243 hb; have n2_ := u1 BK244 hb; have n3_ := u1 BK245 hb; have n4_ := u1 BK246 hb; have n5_ := u2 HB hb; clear HO251; clear BK243; clear BK244; clear BK245; clear BK246; clear HB; have HO251 := n0_; have BK243 := n1_; have BK244 := n2_; have BK245 := n3_; have BK246 := n4_; have HB := n5_; clear n0_ n1_ n2_ n3_ n4_ n5_; clear hb; obtain ⟨_, _, _, _⟩ := p2 BK243; obtain ⟨_, _, _, _⟩ := p2 BK246; obtain ⟨_, _, _, _⟩ := p2 BK245) | ((with_reducible refine gate_callee (f := 26) rfl ?_); refine gL (some 56) Try.func26 #[.agg #[.int .i64 a0_0, .int .i64 a0_1], .agg #[.int .i64 a3_0, .int .i64 a3_1], .agg #[.int .i64 a2_0, .int .i64 a2_1]] rfl ?_; (with_reducible refine (pred_Orient.calls kj4 a0_0 a0_1 a3_0 a3_1 a2_0 a2_1 t254 _ A116.out).mono ?_); rintro e w139 ⟨rfl, hb⟩; refine ⟨_, rfl, ?_⟩; have n0_ := Aside0.mk (Kd.R_below (by (with_reducible repeat (first | apply Kd.R_alloc | apply Kd.R_drewN | apply Kd.R_drew)); exact HO251.out) hb); have n1_ := u1 BK243 hb; have n2_ := u1 BK244 hb; have n3_ := u1 BK245 hb; have n4_ := u1 BK246 hb; have n5_ := u2 HB hb; clear HO251; clear BK243; clear BK244; clear BK245; clear BK246; clear HB; have HO251 := n0_; have BK243 := n1_; have BK244 := n2_; have BK245 := n3_; have BK246 := n4_; have HB := n5_; clear n0_ n1_ n2_ n3_ n4_ n5_; clear hb))
        go_ret
        exact ⟨by first | rfl | (simp [*, errW_none, errW_some] <;> rfl), bw HB.out⟩
       ·rw [if_neg c115] at H
        have c115b0 : (t252 == 1) = false := beq_eq_false_iff_ne.mpr c115
        have c115b1 : (t252 != 1) = true := bne_iff_ne.mpr c115
        by_cases c140 : t252 = 2
        ·rw [if_pos c140] at H
         have c140b0 : (t252 == 2) = true := beq_iff_eq.mpr c140
         have c140b1 : (t252 != 2) = false := bne_eq_false_iff_eq.mpr c140
         clear c140
         replace H := Option.bind_eq_some_iff.mp H
         obtain ⟨t255, A1410, H⟩ := H
         try dsimp only at H
         have A141 := Aside0.mk A1410
         clear A1410
         obtain rfl := Option.some.inj H
         have hnb142 := NB243_244.out
         have hnc142 := NB244_243.out
         have hnb143 := NB243_245.out
         have hnc143 := NB245_243.out
         have hnb144 := NB243_246.out
         have hnc144 := NB246_243.out
         obtain ⟨_, _, _, _⟩ := p2 BK243
         have hnb146 := NB244_245.out
         have hnc146 := NB245_244.out
         have hnb147 := NB244_246.out
         have hnc147 := NB246_244.out
         obtain ⟨_, _, _, _⟩ := p2 BK244
         have hnb149 := NB245_246.out
         have hnc149 := NB246_245.out
         obtain ⟨_, _, _, _⟩ := p2 BK245
         obtain ⟨_, _, _, _⟩ := p2 BK246
         go_wp2_with (first | ((with_reducible refine gate_callee (f := 28) rfl ?_); refine gL (some 33) Try.func28 #[.agg #[.int .i64 a0_0, .int .i64 a0_1], .agg #[.int .i64 a1_0, .int .i64 a1_1], .agg #[.int .i64 a2_0, .int .i64 a2_1], .agg #[.int .i64 a3_0, .int .i64 a3_1]] rfl ?_; (with_reducible refine (pred_InCircle.calls kj4 a0_0 a0_1 a1_0 a1_1 a2_0 a2_1 a3_0 a3_1 t248 _ A64.out).mono ?_); rintro e w152 ⟨rfl, hb⟩; refine ⟨_, rfl, ?_⟩; replace BK243 := u1 BK243 hb; replace BK244 := u1 BK244 hb; replace BK245 := u1 BK245 hb; replace BK246 := u1 BK246 hb; replace HB := u2 HB hb; clear hb; obtain ⟨_, _, _, _⟩ := p2 BK243; obtain ⟨_, _, _, _⟩ := p2 BK244; obtain ⟨_, _, _, _⟩ := p2 BK245; obtain ⟨_, _, _, _⟩ := p2 BK246) | ((with_reducible refine gate_dst (N := 42) rfl ?_); refine Kd.R_lit k23 _ 23 ?hg (N := 42) ?hd (xs := ([(⟨a0_0, a0_1⟩ : S23), (⟨a1_0, a1_1⟩ : S23), (⟨a2_0, a2_1⟩ : S23), (⟨a3_0, a3_1⟩ : S23)] : List (S23))) (inner := [.int .i64 a0_0, .int .i64 a0_1, .int .i64 a1_0, .int .i64 a1_1, .int .i64 a2_0, .int .i64 a2_1, .int .i64 a3_0, .int .i64 a3_1]) (ok := fun _ => True) (okp := fun _ => True) ?hr ?hp (fun _ hk => hk) trivial (Below.refl _ _) (Nat.le_refl _) (by simp) ?_; (case hd => rfl); (case hg => rfl); (case hr => first | (go_simp; done) | (go_simp; rfl)); (case hp => exact (Reps.c2 (show Kd.M k23 _ _ _ (⟨a0_0, a0_1⟩ : S23) [.int .i64 a0_0, .int .i64 a0_1] from (k23_mkM _ _ _ (⟨a0_0, a0_1⟩ : S23) )) (Reps.c2 (show Kd.M k23 _ _ _ (⟨a1_0, a1_1⟩ : S23) [.int .i64 a1_0, .int .i64 a1_1] from (k23_mkM _ _ _ (⟨a1_0, a1_1⟩ : S23) )) (Reps.c2 (show Kd.M k23 _ _ _ (⟨a2_0, a2_1⟩ : S23) [.int .i64 a2_0, .int .i64 a2_1] from (k23_mkM _ _ _ (⟨a2_0, a2_1⟩ : S23) )) (Reps.c2 (show Kd.M k23 _ _ _ (⟨a3_0, a3_1⟩ : S23) [.int .i64 a3_0, .int .i64 a3_1] from (k23_mkM _ _ _ (⟨a3_0, a3_1⟩ : S23) )) (Reps.none _ _)))))); intro v250 w157 ho158 hb hg_ hnew_; clear hg_ hnew_; (first | rw [← Ny249.out] at ho158 | (simp only [Int.reduceToNat] at ho158; rw [← Ny249.out] at ho158)); have n0_ := Aside0.mk (Kd.R_lower (Kd.R_newB (Kd.R_newB (Kd.R_newB (Kd.R_newB ho158 (bk BK243.out)) (bk BK244.out)) (bk BK245.out)) (bk BK246.out)) (below_size (bw HB.out))); have n1_ := u1 BK243 hb; have n2_ := u1 BK244 hb; have n3_ := u1 BK245 hb; have n4_ := u1 BK246 hb; have n5_ := u2 HB hb; clear BK243; clear BK244; clear BK245; clear BK246; clear HB; have HO251 := n0_; have BK243 := n1_; have BK244 := n2_; have BK245 := n3_; have BK246 := n4_; have HB := n5_; clear n0_ n1_ n2_ n3_ n4_ n5_; clear hb ho158; obtain ⟨Ao159, co159, eo159⟩ := Kd.R_slice HO251.out; subst eo159) | ((with_reducible refine gate_callee (f := 29) rfl ?_); refine gL (some 43) Try.func29 #[.slice Ao159 y249.length co159] rfl ?_; (with_reducible refine (tie_last.calls kj4 _ _ y249 t252 _ ?side1 ?side2 A89.out).mono ?_); (case side1 => repeat (first | exact (Kd.R_reads' HO251.out).2.2 | (with_reducible refine Kd.C_alloc ?_ _) | (with_reducible refine Kd.C_drewN ?_ _) | (with_reducible refine Kd.C_drew ?_))); (case side2 => exact (Kd.R_reads' HO251.out).2.1); rintro e w160 ⟨rfl, hb⟩; refine ⟨_, rfl, ?_⟩; have n0_ := Aside0.mk (Kd.R_below (by (with_reducible repeat (first | apply Kd.R_alloc | apply Kd.R_drewN | apply Kd.R_drew)); exact HO251.out) hb); have n1_ := u1 BK243 hb; have n2_ := u1 BK244 hb; have n3_ := u1 BK245 hb; have n4_ := u1 BK246 hb; have n5_ := u2 HB hb; clear HO251; clear BK243; clear BK244; clear BK245; clear BK246; clear HB; have HO251 := n0_; have BK243 := n1_; have BK244 := n2_; have BK245 := n3_; have BK246 := n4_; have HB := n5_; clear n0_ n1_ n2_ n3_ n4_ n5_; clear hb; obtain ⟨_, _, _, _⟩ := p2 BK243; obtain ⟨_, _, _, _⟩ := p2 BK244; obtain ⟨_, _, _, _⟩ := p2 BK246) | ((with_reducible refine gate_callee (f := 26) rfl ?_); refine gL (some 63) Try.func26 #[.agg #[.int .i64 a0_0, .int .i64 a0_1], .agg #[.int .i64 a1_0, .int .i64 a1_1], .agg #[.int .i64 a3_0, .int .i64 a3_1]] rfl ?_; (with_reducible refine (pred_Orient.calls kj4 a0_0 a0_1 a1_0 a1_1 a3_0 a3_1 t255 _ A141.out).mono ?_); rintro e w164 ⟨rfl, hb⟩; refine ⟨_, rfl, ?_⟩; have n0_ := Aside0.mk (Kd.R_below (by (with_reducible repeat (first | apply Kd.R_alloc | apply Kd.R_drewN | apply Kd.R_drew)); exact HO251.out) hb); have n1_ := u1 BK243 hb; have n2_ := u1 BK244 hb; have n3_ := u1 BK245 hb; have n4_ := u1 BK246 hb; have n5_ := u2 HB hb; clear HO251; clear BK243; clear BK244; clear BK245; clear BK246; clear HB; have HO251 := n0_; have BK243 := n1_; have BK244 := n2_; have BK245 := n3_; have BK246 := n4_; have HB := n5_; clear n0_ n1_ n2_ n3_ n4_ n5_; clear hb))
         go_ret
         exact ⟨by first | rfl | (simp [*, errW_none, errW_some] <;> rfl), bw HB.out⟩
        ·rw [if_neg c140] at H
         have c140b0 : (t252 == 2) = false := beq_eq_false_iff_ne.mpr c140
         have c140b1 : (t252 != 2) = true := bne_iff_ne.mpr c140
         obtain rfl := Option.some.inj H
         have hnb165 := NB243_244.out
         have hnc165 := NB244_243.out
         have hnb166 := NB243_245.out
         have hnc166 := NB245_243.out
         have hnb167 := NB243_246.out
         have hnc167 := NB246_243.out
         obtain ⟨_, _, _, _⟩ := p2 BK243
         have hnb169 := NB244_245.out
         have hnc169 := NB245_244.out
         have hnb170 := NB244_246.out
         have hnc170 := NB246_244.out
         obtain ⟨_, _, _, _⟩ := p2 BK244
         have hnb172 := NB245_246.out
         have hnc172 := NB246_245.out
         obtain ⟨_, _, _, _⟩ := p2 BK245
         obtain ⟨_, _, _, _⟩ := p2 BK246
         go_wp2_with (first | ((with_reducible refine gate_callee (f := 28) rfl ?_); refine gL (some 33) Try.func28 #[.agg #[.int .i64 a0_0, .int .i64 a0_1], .agg #[.int .i64 a1_0, .int .i64 a1_1], .agg #[.int .i64 a2_0, .int .i64 a2_1], .agg #[.int .i64 a3_0, .int .i64 a3_1]] rfl ?_; (with_reducible refine (pred_InCircle.calls kj4 a0_0 a0_1 a1_0 a1_1 a2_0 a2_1 a3_0 a3_1 t248 _ A64.out).mono ?_); rintro e w175 ⟨rfl, hb⟩; refine ⟨_, rfl, ?_⟩; replace BK243 := u1 BK243 hb; replace BK244 := u1 BK244 hb; replace BK245 := u1 BK245 hb; replace BK246 := u1 BK246 hb; replace HB := u2 HB hb; clear hb; obtain ⟨_, _, _, _⟩ := p2 BK243; obtain ⟨_, _, _, _⟩ := p2 BK244; obtain ⟨_, _, _, _⟩ := p2 BK245; obtain ⟨_, _, _, _⟩ := p2 BK246) | ((with_reducible refine gate_dst (N := 42) rfl ?_); refine Kd.R_lit k23 _ 23 ?hg (N := 42) ?hd (xs := ([(⟨a0_0, a0_1⟩ : S23), (⟨a1_0, a1_1⟩ : S23), (⟨a2_0, a2_1⟩ : S23), (⟨a3_0, a3_1⟩ : S23)] : List (S23))) (inner := [.int .i64 a0_0, .int .i64 a0_1, .int .i64 a1_0, .int .i64 a1_1, .int .i64 a2_0, .int .i64 a2_1, .int .i64 a3_0, .int .i64 a3_1]) (ok := fun _ => True) (okp := fun _ => True) ?hr ?hp (fun _ hk => hk) trivial (Below.refl _ _) (Nat.le_refl _) (by simp) ?_; (case hd => rfl); (case hg => rfl); (case hr => first | (go_simp; done) | (go_simp; rfl)); (case hp => exact (Reps.c2 (show Kd.M k23 _ _ _ (⟨a0_0, a0_1⟩ : S23) [.int .i64 a0_0, .int .i64 a0_1] from (k23_mkM _ _ _ (⟨a0_0, a0_1⟩ : S23) )) (Reps.c2 (show Kd.M k23 _ _ _ (⟨a1_0, a1_1⟩ : S23) [.int .i64 a1_0, .int .i64 a1_1] from (k23_mkM _ _ _ (⟨a1_0, a1_1⟩ : S23) )) (Reps.c2 (show Kd.M k23 _ _ _ (⟨a2_0, a2_1⟩ : S23) [.int .i64 a2_0, .int .i64 a2_1] from (k23_mkM _ _ _ (⟨a2_0, a2_1⟩ : S23) )) (Reps.c2 (show Kd.M k23 _ _ _ (⟨a3_0, a3_1⟩ : S23) [.int .i64 a3_0, .int .i64 a3_1] from (k23_mkM _ _ _ (⟨a3_0, a3_1⟩ : S23) )) (Reps.none _ _)))))); intro v250 w180 ho181 hb hg_ hnew_; clear hg_ hnew_; (first | rw [← Ny249.out] at ho181 | (simp only [Int.reduceToNat] at ho181; rw [← Ny249.out] at ho181)); have n0_ := Aside0.mk (Kd.R_lower (Kd.R_newB (Kd.R_newB (Kd.R_newB (Kd.R_newB ho181 (bk BK243.out)) (bk BK244.out)) (bk BK245.out)) (bk BK246.out)) (below_size (bw HB.out))); have n1_ := u1 BK243 hb; have n2_ := u1 BK244 hb; have n3_ := u1 BK245 hb; have n4_ := u1 BK246 hb; have n5_ := u2 HB hb; clear BK243; clear BK244; clear BK245; clear BK246; clear HB; have HO251 := n0_; have BK243 := n1_; have BK244 := n2_; have BK245 := n3_; have BK246 := n4_; have HB := n5_; clear n0_ n1_ n2_ n3_ n4_ n5_; clear hb ho181; obtain ⟨Ao182, co182, eo182⟩ := Kd.R_slice HO251.out; subst eo182) | ((with_reducible refine gate_callee (f := 29) rfl ?_); refine gL (some 43) Try.func29 #[.slice Ao182 y249.length co182] rfl ?_; (with_reducible refine (tie_last.calls kj4 _ _ y249 t252 _ ?side1 ?side2 A89.out).mono ?_); (case side1 => repeat (first | exact (Kd.R_reads' HO251.out).2.2 | (with_reducible refine Kd.C_alloc ?_ _) | (with_reducible refine Kd.C_drewN ?_ _) | (with_reducible refine Kd.C_drew ?_))); (case side2 => exact (Kd.R_reads' HO251.out).2.1); rintro e w183 ⟨rfl, hb⟩; refine ⟨_, rfl, ?_⟩; have n0_ := Aside0.mk (Kd.R_below (by (with_reducible repeat (first | apply Kd.R_alloc | apply Kd.R_drewN | apply Kd.R_drew)); exact HO251.out) hb); have n1_ := u1 BK243 hb; have n2_ := u1 BK244 hb; have n3_ := u1 BK245 hb; have n4_ := u1 BK246 hb; have n5_ := u2 HB hb; clear HO251; clear BK243; clear BK244; clear BK245; clear BK246; clear HB; have HO251 := n0_; have BK243 := n1_; have BK244 := n2_; have BK245 := n3_; have BK246 := n4_; have HB := n5_; clear n0_ n1_ n2_ n3_ n4_ n5_; clear hb))
         go_ret
         exact ⟨by first | rfl | (simp [*, errW_none, errW_some] <;> rfl), bw HB.out⟩
end Go.Proofs.Ytlkngfidohiepaa.F
end
section
namespace Go.Proofs.Ytlkngfidohiepaa.F
open RowKit YtlkngfidohiepaaW.PrintWords YtlkngfidohiepaaW.PrintLast YtlkngfidohiepaaW.PrintMore
set_option linter.unusedVariables false
set_option linter.unusedSimpArgs false
def tie_Conflict.f (k : Nat) (a0_0 : Int) (a0_1 : Int) (a1_0 : Int) (a1_1 : Int) (a2_0 : Int) (a2_1 : Int) (a3_0 : Int) (a3_1 : Int) : Option (Bool) := (lift_Can.f a3_0 a3_1).bind fun t260 => (if t260 = true then ((tie_conflict.f k a0_0 a0_1 a1_0 a1_1 a2_0 a2_1 a3_0 a3_1).bind fun t261 => (some t261)) else (some false))
theorem tie_Conflict.mono : ∀ a0 a1 a2 a3 a4 a5 a6 a7 k, LeO (tie_Conflict.f k a0 a1 a2 a3 a4 a5 a6 a7) (tie_Conflict.f (k + 1) a0 a1 a2 a3 a4 a5 a6 a7) := by
 intro a0 a1 a2 a3 a4 a5 a6 a7 k
 unfold tie_Conflict.f
 repeat' first
   | (with_reducible exact tie_conflict.mono _ _ _ _ _ _ _ _ _)
   | (with_reducible exact LeO.refl _)
   | (with_reducible exact LeO.none _)
   | (with_reducible refine LeO.ite ?_ ?_)
   | (with_reducible refine LeO.bind ?_ (fun _ => ?_))
   | exact tie_conflict.mono _ _ _ _ _ _ _ _ _
   | exact LeO.none _
   | refine LeO.ite ?_ ?_
   | refine LeO.bind ?_ (fun _ => ?_)
set_option maxHeartbeats 8000000 in
set_option maxRecDepth 100000 in
theorem tie_Conflict.calls (k : Nat) (a0_0 : Int) (a0_1 : Int) (a1_0 : Int) (a1_1 : Int) (a2_0 : Int) (a2_1 : Int) (a3_0 : Int) (a3_1 : Int) (r : Bool) (w : World) (h : tie_Conflict.f k a0_0 a0_1 a1_0 a1_1 a2_0 a2_1 a3_0 a3_1 = some r) :
  Calls Try.prog 8 #[.agg #[.int .i64 a0_0, .int .i64 a0_1], .agg #[.int .i64 a1_0, .int .i64 a1_1], .agg #[.int .i64 a2_0, .int .i64 a2_1], .agg #[.int .i64 a3_0, .int .i64 a3_1]] w fun e w' => e = .returned (.bool r) ∧ Below w.heap.size w w' := by
 have hu23 := Try.underlying23
 have HB := Aside0.mk (Below.refl w.heap.size w)
 have H : ((lift_Can.f a3_0 a3_1).bind fun t260 => (if t260 = true then ((tie_conflict.f k a0_0 a0_1 a1_0 a1_1 a2_0 a2_1 a3_0 a3_1).bind fun t261 => (some t261)) else (some false))) = some r := h
 clear h
 replace H := Option.bind_eq_some_iff.mp H
 obtain ⟨t260, A50, H⟩ := H
 try dsimp only at H
 have A5 := Aside0.mk A50
 clear A50
 by_cases c6 : t260 = true
 ·subst c6
  rw [if_pos rfl] at H
  replace H := Option.bind_eq_some_iff.mp H
  obtain ⟨t261, A70, H⟩ := H
  try dsimp only at H
  have A7 := Aside0.mk A70
  clear A70
  obtain rfl := Option.some.inj H
  go_enter Try.func8, Try.ntmps8
  go_wp2_with (first | ((with_reducible refine gate_dst (N := 4) rfl ?_); refine bx 4 #[.int .i64 a0_0, .int .i64 a0_1] 23 ?_; intro gb256 hg w8 hbox hb; have BK256 := Aside0.mk hbox; have GW256 := u3 hg HB; have GE256 := u3 hg HB; replace HB := u2 HB hb; clear hb hbox hg) | ((with_reducible refine gate_dst (N := 5) rfl ?_); refine bx 5 #[.int .i64 a1_0, .int .i64 a1_1] 23 ?_; intro gb257 hg w9 hbox hb; have BK257 := Aside0.mk hbox; have GW257 := u3 hg HB; have GE257 := u3 hg HB; have NB256_257 := u4 hg BK256; have NB257_256 := u5 hg BK256; replace BK256 := u1 BK256 hb; replace HB := u2 HB hb; clear hb hbox hg) | ((with_reducible refine gate_dst (N := 6) rfl ?_); refine bx 6 #[.int .i64 a2_0, .int .i64 a2_1] 23 ?_; intro gb258 hg w10 hbox hb; have BK258 := Aside0.mk hbox; have GW258 := u3 hg HB; have GE258 := u3 hg HB; have NB256_258 := u4 hg BK256; have NB258_256 := u5 hg BK256; have NB257_258 := u4 hg BK257; have NB258_257 := u5 hg BK257; replace BK256 := u1 BK256 hb; replace BK257 := u1 BK257 hb; replace HB := u2 HB hb; clear hb hbox hg) | ((with_reducible refine gate_dst (N := 7) rfl ?_); refine bx 7 #[.int .i64 a3_0, .int .i64 a3_1] 23 ?_; intro gb259 hg w11 hbox hb; have BK259 := Aside0.mk hbox; have GW259 := u3 hg HB; have GE259 := u3 hg HB; have NB256_259 := u4 hg BK256; have NB259_256 := u5 hg BK256; have NB257_259 := u4 hg BK257; have NB259_257 := u5 hg BK257; have NB258_259 := u4 hg BK258; have NB259_258 := u5 hg BK258; replace BK256 := u1 BK256 hb; replace BK257 := u1 BK257 hb; replace BK258 := u1 BK258 hb; replace HB := u2 HB hb; clear hb hbox hg; have hnb12 := NB259_256.out; have hnc12 := NB256_259.out; have hnb13 := NB259_257.out; have hnc13 := NB257_259.out; have hnb14 := NB259_258.out; have hnc14 := NB258_259.out; obtain ⟨_, _, _, _⟩ := p2 BK259) | ((with_reducible refine gate_callee (f := 17) rfl ?_); refine gL (some 10) Try.func17 #[.agg #[.int .i64 a3_0, .int .i64 a3_1]] rfl ?_; (with_reducible refine (lift_Can.calls a3_0 a3_1 true _ A5.out).mono ?_); rintro e w16 ⟨rfl, hb⟩; refine ⟨_, rfl, ?_⟩; replace BK256 := u1 BK256 hb; replace BK257 := u1 BK257 hb; replace BK258 := u1 BK258 hb; replace BK259 := u1 BK259 hb; replace HB := u2 HB hb; clear hb; have hnb17 := NB256_257.out; have hnc17 := NB257_256.out; have hnb18 := NB256_258.out; have hnc18 := NB258_256.out; obtain ⟨_, _, _, _⟩ := p2 BK256; have hnb20 := NB257_258.out; have hnc20 := NB258_257.out; obtain ⟨_, _, _, _⟩ := p2 BK257; obtain ⟨_, _, _, _⟩ := p2 BK258; obtain ⟨_, _, _, _⟩ := p2 BK259) | (go_at_call 18; (with_reducible refine (tie_conflict.calls k a0_0 a0_1 a1_0 a1_1 a2_0 a2_1 a3_0 a3_1 t261 _ A7.out).mono ?_); rintro e w24 ⟨rfl, hb⟩; replace BK256 := u1 BK256 hb; replace BK257 := u1 BK257 hb; replace BK258 := u1 BK258 hb; replace BK259 := u1 BK259 hb; replace HB := u2 HB hb; clear hb))
  go_ret
  exact ⟨by first | rfl | (simp [*, errW_none, errW_some] <;> rfl), bw HB.out⟩
 ·replace c6 := Bool.eq_false_iff.mpr c6
  subst c6
  rw [if_neg (show ¬ (false = true) by decide)] at H
  obtain rfl := Option.some.inj H
  go_enter Try.func8, Try.ntmps8
  go_wp2_with (first | ((with_reducible refine gate_dst (N := 4) rfl ?_); refine bx 4 #[.int .i64 a0_0, .int .i64 a0_1] 23 ?_; intro gb256 hg w25 hbox hb; have BK256 := Aside0.mk hbox; have GW256 := u3 hg HB; have GE256 := u3 hg HB; replace HB := u2 HB hb; clear hb hbox hg) | ((with_reducible refine gate_dst (N := 5) rfl ?_); refine bx 5 #[.int .i64 a1_0, .int .i64 a1_1] 23 ?_; intro gb257 hg w26 hbox hb; have BK257 := Aside0.mk hbox; have GW257 := u3 hg HB; have GE257 := u3 hg HB; have NB256_257 := u4 hg BK256; have NB257_256 := u5 hg BK256; replace BK256 := u1 BK256 hb; replace HB := u2 HB hb; clear hb hbox hg) | ((with_reducible refine gate_dst (N := 6) rfl ?_); refine bx 6 #[.int .i64 a2_0, .int .i64 a2_1] 23 ?_; intro gb258 hg w27 hbox hb; have BK258 := Aside0.mk hbox; have GW258 := u3 hg HB; have GE258 := u3 hg HB; have NB256_258 := u4 hg BK256; have NB258_256 := u5 hg BK256; have NB257_258 := u4 hg BK257; have NB258_257 := u5 hg BK257; replace BK256 := u1 BK256 hb; replace BK257 := u1 BK257 hb; replace HB := u2 HB hb; clear hb hbox hg) | ((with_reducible refine gate_dst (N := 7) rfl ?_); refine bx 7 #[.int .i64 a3_0, .int .i64 a3_1] 23 ?_; intro gb259 hg w28 hbox hb; have BK259 := Aside0.mk hbox; have GW259 := u3 hg HB; have GE259 := u3 hg HB; have NB256_259 := u4 hg BK256; have NB259_256 := u5 hg BK256; have NB257_259 := u4 hg BK257; have NB259_257 := u5 hg BK257; have NB258_259 := u4 hg BK258; have NB259_258 := u5 hg BK258; replace BK256 := u1 BK256 hb; replace BK257 := u1 BK257 hb; replace BK258 := u1 BK258 hb; replace HB := u2 HB hb; clear hb hbox hg; have hnb29 := NB259_256.out; have hnc29 := NB256_259.out; have hnb30 := NB259_257.out; have hnc30 := NB257_259.out; have hnb31 := NB259_258.out; have hnc31 := NB258_259.out; obtain ⟨_, _, _, _⟩ := p2 BK259) | ((with_reducible refine gate_callee (f := 17) rfl ?_); refine gL (some 10) Try.func17 #[.agg #[.int .i64 a3_0, .int .i64 a3_1]] rfl ?_; (with_reducible refine (lift_Can.calls a3_0 a3_1 false _ A5.out).mono ?_); rintro e w33 ⟨rfl, hb⟩; refine ⟨_, rfl, ?_⟩; replace BK256 := u1 BK256 hb; replace BK257 := u1 BK257 hb; replace BK258 := u1 BK258 hb; replace BK259 := u1 BK259 hb; replace HB := u2 HB hb; clear hb))
  go_ret
  exact ⟨by first | rfl | (simp [*, errW_none, errW_some] <;> rfl), bw HB.out⟩
end Go.Proofs.Ytlkngfidohiepaa.F
end
section
namespace Go.Proofs.Ytlkngfidohiepaa.F
open RowKit YtlkngfidohiepaaW.PrintWords YtlkngfidohiepaaW.PrintLast YtlkngfidohiepaaW.PrintMore
set_option linter.unusedVariables false
set_option linter.unusedSimpArgs false
def tie_Best.l0 : Nat → List (S23) → Int → List (S23) → Int → Int → Int → Int → Int → Int → Option (Int)
 | 0, _, _, _, _, _, _, _, _, _ => none
 | k + 1, x2, x7, x10, x11, x12, x524000, x524001, x525000, x525001 => if x12 < x11 then (if 0 ≤ x12 then (if x12 < (x10.length : Int) then ((pred_Orient.f k x524000 x524001 x525000 x525001 ((rd_T23 x10 x12).f0) ((rd_T23 x10 x12).f1)).bind fun t527 => (if t527 = 1 then (if x7 < 0 then (tie_Best.l0 k x2 x12 x10 x11 (wrap64 (x12 + 1)) x524000 x524001 x525000 x525001) else (if 0 ≤ x7 then (if x7 < (x2.length : Int) then ((tie_conflict.f k x524000 x524001 x525000 x525001 ((rd_T23 x2 x7).f0) ((rd_T23 x2 x7).f1) ((rd_T23 x10 x12).f0) ((rd_T23 x10 x12).f1)).bind fun t529 => (if t529 = true then (tie_Best.l0 k x2 x12 x10 x11 (wrap64 (x12 + 1)) x524000 x524001 x525000 x525001) else (tie_Best.l0 k x2 x7 x10 x11 (wrap64 (x12 + 1)) x524000 x524001 x525000 x525001))) else (none)) else (none))) else (tie_Best.l0 k x2 x7 x10 x11 (wrap64 (x12 + 1)) x524000 x524001 x525000 x525001))) else (none)) else (none)) else (some x7)
def tie_Best.f (k : Nat) (a0_0 : Int) (a0_1 : Int) (a1_0 : Int) (a1_1 : Int) (l2 : List (S23)) : Option (Int) := tie_Best.l0 k l2 (-1) l2 (l2.length : Int) 0 a0_0 a0_1 a1_0 a1_1
theorem tie_Best.mono_l : ∀ k, (∀ y0 y1 y2 y3 y4 y5 y6 y7 y8, LeO (tie_Best.l0 k y0 y1 y2 y3 y4 y5 y6 y7 y8) (tie_Best.l0 (k + 1) y0 y1 y2 y3 y4 y5 y6 y7 y8))
 | 0 => fun _ _ _ _ _ _ _ _ _ r h => by simp [tie_Best.l0] at h
 | k + 1 => by
  have ih0 := tie_Best.mono_l k
  ·intro y0 y1 y2 y3 y4 y5 y6 y7 y8
   unfold tie_Best.l0
   repeat' first
   | (with_reducible exact ih0 _ _ _ _ _ _ _ _ _)
   | (with_reducible exact pred_Orient.mono _ _ _ _ _ _ _)
   | (with_reducible exact tie_conflict.mono _ _ _ _ _ _ _ _ _)
   | (with_reducible exact LeO.refl _)
   | (with_reducible exact LeO.none _)
   | (with_reducible refine LeO.ite ?_ ?_)
   | (with_reducible refine LeO.bind ?_ (fun _ => ?_))
   | exact ih0 _ _ _ _ _ _ _ _ _
   | exact pred_Orient.mono _ _ _ _ _ _ _
   | exact tie_conflict.mono _ _ _ _ _ _ _ _ _
   | exact LeO.none _
   | refine LeO.ite ?_ ?_
   | refine LeO.bind ?_ (fun _ => ?_)
theorem tie_Best.mono : ∀ a0 a1 a2 a3 a4 k, LeO (tie_Best.f k a0 a1 a2 a3 a4) (tie_Best.f (k + 1) a0 a1 a2 a3 a4) := by
 intro a0 a1 a2 a3 a4 k
 have ih0 := tie_Best.mono_l k
 unfold tie_Best.f
 repeat' first
   | (with_reducible exact ih0 _ _ _ _ _ _ _ _ _)
   | (with_reducible exact pred_Orient.mono _ _ _ _ _ _ _)
   | (with_reducible exact tie_conflict.mono _ _ _ _ _ _ _ _ _)
   | (with_reducible exact LeO.refl _)
   | (with_reducible exact LeO.none _)
   | (with_reducible refine LeO.ite ?_ ?_)
   | (with_reducible refine LeO.bind ?_ (fun _ => ?_))
   | exact ih0 _ _ _ _ _ _ _ _ _
   | exact pred_Orient.mono _ _ _ _ _ _ _
   | exact tie_conflict.mono _ _ _ _ _ _ _ _ _
   | exact LeO.none _
   | refine LeO.ite ?_ ?_
   | refine LeO.bind ?_ (fun _ => ?_)
def tie_Best.T6 : Bool × List (List Nat × List Nat) := (true, [([], []), ([0], [0]), ([1], [1]), ([2], [2]), ([2], [2]), ([2], [2]), ([2], [2]), ([5, 6, 2], [2, 5, 6]), ([7, 2], [2, 7]), ([2], [2]), ([3, 4, 8, 9, 2, 2], [2, 3, 4, 8, 9]), ([2, 10], [2, 10])])
def tie_Best.B6 : List Nat := [0, 1, 3, 7, 7, 7, 7, 103, 231, 7, 1023, 2047]
theorem tie_Best.tab6 : rtab .any (opsOf Try.f14 6) = tie_Best.T6 := by kernel_rfl
theorem tie_Best.bits6 : waitsOk tie_Best.T6.2 tie_Best.B6 = true := by kernel_rfl
set_option maxHeartbeats 8000000 in
set_option maxRecDepth 100000 in
theorem tie_Best.calls (k : Nat) (a0_0 : Int) (a0_1 : Int) (a1_0 : Int) (a1_1 : Int) (A2 : Option Addr) (c2 : Nat) (l2 : List (S23)) (r : Int) (w : World) (hr2 : Kd.C k23 w A2 l2.length l2) (hc2 : l2.length ≤ c2) (h : tie_Best.f k a0_0 a0_1 a1_0 a1_1 l2 = some r) :
  Calls Try.prog 14 #[.agg #[.int .i64 a0_0, .int .i64 a0_1], .agg #[.int .i64 a1_0, .int .i64 a1_1], .slice A2 l2.length c2] w fun e w' => e = .returned (.int .i64 r) ∧ Below w.heap.size w w' := by
 have hu23 := Try.underlying23
 have HR2 := Aside0.mk hr2
 have HC2 := Aside0.mk hc2
 clear hr2 hc2
 have HB := Aside0.mk (Below.refl w.heap.size w)
 have H : (tie_Best.l0 k l2 (-1) l2 (l2.length : Int) 0 a0_0 a0_1 a1_0 a1_1) = some r := h
 clear h
 have H' := Aside0.mk H
 clear H
 go_enter Try.func14, Try.ntmps14
 go_wp2_with (first | ((with_reducible refine gate_dst (N := 3) rfl ?_); refine bx 3 #[.int .i64 a0_0, .int .i64 a0_1] 23 ?_; intro gb523 hg w4 hbox hb; have BK523 := Aside0.mk hbox; have GW523 := u3 hg HB; have GE523 := u3 hg HB; replace HB := u2 HB hb; clear hb hbox hg) | ((with_reducible refine gate_dst (N := 4) rfl ?_); refine bx 4 #[.int .i64 a1_0, .int .i64 a1_1] 23 ?_; intro gb524 hg w5 hbox hb; have BK524 := Aside0.mk hbox; have GW524 := u3 hg HB; have GE524 := u3 hg HB; have NB523_524 := u4 hg BK523; have NB524_523 := u5 hg BK523; replace BK523 := u1 BK523 hb; replace HB := u2 HB hb; clear hb hbox hg))
 go_loopg [7, 12] k (fun kq v7 v12 w' => ∃ (x7_1 : Int) (x12_1 : Int), v7 = .int .i64 x7_1 ∧ v12 = .int .i64 x12_1 ∧ Aside0 (tie_Best.l0 kq l2 x7_1 l2 (l2.length : Int) x12_1 a0_0 a0_1 a1_0 a1_1 = some r) ∧ Aside0 (kq ≤ k) ∧ Aside0 (w'.heap[gb523]? = some (.cells #[.int .i64 a0_0, .int .i64 a0_1] 23 (0, 0))) ∧ Aside0 (w'.heap[gb524]? = some (.cells #[.int .i64 a1_0, .int .i64 a1_1] 23 (0, 0))) ∧ Aside0 (Below w.heap.size w w'))
 case atStart => exact ⟨((-1)), (0), (by first | rfl | (simp; done) | (simp [*]; done)), (by first | rfl | (simp; done) | (simp [*]; done)), H', ⟨Nat.le_refl _⟩, ⟨bk BK523.out⟩, ⟨bk BK524.out⟩, ⟨bw HB.out⟩⟩
 case round =>
  clear H'
  try clear c1
  try clear c2
  try clear p2
  obtain ⟨x7_1, x12_1, rfl, rfl, HA, HK1, BK523, BK524, HB⟩ := hrel
  cases gk with
  | zero => exact absurd HA.out (by simp [tie_Best.l0])
  | succ k1 =>
   have H := HA.out
   clear HA
   simp only [tie_Best.l0] at H
   by_cases c6 : x12_1 < (l2.length : Int)
   ·rw [if_pos c6] at H
    have c6b0 : decide (x12_1 < (l2.length : Int)) = true := decide_eq_true c6
    clear c6
    by_cases c7 : 0 ≤ x12_1
    ·rw [if_pos c7] at H
     have c7b0 : decide (0 ≤ x12_1) = true := decide_eq_true c7
     clear c7
     by_cases c8 : x12_1 < (l2.length : Int)
     ·rw [if_pos c8] at H
      have c8b0 : decide (x12_1 < (l2.length : Int)) = true := decide_eq_true c8
      clear c8
      replace H := Option.bind_eq_some_iff.mp H
      obtain ⟨t527, A90, H⟩ := H
      try dsimp only at H
      have A9 := Aside0.mk A90
      clear A90
      by_cases c10 : t527 = 1
      ·rw [if_pos c10] at H
       have c10b0 : (t527 == 1) = true := beq_iff_eq.mpr c10
       have c10b1 : (t527 != 1) = false := bne_eq_false_iff_eq.mpr c10
       clear c10
       by_cases c11 : x7_1 < 0
       ·rw [if_pos c11] at H
        have c11b0 : decide (x7_1 < 0) = true := decide_eq_true c11
        clear c11
        have H' := Aside0.mk H
        clear H
        have p525 : 0 ≤ (x12_1 : Int) := dt_
        have q525 : x12_1 < (l2.length : Int) := dt_
        obtain ⟨ad525, e525, hx525_0, hx525_1⟩ := at_T23 HR2.out x12_1 p525 q525
        cases e525
        replace hx525_0 := (HB.out.cell (World.block_lt_of_cell? w _ hx525_0)).trans hx525_0
        replace hx525_1 := (HB.out.cell (World.block_lt_of_cell? w _ hx525_1)).trans hx525_1
        replace p525 := eq_true p525
        replace q525 := eq_true q525
        try go_wp2_with (first | ((with_reducible refine gate_dst (N := 9) rfl ?_); refine box_event ?hg (N := 9) ?hd (cs := #[.int .i64 0, .int .i64 0]) (t := 23) ?hr ?_; (case hd => rfl); (case hg => rfl); (case hr => first | (go_simp; done) | (go_simp; rfl)); intro gb526 hg w12 hbox hb; have n0_ := u1 BK523 hb; have n1_ := u1 BK524 hb; have n2_ := Aside0.mk (below_step (by repeat (first | (with_reducible first | exact HB.out | apply below_alloc | apply pw_below_drewN | apply below_drew1 | refine below_set ?_ GE523.out | refine below_set ?_ GE524.out) | exact HB.out)) hb); have n3_ := Aside0.mk hbox; have n4_ := Aside0.mk ((by rw [hg]; exact (below_size (by repeat (first | (with_reducible first | exact HB.out | apply below_alloc | apply pw_below_drewN | apply below_drew1 | refine below_set ?_ GE523.out | refine below_set ?_ GE524.out) | exact HB.out))) : w.heap.size ≤ gb526)); have n5_ := Aside0.mk ((by rw [hg]; exact (below_size (by repeat (first | (with_reducible first | exact HB.out | apply below_alloc | apply pw_below_drewN | apply below_drew1 | refine below_set ?_ GE523.out | refine below_set ?_ GE524.out) | exact HB.out))) : w.heap.size ≤ gb526)); have n6_ := u4 hg BK523; have n7_ := u5 hg BK523; have n8_ := u4 hg BK524; have n9_ := u5 hg BK524; clear BK523; clear BK524; clear HB; have BK523 := n0_; have BK524 := n1_; have HB := n2_; have BK526 := n3_; have GW526 := n4_; have GE526 := n5_; have NB523_526 := n6_; have NB526_523 := n7_; have NB524_526 := n8_; have NB526_524 := n9_; clear n0_ n1_ n2_ n3_ n4_ n5_ n6_ n7_ n8_ n9_; clear hb hbox hg; have hnb13 := NB526_523.out; have hnc13 := NB523_526.out; have hnb14 := NB526_524.out; have hnc14 := NB524_526.out; obtain ⟨_, _, _, _⟩ := p2 BK526; have hnb16 := NB523_524.out; have hnc16 := NB524_523.out; obtain ⟨_, _, _, _⟩ := p2 BK523; obtain ⟨_, _, _, _⟩ := p2 BK524) | ((with_reducible refine gate_callee (f := 26) rfl ?_); refine goesL_ (some 20) rfl rfl Try.func26 (by kernel_rfl) rfl #[.agg #[.int .i64 a0_0, .int .i64 a0_1], .agg #[.int .i64 a1_0, .int .i64 a1_1], .agg #[.int .i64 ((rd_T23 l2 x12_1).f0), .int .i64 ((rd_T23 l2 x12_1).f1)]] rfl (by (try simp only [List.map_toArray, List.map_cons, List.map_nil]); first | done | rfl | (simp only [List.length_drop, List.length_take]; rfl)) ?_; (with_reducible refine (pred_Orient.calls k1 a0_0 a0_1 a1_0 a1_1 ((rd_T23 l2 x12_1).f0) ((rd_T23 l2 x12_1).f1) t527 _ A9.out).mono ?_); rintro e w19 ⟨rfl, hb⟩; refine ⟨_, rfl, ?_⟩; have n0_ := Aside0.mk (blk_below (g := gb523) (o := .cells #[.int .i64 a0_0, .int .i64 a0_1] 23 (0, 0)) (by (with_reducible repeat (first | refine blk_drewN ?_ _ | refine blk_drew ?_ | refine blk_alloc ?_ _)); refine blk_far ?_ NB523_526.out _; (with_reducible repeat (first | refine blk_drewN ?_ _ | refine blk_drew ?_ | refine blk_alloc ?_ _)); refine blk_far ?_ NB523_526.out _; (with_reducible repeat (first | refine blk_drewN ?_ _ | refine blk_drew ?_ | refine blk_alloc ?_ _)); exact BK523.out) hb); have n1_ := Aside0.mk (blk_below (g := gb524) (o := .cells #[.int .i64 a1_0, .int .i64 a1_1] 23 (0, 0)) (by (with_reducible repeat (first | refine blk_drewN ?_ _ | refine blk_drew ?_ | refine blk_alloc ?_ _)); refine blk_far ?_ NB524_526.out _; (with_reducible repeat (first | refine blk_drewN ?_ _ | refine blk_drew ?_ | refine blk_alloc ?_ _)); refine blk_far ?_ NB524_526.out _; (with_reducible repeat (first | refine blk_drewN ?_ _ | refine blk_drew ?_ | refine blk_alloc ?_ _)); exact BK524.out) hb); have n2_ := Aside0.mk (blk_below (g := gb526) (o := .cells #[.int .i64 ((rd_T23 l2 x12_1).f0), .int .i64 ((rd_T23 l2 x12_1).f1)] 23 (0, 0)) (by (with_reducible repeat (first | refine blk_drewN ?_ _ | refine blk_drew ?_ | refine blk_alloc ?_ _)); refine blk_put (cs := #[.int .i64 ((rd_T23 l2 x12_1).f0), .int .i64 0]) ?_ 1 _ rfl; (with_reducible repeat (first | refine blk_drewN ?_ _ | refine blk_drew ?_ | refine blk_alloc ?_ _)); refine blk_put (cs := #[.int .i64 0, .int .i64 0]) ?_ 0 _ rfl; (with_reducible repeat (first | refine blk_drewN ?_ _ | refine blk_drew ?_ | refine blk_alloc ?_ _)); exact BK526.out) hb); have n3_ := Aside0.mk (below_step (by repeat (first | (with_reducible first | exact HB.out | apply below_alloc | apply pw_below_drewN | apply below_drew1 | refine below_set ?_ GE523.out | refine below_set ?_ GE524.out | refine below_set ?_ GE526.out) | exact HB.out)) hb); clear BK523; clear BK524; clear BK526; clear HB; have BK523 := n0_; have BK524 := n1_; have BK526 := n2_; have HB := n3_; clear n0_ n1_ n2_ n3_; clear hb))
        have n0_ := Aside0.mk (blk_drew BK523.out)
        have n1_ := Aside0.mk (blk_drew BK524.out)
        have n2_ := Aside0.mk (blk_drew BK526.out)
        have n3_ := Aside0.mk (below_drew1 HB.out)
        clear BK523
        clear BK524
        clear BK526
        clear HB
        have BK523 := n0_
        have BK524 := n1_
        have BK526 := n2_
        have HB := n3_
        clear n0_ n1_ n2_ n3_
        refine start_ (n := 12) (S := fun w' => True) (ds := []) #[F_,F_,F_,F_,F_,F_,F_,F_,F_,F_,F_,F_] (by kernel_rfl) rfl rfl trivial (fun hHeld => ?_); refine with_tabW tie_Best.tab6 tie_Best.bits6 (fun HT_ HW_ => ?_)
        generalize w19.drew = w20 at BK523 BK524 BK526 HB hHeld ⊢
        refine pA (i := 0) (N := some 22) (v := ?_) (a' := ?_) #[T_,F_,F_,F_,F_,F_,F_,F_,F_,F_,F_,F_] rfl rfl HT_ (Or.inl ⟨by rfl, ?_⟩) ?_ ?_
        rotate_left
        ·intro w'
         go_simp
         with_reducible rfl
        rotate_left
        ·simp only [Act.put, s1, s2, s3, i64_w, i32_w]
         rfl
        refine pA (i := 1) (N := some 23) (v := ?_) (a' := ?_) #[T_,T_,F_,F_,F_,F_,F_,F_,F_,F_,F_,F_] rfl rfl HT_ (Or.inl ⟨by rfl, ?_⟩) ?_ ?_
        rotate_left
        ·intro w'
         go_simp
         with_reducible rfl
        rotate_left
        ·simp only [Act.put, s1, s2, s3, i64_w, i32_w]
         rfl
        refine pA (i := 2) (N := some 24) (v := ?_) (a' := ?_) #[T_,T_,T_,F_,F_,F_,F_,F_,F_,F_,F_,F_] rfl rfl HT_ (Or.inl ⟨by rfl, ?_⟩) ?_ ?_
        rotate_left
        ·intro w'
         go_simp
         with_reducible rfl
        rotate_left
        ·simp only [Act.put, s1, s2, s3, i64_w, i32_w]
         rfl
        refine pA (i := 3) (N := some 25) (v := undef) (a' := ?_) #[T_,T_,T_,T_,F_,F_,F_,F_,F_,F_,F_,F_] rfl rfl HT_ (Or.inr ⟨by rfl, rfl⟩) ?_ ?_
        rotate_left
        ·simp only [Act.put, s1, s2, s3, i64_w, i32_w]
         rfl
        refine pA (i := 4) (N := some 26) (v := undef) (a' := ?_) #[T_,T_,T_,T_,T_,F_,F_,F_,F_,F_,F_,F_] rfl rfl HT_ (Or.inr ⟨by rfl, rfl⟩) ?_ ?_
        rotate_left
        ·simp only [Act.put, s1, s2, s3, i64_w, i32_w]
         rfl
        refine pA (i := 5) (N := some 27) (v := undef) (a' := ?_) #[T_,T_,T_,T_,T_,T_,F_,F_,F_,F_,F_,F_] rfl rfl HT_ (Or.inr ⟨by rfl, rfl⟩) ?_ ?_
        rotate_left
        ·simp only [Act.put, s1, s2, s3, i64_w, i32_w]
         rfl
        refine pA (i := 6) (N := some 28) (v := undef) (a' := ?_) #[T_,T_,T_,T_,T_,T_,T_,F_,F_,F_,F_,F_] rfl rfl HT_ (Or.inr ⟨by rfl, rfl⟩) ?_ ?_
        rotate_left
        ·simp only [Act.put, s1, s2, s3, i64_w, i32_w]
         rfl
        refine pA (i := 7) (N := some 29) (v := undef) (a' := ?_) #[T_,T_,T_,T_,T_,T_,T_,T_,F_,F_,F_,F_] rfl rfl HT_ (Or.inr ⟨by rfl, rfl⟩) ?_ ?_
        rotate_left
        ·simp only [Act.put, s1, s2, s3, i64_w, i32_w]
         rfl
        refine pA (i := 8) (N := some 30) (v := undef) (a' := ?_) #[T_,T_,T_,T_,T_,T_,T_,T_,T_,F_,F_,F_] rfl rfl HT_ (Or.inr ⟨by rfl, rfl⟩) ?_ ?_
        rotate_left
        ·simp only [Act.put, s1, s2, s3, i64_w, i32_w]
         rfl
        refine pA (i := 9) (N := some 31) (v := undef) (a' := ?_) #[T_,T_,T_,T_,T_,T_,T_,T_,T_,T_,F_,F_] rfl rfl HT_ (Or.inr ⟨by rfl, rfl⟩) ?_ ?_
        rotate_left
        ·simp only [Act.put, s1, s2, s3, i64_w, i32_w]
         rfl
        refine pA (i := 10) (N := some 32) (v := undef) (a' := ?_) #[T_,T_,T_,T_,T_,T_,T_,T_,T_,T_,T_,F_] rfl rfl HT_ (Or.inr ⟨by rfl, rfl⟩) ?_ ?_
        rotate_left
        ·simp only [Act.put, s1, s2, s3, i64_w, i32_w]
         rfl
        refine pA (i := 11) (N := some 33) (v := ?_) (a' := ?_) #[T_,T_,T_,T_,T_,T_,T_,T_,T_,T_,T_,T_] rfl rfl HT_ (Or.inl ⟨by rfl, ?_⟩) ?_ ?_
        rotate_left
        ·intro w'
         go_simp
         with_reducible rfl
        rotate_left
        ·simp only [Act.put, s1, s2, s3, i64_w, i32_w]
         rfl
        refine done_ (done_of HT_.out (by kernel_rfl)) ?_
        try go_wp2
        go_roundg k1
        case measure => have := HK1.out; omega
        case rel => exact ⟨(x12_1), (wrap64 (x12_1 + 1)), (by first | rfl | (simp; done) | (simp [*]; done)), (by first | rfl | (simp; done) | (simp [*]; done)), H', ⟨by have := HK1.out; omega⟩, ⟨bk BK523.out⟩, ⟨bk BK524.out⟩, ⟨bw HB.out⟩⟩
       ·rw [if_neg c11] at H
        have c11b0 : decide (x7_1 < 0) = false := decide_eq_false c11
        clear c11
        by_cases c21 : 0 ≤ x7_1
        ·rw [if_pos c21] at H
         have c21b0 : decide (0 ≤ x7_1) = true := decide_eq_true c21
         clear c21
         by_cases c22 : x7_1 < (l2.length : Int)
         ·rw [if_pos c22] at H
          have c22b0 : decide (x7_1 < (l2.length : Int)) = true := decide_eq_true c22
          clear c22
          replace H := Option.bind_eq_some_iff.mp H
          obtain ⟨t529, A230, H⟩ := H
          try dsimp only at H
          have A23 := Aside0.mk A230
          clear A230
          by_cases c24 : t529 = true
          ·subst c24
           rw [if_pos rfl] at H
           have H' := Aside0.mk H
           clear H
           have p525 : 0 ≤ (x12_1 : Int) := dt_
           have q525 : x12_1 < (l2.length : Int) := dt_
           obtain ⟨ad525, e525, hx525_0, hx525_1⟩ := at_T23 HR2.out x12_1 p525 q525
           cases e525
           replace hx525_0 := (HB.out.cell (World.block_lt_of_cell? w _ hx525_0)).trans hx525_0
           replace hx525_1 := (HB.out.cell (World.block_lt_of_cell? w _ hx525_1)).trans hx525_1
           replace p525 := eq_true p525
           replace q525 := eq_true q525
           try go_wp2_with (first | ((with_reducible refine gate_dst (N := 9) rfl ?_); refine box_event ?hg (N := 9) ?hd (cs := #[.int .i64 0, .int .i64 0]) (t := 23) ?hr ?_; (case hd => rfl); (case hg => rfl); (case hr => first | (go_simp; done) | (go_simp; rfl)); intro gb526 hg w25 hbox hb; have n0_ := u1 BK523 hb; have n1_ := u1 BK524 hb; have n2_ := Aside0.mk (below_step (by repeat (first | (with_reducible first | exact HB.out | apply below_alloc | apply pw_below_drewN | apply below_drew1 | refine below_set ?_ GE523.out | refine below_set ?_ GE524.out) | exact HB.out)) hb); have n3_ := Aside0.mk hbox; have n4_ := Aside0.mk ((by rw [hg]; exact (below_size (by repeat (first | (with_reducible first | exact HB.out | apply below_alloc | apply pw_below_drewN | apply below_drew1 | refine below_set ?_ GE523.out | refine below_set ?_ GE524.out) | exact HB.out))) : w.heap.size ≤ gb526)); have n5_ := Aside0.mk ((by rw [hg]; exact (below_size (by repeat (first | (with_reducible first | exact HB.out | apply below_alloc | apply pw_below_drewN | apply below_drew1 | refine below_set ?_ GE523.out | refine below_set ?_ GE524.out) | exact HB.out))) : w.heap.size ≤ gb526)); have n6_ := u4 hg BK523; have n7_ := u5 hg BK523; have n8_ := u4 hg BK524; have n9_ := u5 hg BK524; clear BK523; clear BK524; clear HB; have BK523 := n0_; have BK524 := n1_; have HB := n2_; have BK526 := n3_; have GW526 := n4_; have GE526 := n5_; have NB523_526 := n6_; have NB526_523 := n7_; have NB524_526 := n8_; have NB526_524 := n9_; clear n0_ n1_ n2_ n3_ n4_ n5_ n6_ n7_ n8_ n9_; clear hb hbox hg; have hnb26 := NB526_523.out; have hnc26 := NB523_526.out; have hnb27 := NB526_524.out; have hnc27 := NB524_526.out; obtain ⟨_, _, _, _⟩ := p2 BK526; have hnb29 := NB523_524.out; have hnc29 := NB524_523.out; obtain ⟨_, _, _, _⟩ := p2 BK523; obtain ⟨_, _, _, _⟩ := p2 BK524) | ((with_reducible refine gate_callee (f := 26) rfl ?_); refine goesL_ (some 20) rfl rfl Try.func26 (by kernel_rfl) rfl #[.agg #[.int .i64 a0_0, .int .i64 a0_1], .agg #[.int .i64 a1_0, .int .i64 a1_1], .agg #[.int .i64 ((rd_T23 l2 x12_1).f0), .int .i64 ((rd_T23 l2 x12_1).f1)]] rfl (by (try simp only [List.map_toArray, List.map_cons, List.map_nil]); first | done | rfl | (simp only [List.length_drop, List.length_take]; rfl)) ?_; (with_reducible refine (pred_Orient.calls k1 a0_0 a0_1 a1_0 a1_1 ((rd_T23 l2 x12_1).f0) ((rd_T23 l2 x12_1).f1) t527 _ A9.out).mono ?_); rintro e w32 ⟨rfl, hb⟩; refine ⟨_, rfl, ?_⟩; have n0_ := Aside0.mk (blk_below (g := gb523) (o := .cells #[.int .i64 a0_0, .int .i64 a0_1] 23 (0, 0)) (by (with_reducible repeat (first | refine blk_drewN ?_ _ | refine blk_drew ?_ | refine blk_alloc ?_ _)); refine blk_far ?_ NB523_526.out _; (with_reducible repeat (first | refine blk_drewN ?_ _ | refine blk_drew ?_ | refine blk_alloc ?_ _)); refine blk_far ?_ NB523_526.out _; (with_reducible repeat (first | refine blk_drewN ?_ _ | refine blk_drew ?_ | refine blk_alloc ?_ _)); exact BK523.out) hb); have n1_ := Aside0.mk (blk_below (g := gb524) (o := .cells #[.int .i64 a1_0, .int .i64 a1_1] 23 (0, 0)) (by (with_reducible repeat (first | refine blk_drewN ?_ _ | refine blk_drew ?_ | refine blk_alloc ?_ _)); refine blk_far ?_ NB524_526.out _; (with_reducible repeat (first | refine blk_drewN ?_ _ | refine blk_drew ?_ | refine blk_alloc ?_ _)); refine blk_far ?_ NB524_526.out _; (with_reducible repeat (first | refine blk_drewN ?_ _ | refine blk_drew ?_ | refine blk_alloc ?_ _)); exact BK524.out) hb); have n2_ := Aside0.mk (blk_below (g := gb526) (o := .cells #[.int .i64 ((rd_T23 l2 x12_1).f0), .int .i64 ((rd_T23 l2 x12_1).f1)] 23 (0, 0)) (by (with_reducible repeat (first | refine blk_drewN ?_ _ | refine blk_drew ?_ | refine blk_alloc ?_ _)); refine blk_put (cs := #[.int .i64 ((rd_T23 l2 x12_1).f0), .int .i64 0]) ?_ 1 _ rfl; (with_reducible repeat (first | refine blk_drewN ?_ _ | refine blk_drew ?_ | refine blk_alloc ?_ _)); refine blk_put (cs := #[.int .i64 0, .int .i64 0]) ?_ 0 _ rfl; (with_reducible repeat (first | refine blk_drewN ?_ _ | refine blk_drew ?_ | refine blk_alloc ?_ _)); exact BK526.out) hb); have n3_ := Aside0.mk (below_step (by repeat (first | (with_reducible first | exact HB.out | apply below_alloc | apply pw_below_drewN | apply below_drew1 | refine below_set ?_ GE523.out | refine below_set ?_ GE524.out | refine below_set ?_ GE526.out) | exact HB.out)) hb); clear BK523; clear BK524; clear BK526; clear HB; have BK523 := n0_; have BK524 := n1_; have BK526 := n2_; have HB := n3_; clear n0_ n1_ n2_ n3_; clear hb))
           have n0_ := Aside0.mk (blk_drew BK523.out)
           have n1_ := Aside0.mk (blk_drew BK524.out)
           have n2_ := Aside0.mk (blk_drew BK526.out)
           have n3_ := Aside0.mk (below_drew1 HB.out)
           clear BK523
           clear BK524
           clear BK526
           clear HB
           have BK523 := n0_
           have BK524 := n1_
           have BK526 := n2_
           have HB := n3_
           clear n0_ n1_ n2_ n3_
           have p528 : 0 ≤ (x7_1 : Int) := dt_
           have q528 : x7_1 < (l2.length : Int) := dt_
           obtain ⟨ad528, e528, hx528_0, hx528_1⟩ := at_T23 HR2.out x7_1 p528 q528
           have hw528_1 := hx528_1
           have hw528_0 := hx528_0
           obtain rfl : ad525 = ad528 := (by injection e528)
           replace hx528_0 := (HB.out.cell (World.block_lt_of_cell? w _ hx528_0)).trans hx528_0
           replace hx528_1 := (HB.out.cell (World.block_lt_of_cell? w _ hx528_1)).trans hx528_1
           replace p528 := eq_true p528
           replace q528 := eq_true q528
           refine start_ (n := 12) (S := fun w' => w'.cell? ⟨gb523, 0, none⟩ = some (.int .i64 a0_0) ∧ w'.cell? ⟨gb523, 1, none⟩ = some (.int .i64 a0_1) ∧ w'.cell? ⟨gb524, 0, none⟩ = some (.int .i64 a1_0) ∧ w'.cell? ⟨gb524, 1, none⟩ = some (.int .i64 a1_1) ∧ w'.cell? ⟨gb526, 0, none⟩ = some (.int .i64 ((rd_T23 l2 x12_1).f0)) ∧ w'.cell? ⟨gb526, 1, none⟩ = some (.int .i64 ((rd_T23 l2 x12_1).f1)) ∧ w'.cell? (ad525.add ((x7_1).toNat * 2)) = some (.int .i64 ((rd_T23 l2 x7_1).f0)) ∧ w'.cell? ⟨(ad525.add ((x7_1).toNat * 2)).block, (ad525.add ((x7_1).toNat * 2)).off + 1, none⟩ = some (.int .i64 ((rd_T23 l2 x7_1).f1))) (ds := []) #[F_,F_,F_,F_,F_,F_,F_,F_,F_,F_,F_,F_] (by kernel_rfl) rfl rfl ⟨(blk_cell BK523.out 0).trans rfl, (blk_cell BK523.out 1).trans rfl, (blk_cell BK524.out 0).trans rfl, (blk_cell BK524.out 1).trans rfl, (blk_cell BK526.out 0).trans rfl, (blk_cell BK526.out 1).trans rfl, ((HB.out.cell (World.block_lt_of_cell? w _ hw528_0)).trans hw528_0), ((HB.out.cell (World.block_lt_of_cell? w _ hw528_1)).trans hw528_1)⟩ (fun hHeld => ?_); refine with_tabW tie_Best.tab6 tie_Best.bits6 (fun HT_ HW_ => ?_)
           generalize w32.drew = w33 at BK523 BK524 BK526 HB hx528_0 hx528_1 hHeld ⊢
           refine pA (i := 0) (N := some 22) (v := ?_) (a' := ?_) #[T_,F_,F_,F_,F_,F_,F_,F_,F_,F_,F_,F_] rfl rfl HT_ (Or.inl ⟨by rfl, ?_⟩) ?_ ?_
           rotate_left
           ·intro w'
            go_simp
            with_reducible rfl
           rotate_left
           ·simp only [Act.put, s1, s2, s3, i64_w, i32_w]
            rfl
           refine pA (i := 1) (N := some 23) (v := ?_) (a' := ?_) #[T_,T_,F_,F_,F_,F_,F_,F_,F_,F_,F_,F_] rfl rfl HT_ (Or.inl ⟨by rfl, ?_⟩) ?_ ?_
           rotate_left
           ·intro w'
            go_simp
            with_reducible rfl
           rotate_left
           ·simp only [Act.put, s1, s2, s3, i64_w, i32_w]
            rfl
           refine pA (i := 2) (N := some 24) (v := ?_) (a' := ?_) #[T_,T_,T_,F_,F_,F_,F_,F_,F_,F_,F_,F_] rfl rfl HT_ (Or.inl ⟨by rfl, ?_⟩) ?_ ?_
           rotate_left
           ·intro w'
            go_simp
            with_reducible rfl
           rotate_left
           ·simp only [Act.put, s1, s2, s3, i64_w, i32_w]
            rfl
           refine pA (i := 5) (N := some 27) (v := ?_) (a' := ?_) #[T_,T_,T_,F_,F_,T_,F_,F_,F_,F_,F_,F_] rfl rfl HT_ (Or.inl ⟨by rfl, ?_⟩) ?_ ?_
           rotate_left
           ·intro w'
            go_simp
            with_reducible rfl
           rotate_left
           ·simp only [Act.put, s1, s2, s3, i64_w, i32_w]
            rfl
           refine pA (i := 6) (N := some 28) (v := ?_) (a' := ?_) #[T_,T_,T_,F_,F_,T_,T_,F_,F_,F_,F_,F_] rfl rfl HT_ (Or.inl ⟨by rfl, ?_⟩) ?_ ?_
           rotate_left
           ·intro w'
            go_simp
            with_reducible rfl
           rotate_left
           ·simp only [Act.put, s1, s2, s3, i64_w, i32_w]
            rfl
           refine pA (i := 7) (N := some 29) (v := ?_) (a' := ?_) #[T_,T_,T_,F_,F_,T_,T_,T_,F_,F_,F_,F_] rfl rfl HT_ (Or.inl ⟨by rfl, ?_⟩) ?_ ?_
           rotate_left
           ·intro w'
            go_simp
            with_reducible rfl
           rotate_left
           ·simp only [Act.put, s1, s2, s3, i64_w, i32_w]
            rfl
           refine tA (i := 3) (N := some 25) (v := ?_) (a' := ?_) #[T_,T_,T_,T_,F_,T_,T_,T_,F_,F_,F_,F_] rfl rfl HT_ HW_ (Or.inl ⟨by rfl, ?_⟩) hHeld ?_ ?_
           rotate_left
           ·rintro w' ⟨s0, s1, s2, s3, s4, s5, s6, s7⟩
            go_simp
            with_reducible rfl
           rotate_left
           ·simp only [Act.put, s1, s2, s3, i64_w, i32_w]
            rfl
           refine tA (i := 4) (N := some 26) (v := ?_) (a' := ?_) #[T_,T_,T_,T_,T_,T_,T_,T_,F_,F_,F_,F_] rfl rfl HT_ HW_ (Or.inl ⟨by rfl, ?_⟩) hHeld ?_ ?_
           rotate_left
           ·rintro w' ⟨s0, s1, s2, s3, s4, s5, s6, s7⟩
            go_simp
            with_reducible rfl
           rotate_left
           ·simp only [Act.put, s1, s2, s3, i64_w, i32_w]
            rfl
           refine tA (i := 8) (N := some 30) (v := ?_) (a' := ?_) #[T_,T_,T_,T_,T_,T_,T_,T_,T_,F_,F_,F_] rfl rfl HT_ HW_ (Or.inl ⟨by rfl, ?_⟩) hHeld ?_ ?_
           rotate_left
           ·rintro w' ⟨s0, s1, s2, s3, s4, s5, s6, s7⟩
            go_simp
            with_reducible rfl
           rotate_left
           ·simp only [Act.put, s1, s2, s3, i64_w, i32_w]
            rfl
           refine tA (i := 9) (N := some 31) (v := ?_) (a' := ?_) #[T_,T_,T_,T_,T_,T_,T_,T_,T_,T_,F_,F_] rfl rfl HT_ HW_ (Or.inl ⟨by rfl, ?_⟩) hHeld ?_ ?_
           rotate_left
           ·rintro w' ⟨s0, s1, s2, s3, s4, s5, s6, s7⟩
            go_simp
            with_reducible rfl
           rotate_left
           ·simp only [Act.put, s1, s2, s3, i64_w, i32_w]
            rfl
           refine one_ (i := 10) (N := some 32) #[T_,T_,T_,T_,T_,T_,T_,T_,T_,T_,T_,F_] rfl rfl (one_of HT_.out (by kernel_rfl)) (by decide) (fun K hK => ?_)
           refine goes_ Try.func18 (by kernel_rfl) rfl #[.agg #[.int .i64 a0_0, .int .i64 a0_1], .agg #[.int .i64 a1_0, .int .i64 a1_1], .agg #[.int .i64 ((rd_T23 l2 x7_1).f0), .int .i64 ((rd_T23 l2 x7_1).f1)], .agg #[.int .i64 ((rd_T23 l2 x12_1).f0), .int .i64 ((rd_T23 l2 x12_1).f1)]] (by rfl) rfl rfl (by (try simp only [List.map_toArray, List.map_cons, List.map_nil]); first | done | rfl | (simp only [List.length_drop, List.length_take]; rfl)) ?_
           with_reducible refine (tie_conflict.calls k1 a0_0 a0_1 a1_0 a1_1 ((rd_T23 l2 x7_1).f0) ((rd_T23 l2 x7_1).f1) ((rd_T23 l2 x12_1).f0) ((rd_T23 l2 x12_1).f1) true _ A23.out).mono ?_
           rintro e w34 ⟨rfl, hb⟩
           refine ⟨_, rfl, ?_⟩
           have n0_ := u1 BK523 hb
           have n1_ := u1 BK524 hb
           have n2_ := u1 BK526 hb
           have n3_ := Aside0.mk (below_step (bw HB.out) hb)
           clear BK523
           clear BK524
           clear BK526
           clear HB
           have BK523 := n0_
           have BK524 := n1_
           have BK526 := n2_
           have HB := n3_
           clear n0_ n1_ n2_ n3_
           (try clear hb)
           (try clear hb2)
           (try clear hk)
           (try clear hi)
           refine hK.out _ _ ⟨(blk_cell BK523.out 0).trans rfl, (blk_cell BK523.out 1).trans rfl, (blk_cell BK524.out 0).trans rfl, (blk_cell BK524.out 1).trans rfl, (blk_cell BK526.out 0).trans rfl, (blk_cell BK526.out 1).trans rfl, ((HB.out.cell (World.block_lt_of_cell? w _ hw528_0)).trans hw528_0), ((HB.out.cell (World.block_lt_of_cell? w _ hw528_1)).trans hw528_1)⟩ (fun hHeld => ?_)
           clear hK K
           refine norm_ (a' := ?_) ?_ ?_
           rotate_left
           ·show Act.put _ (some 32) _ = _
            simp only [Act.put, s1, s2, s3, i64_w, i32_w]
            rfl
           refine pA (i := 11) (N := some 33) (v := ?_) (a' := ?_) #[T_,T_,T_,T_,T_,T_,T_,T_,T_,T_,T_,T_] rfl rfl HT_ (Or.inl ⟨by rfl, ?_⟩) ?_ ?_
           rotate_left
           ·intro w'
            go_simp
            with_reducible rfl
           rotate_left
           ·simp only [Act.put, s1, s2, s3, i64_w, i32_w]
            rfl
           refine done_ (done_of HT_.out (by kernel_rfl)) ?_
           try go_wp2
           go_roundg k1
           case measure => have := HK1.out; omega
           case rel => exact ⟨(x12_1), (wrap64 (x12_1 + 1)), (by first | rfl | (simp; done) | (simp [*]; done)), (by first | rfl | (simp; done) | (simp [*]; done)), H', ⟨by have := HK1.out; omega⟩, ⟨bk BK523.out⟩, ⟨bk BK524.out⟩, ⟨bw HB.out⟩⟩
          ·replace c24 := Bool.eq_false_iff.mpr c24
           subst c24
           rw [if_neg (show ¬ (false = true) by decide)] at H
           have H' := Aside0.mk H
           clear H
           have p525 : 0 ≤ (x12_1 : Int) := dt_
           have q525 : x12_1 < (l2.length : Int) := dt_
           obtain ⟨ad525, e525, hx525_0, hx525_1⟩ := at_T23 HR2.out x12_1 p525 q525
           cases e525
           replace hx525_0 := (HB.out.cell (World.block_lt_of_cell? w _ hx525_0)).trans hx525_0
           replace hx525_1 := (HB.out.cell (World.block_lt_of_cell? w _ hx525_1)).trans hx525_1
           replace p525 := eq_true p525
           replace q525 := eq_true q525
           try go_wp2_with (first | ((with_reducible refine gate_dst (N := 9) rfl ?_); refine box_event ?hg (N := 9) ?hd (cs := #[.int .i64 0, .int .i64 0]) (t := 23) ?hr ?_; (case hd => rfl); (case hg => rfl); (case hr => first | (go_simp; done) | (go_simp; rfl)); intro gb526 hg w35 hbox hb; have n0_ := u1 BK523 hb; have n1_ := u1 BK524 hb; have n2_ := Aside0.mk (below_step (by repeat (first | (with_reducible first | exact HB.out | apply below_alloc | apply pw_below_drewN | apply below_drew1 | refine below_set ?_ GE523.out | refine below_set ?_ GE524.out) | exact HB.out)) hb); have n3_ := Aside0.mk hbox; have n4_ := Aside0.mk ((by rw [hg]; exact (below_size (by repeat (first | (with_reducible first | exact HB.out | apply below_alloc | apply pw_below_drewN | apply below_drew1 | refine below_set ?_ GE523.out | refine below_set ?_ GE524.out) | exact HB.out))) : w.heap.size ≤ gb526)); have n5_ := Aside0.mk ((by rw [hg]; exact (below_size (by repeat (first | (with_reducible first | exact HB.out | apply below_alloc | apply pw_below_drewN | apply below_drew1 | refine below_set ?_ GE523.out | refine below_set ?_ GE524.out) | exact HB.out))) : w.heap.size ≤ gb526)); have n6_ := u4 hg BK523; have n7_ := u5 hg BK523; have n8_ := u4 hg BK524; have n9_ := u5 hg BK524; clear BK523; clear BK524; clear HB; have BK523 := n0_; have BK524 := n1_; have HB := n2_; have BK526 := n3_; have GW526 := n4_; have GE526 := n5_; have NB523_526 := n6_; have NB526_523 := n7_; have NB524_526 := n8_; have NB526_524 := n9_; clear n0_ n1_ n2_ n3_ n4_ n5_ n6_ n7_ n8_ n9_; clear hb hbox hg; have hnb36 := NB526_523.out; have hnc36 := NB523_526.out; have hnb37 := NB526_524.out; have hnc37 := NB524_526.out; obtain ⟨_, _, _, _⟩ := p2 BK526; have hnb39 := NB523_524.out; have hnc39 := NB524_523.out; obtain ⟨_, _, _, _⟩ := p2 BK523; obtain ⟨_, _, _, _⟩ := p2 BK524) | ((with_reducible refine gate_callee (f := 26) rfl ?_); refine goesL_ (some 20) rfl rfl Try.func26 (by kernel_rfl) rfl #[.agg #[.int .i64 a0_0, .int .i64 a0_1], .agg #[.int .i64 a1_0, .int .i64 a1_1], .agg #[.int .i64 ((rd_T23 l2 x12_1).f0), .int .i64 ((rd_T23 l2 x12_1).f1)]] rfl (by (try simp only [List.map_toArray, List.map_cons, List.map_nil]); first | done | rfl | (simp only [List.length_drop, List.length_take]; rfl)) ?_; (with_reducible refine (pred_Orient.calls k1 a0_0 a0_1 a1_0 a1_1 ((rd_T23 l2 x12_1).f0) ((rd_T23 l2 x12_1).f1) t527 _ A9.out).mono ?_); rintro e w42 ⟨rfl, hb⟩; refine ⟨_, rfl, ?_⟩; have n0_ := Aside0.mk (blk_below (g := gb523) (o := .cells #[.int .i64 a0_0, .int .i64 a0_1] 23 (0, 0)) (by (with_reducible repeat (first | refine blk_drewN ?_ _ | refine blk_drew ?_ | refine blk_alloc ?_ _)); refine blk_far ?_ NB523_526.out _; (with_reducible repeat (first | refine blk_drewN ?_ _ | refine blk_drew ?_ | refine blk_alloc ?_ _)); refine blk_far ?_ NB523_526.out _; (with_reducible repeat (first | refine blk_drewN ?_ _ | refine blk_drew ?_ | refine blk_alloc ?_ _)); exact BK523.out) hb); have n1_ := Aside0.mk (blk_below (g := gb524) (o := .cells #[.int .i64 a1_0, .int .i64 a1_1] 23 (0, 0)) (by (with_reducible repeat (first | refine blk_drewN ?_ _ | refine blk_drew ?_ | refine blk_alloc ?_ _)); refine blk_far ?_ NB524_526.out _; (with_reducible repeat (first | refine blk_drewN ?_ _ | refine blk_drew ?_ | refine blk_alloc ?_ _)); refine blk_far ?_ NB524_526.out _; (with_reducible repeat (first | refine blk_drewN ?_ _ | refine blk_drew ?_ | refine blk_alloc ?_ _)); exact BK524.out) hb); have n2_ := Aside0.mk (blk_below (g := gb526) (o := .cells #[.int .i64 ((rd_T23 l2 x12_1).f0), .int .i64 ((rd_T23 l2 x12_1).f1)] 23 (0, 0)) (by (with_reducible repeat (first | refine blk_drewN ?_ _ | refine blk_drew ?_ | refine blk_alloc ?_ _)); refine blk_put (cs := #[.int .i64 ((rd_T23 l2 x12_1).f0), .int .i64 0]) ?_ 1 _ rfl; (with_reducible repeat (first | refine blk_drewN ?_ _ | refine blk_drew ?_ | refine blk_alloc ?_ _)); refine blk_put (cs := #[.int .i64 0, .int .i64 0]) ?_ 0 _ rfl; (with_reducible repeat (first | refine blk_drewN ?_ _ | refine blk_drew ?_ | refine blk_alloc ?_ _)); exact BK526.out) hb); have n3_ := Aside0.mk (below_step (by repeat (first | (with_reducible first | exact HB.out | apply below_alloc | apply pw_below_drewN | apply below_drew1 | refine below_set ?_ GE523.out | refine below_set ?_ GE524.out | refine below_set ?_ GE526.out) | exact HB.out)) hb); clear BK523; clear BK524; clear BK526; clear HB; have BK523 := n0_; have BK524 := n1_; have BK526 := n2_; have HB := n3_; clear n0_ n1_ n2_ n3_; clear hb))
           have n0_ := Aside0.mk (blk_drew BK523.out)
           have n1_ := Aside0.mk (blk_drew BK524.out)
           have n2_ := Aside0.mk (blk_drew BK526.out)
           have n3_ := Aside0.mk (below_drew1 HB.out)
           clear BK523
           clear BK524
           clear BK526
           clear HB
           have BK523 := n0_
           have BK524 := n1_
           have BK526 := n2_
           have HB := n3_
           clear n0_ n1_ n2_ n3_
           have p528 : 0 ≤ (x7_1 : Int) := dt_
           have q528 : x7_1 < (l2.length : Int) := dt_
           obtain ⟨ad528, e528, hx528_0, hx528_1⟩ := at_T23 HR2.out x7_1 p528 q528
           have hw528_1 := hx528_1
           have hw528_0 := hx528_0
           obtain rfl : ad525 = ad528 := (by injection e528)
           replace hx528_0 := (HB.out.cell (World.block_lt_of_cell? w _ hx528_0)).trans hx528_0
           replace hx528_1 := (HB.out.cell (World.block_lt_of_cell? w _ hx528_1)).trans hx528_1
           replace p528 := eq_true p528
           replace q528 := eq_true q528
           refine start_ (n := 12) (S := fun w' => w'.cell? ⟨gb523, 0, none⟩ = some (.int .i64 a0_0) ∧ w'.cell? ⟨gb523, 1, none⟩ = some (.int .i64 a0_1) ∧ w'.cell? ⟨gb524, 0, none⟩ = some (.int .i64 a1_0) ∧ w'.cell? ⟨gb524, 1, none⟩ = some (.int .i64 a1_1) ∧ w'.cell? ⟨gb526, 0, none⟩ = some (.int .i64 ((rd_T23 l2 x12_1).f0)) ∧ w'.cell? ⟨gb526, 1, none⟩ = some (.int .i64 ((rd_T23 l2 x12_1).f1)) ∧ w'.cell? (ad525.add ((x7_1).toNat * 2)) = some (.int .i64 ((rd_T23 l2 x7_1).f0)) ∧ w'.cell? ⟨(ad525.add ((x7_1).toNat * 2)).block, (ad525.add ((x7_1).toNat * 2)).off + 1, none⟩ = some (.int .i64 ((rd_T23 l2 x7_1).f1))) (ds := []) #[F_,F_,F_,F_,F_,F_,F_,F_,F_,F_,F_,F_] (by kernel_rfl) rfl rfl ⟨(blk_cell BK523.out 0).trans rfl, (blk_cell BK523.out 1).trans rfl, (blk_cell BK524.out 0).trans rfl, (blk_cell BK524.out 1).trans rfl, (blk_cell BK526.out 0).trans rfl, (blk_cell BK526.out 1).trans rfl, ((HB.out.cell (World.block_lt_of_cell? w _ hw528_0)).trans hw528_0), ((HB.out.cell (World.block_lt_of_cell? w _ hw528_1)).trans hw528_1)⟩ (fun hHeld => ?_); refine with_tabW tie_Best.tab6 tie_Best.bits6 (fun HT_ HW_ => ?_)
           generalize w42.drew = w43 at BK523 BK524 BK526 HB hx528_0 hx528_1 hHeld ⊢
           refine pA (i := 0) (N := some 22) (v := ?_) (a' := ?_) #[T_,F_,F_,F_,F_,F_,F_,F_,F_,F_,F_,F_] rfl rfl HT_ (Or.inl ⟨by rfl, ?_⟩) ?_ ?_
           rotate_left
           ·intro w'
            go_simp
            with_reducible rfl
           rotate_left
           ·simp only [Act.put, s1, s2, s3, i64_w, i32_w]
            rfl
           refine pA (i := 1) (N := some 23) (v := ?_) (a' := ?_) #[T_,T_,F_,F_,F_,F_,F_,F_,F_,F_,F_,F_] rfl rfl HT_ (Or.inl ⟨by rfl, ?_⟩) ?_ ?_
           rotate_left
           ·intro w'
            go_simp
            with_reducible rfl
           rotate_left
           ·simp only [Act.put, s1, s2, s3, i64_w, i32_w]
            rfl
           refine pA (i := 2) (N := some 24) (v := ?_) (a' := ?_) #[T_,T_,T_,F_,F_,F_,F_,F_,F_,F_,F_,F_] rfl rfl HT_ (Or.inl ⟨by rfl, ?_⟩) ?_ ?_
           rotate_left
           ·intro w'
            go_simp
            with_reducible rfl
           rotate_left
           ·simp only [Act.put, s1, s2, s3, i64_w, i32_w]
            rfl
           refine pA (i := 5) (N := some 27) (v := ?_) (a' := ?_) #[T_,T_,T_,F_,F_,T_,F_,F_,F_,F_,F_,F_] rfl rfl HT_ (Or.inl ⟨by rfl, ?_⟩) ?_ ?_
           rotate_left
           ·intro w'
            go_simp
            with_reducible rfl
           rotate_left
           ·simp only [Act.put, s1, s2, s3, i64_w, i32_w]
            rfl
           refine pA (i := 6) (N := some 28) (v := ?_) (a' := ?_) #[T_,T_,T_,F_,F_,T_,T_,F_,F_,F_,F_,F_] rfl rfl HT_ (Or.inl ⟨by rfl, ?_⟩) ?_ ?_
           rotate_left
           ·intro w'
            go_simp
            with_reducible rfl
           rotate_left
           ·simp only [Act.put, s1, s2, s3, i64_w, i32_w]
            rfl
           refine pA (i := 7) (N := some 29) (v := ?_) (a' := ?_) #[T_,T_,T_,F_,F_,T_,T_,T_,F_,F_,F_,F_] rfl rfl HT_ (Or.inl ⟨by rfl, ?_⟩) ?_ ?_
           rotate_left
           ·intro w'
            go_simp
            with_reducible rfl
           rotate_left
           ·simp only [Act.put, s1, s2, s3, i64_w, i32_w]
            rfl
           refine tA (i := 3) (N := some 25) (v := ?_) (a' := ?_) #[T_,T_,T_,T_,F_,T_,T_,T_,F_,F_,F_,F_] rfl rfl HT_ HW_ (Or.inl ⟨by rfl, ?_⟩) hHeld ?_ ?_
           rotate_left
           ·rintro w' ⟨s0, s1, s2, s3, s4, s5, s6, s7⟩
            go_simp
            with_reducible rfl
           rotate_left
           ·simp only [Act.put, s1, s2, s3, i64_w, i32_w]
            rfl
           refine tA (i := 4) (N := some 26) (v := ?_) (a' := ?_) #[T_,T_,T_,T_,T_,T_,T_,T_,F_,F_,F_,F_] rfl rfl HT_ HW_ (Or.inl ⟨by rfl, ?_⟩) hHeld ?_ ?_
           rotate_left
           ·rintro w' ⟨s0, s1, s2, s3, s4, s5, s6, s7⟩
            go_simp
            with_reducible rfl
           rotate_left
           ·simp only [Act.put, s1, s2, s3, i64_w, i32_w]
            rfl
           refine tA (i := 8) (N := some 30) (v := ?_) (a' := ?_) #[T_,T_,T_,T_,T_,T_,T_,T_,T_,F_,F_,F_] rfl rfl HT_ HW_ (Or.inl ⟨by rfl, ?_⟩) hHeld ?_ ?_
           rotate_left
           ·rintro w' ⟨s0, s1, s2, s3, s4, s5, s6, s7⟩
            go_simp
            with_reducible rfl
           rotate_left
           ·simp only [Act.put, s1, s2, s3, i64_w, i32_w]
            rfl
           refine tA (i := 9) (N := some 31) (v := ?_) (a' := ?_) #[T_,T_,T_,T_,T_,T_,T_,T_,T_,T_,F_,F_] rfl rfl HT_ HW_ (Or.inl ⟨by rfl, ?_⟩) hHeld ?_ ?_
           rotate_left
           ·rintro w' ⟨s0, s1, s2, s3, s4, s5, s6, s7⟩
            go_simp
            with_reducible rfl
           rotate_left
           ·simp only [Act.put, s1, s2, s3, i64_w, i32_w]
            rfl
           refine one_ (i := 10) (N := some 32) #[T_,T_,T_,T_,T_,T_,T_,T_,T_,T_,T_,F_] rfl rfl (one_of HT_.out (by kernel_rfl)) (by decide) (fun K hK => ?_)
           refine goes_ Try.func18 (by kernel_rfl) rfl #[.agg #[.int .i64 a0_0, .int .i64 a0_1], .agg #[.int .i64 a1_0, .int .i64 a1_1], .agg #[.int .i64 ((rd_T23 l2 x7_1).f0), .int .i64 ((rd_T23 l2 x7_1).f1)], .agg #[.int .i64 ((rd_T23 l2 x12_1).f0), .int .i64 ((rd_T23 l2 x12_1).f1)]] (by rfl) rfl rfl (by (try simp only [List.map_toArray, List.map_cons, List.map_nil]); first | done | rfl | (simp only [List.length_drop, List.length_take]; rfl)) ?_
           with_reducible refine (tie_conflict.calls k1 a0_0 a0_1 a1_0 a1_1 ((rd_T23 l2 x7_1).f0) ((rd_T23 l2 x7_1).f1) ((rd_T23 l2 x12_1).f0) ((rd_T23 l2 x12_1).f1) false _ A23.out).mono ?_
           rintro e w44 ⟨rfl, hb⟩
           refine ⟨_, rfl, ?_⟩
           have n0_ := u1 BK523 hb
           have n1_ := u1 BK524 hb
           have n2_ := u1 BK526 hb
           have n3_ := Aside0.mk (below_step (bw HB.out) hb)
           clear BK523
           clear BK524
           clear BK526
           clear HB
           have BK523 := n0_
           have BK524 := n1_
           have BK526 := n2_
           have HB := n3_
           clear n0_ n1_ n2_ n3_
           (try clear hb)
           (try clear hb2)
           (try clear hk)
           (try clear hi)
           refine hK.out _ _ ⟨(blk_cell BK523.out 0).trans rfl, (blk_cell BK523.out 1).trans rfl, (blk_cell BK524.out 0).trans rfl, (blk_cell BK524.out 1).trans rfl, (blk_cell BK526.out 0).trans rfl, (blk_cell BK526.out 1).trans rfl, ((HB.out.cell (World.block_lt_of_cell? w _ hw528_0)).trans hw528_0), ((HB.out.cell (World.block_lt_of_cell? w _ hw528_1)).trans hw528_1)⟩ (fun hHeld => ?_)
           clear hK K
           refine norm_ (a' := ?_) ?_ ?_
           rotate_left
           ·show Act.put _ (some 32) _ = _
            simp only [Act.put, s1, s2, s3, i64_w, i32_w]
            rfl
           refine pA (i := 11) (N := some 33) (v := ?_) (a' := ?_) #[T_,T_,T_,T_,T_,T_,T_,T_,T_,T_,T_,T_] rfl rfl HT_ (Or.inl ⟨by rfl, ?_⟩) ?_ ?_
           rotate_left
           ·intro w'
            go_simp
            with_reducible rfl
           rotate_left
           ·simp only [Act.put, s1, s2, s3, i64_w, i32_w]
            rfl
           refine done_ (done_of HT_.out (by kernel_rfl)) ?_
           try go_wp2
           go_roundg k1
           case measure => have := HK1.out; omega
           case rel => exact ⟨(x7_1), (wrap64 (x12_1 + 1)), (by first | rfl | (simp; done) | (simp [*]; done)), (by first | rfl | (simp; done) | (simp [*]; done)), H', ⟨by have := HK1.out; omega⟩, ⟨bk BK523.out⟩, ⟨bk BK524.out⟩, ⟨bw HB.out⟩⟩
         ·rw [if_neg c22] at H
          exact absurd H (by simp)
        ·rw [if_neg c21] at H
         exact absurd H (by simp)
      ·rw [if_neg c10] at H
       have c10b0 : (t527 == 1) = false := beq_eq_false_iff_ne.mpr c10
       have c10b1 : (t527 != 1) = true := bne_iff_ne.mpr c10
       have H' := Aside0.mk H
       clear H
       have p525 : 0 ≤ (x12_1 : Int) := dt_
       have q525 : x12_1 < (l2.length : Int) := dt_
       obtain ⟨ad525, e525, hx525_0, hx525_1⟩ := at_T23 HR2.out x12_1 p525 q525
       cases e525
       replace hx525_0 := (HB.out.cell (World.block_lt_of_cell? w _ hx525_0)).trans hx525_0
       replace hx525_1 := (HB.out.cell (World.block_lt_of_cell? w _ hx525_1)).trans hx525_1
       replace p525 := eq_true p525
       replace q525 := eq_true q525
       go_wp2_with (first | ((with_reducible refine gate_dst (N := 9) rfl ?_); refine box_event ?hg (N := 9) ?hd (cs := #[.int .i64 0, .int .i64 0]) (t := 23) ?hr ?_; (case hd => rfl); (case hg => rfl); (case hr => first | (go_simp; done) | (go_simp; rfl)); intro gb526 hg w45 hbox hb; have n0_ := u1 BK523 hb; have n1_ := u1 BK524 hb; have n2_ := Aside0.mk (below_step (by repeat (first | (with_reducible first | exact HB.out | apply below_alloc | apply pw_below_drewN | apply below_drew1 | refine below_set ?_ GE523.out | refine below_set ?_ GE524.out) | exact HB.out)) hb); have n3_ := Aside0.mk hbox; have n4_ := Aside0.mk ((by rw [hg]; exact (below_size (by repeat (first | (with_reducible first | exact HB.out | apply below_alloc | apply pw_below_drewN | apply below_drew1 | refine below_set ?_ GE523.out | refine below_set ?_ GE524.out) | exact HB.out))) : w.heap.size ≤ gb526)); have n5_ := Aside0.mk ((by rw [hg]; exact (below_size (by repeat (first | (with_reducible first | exact HB.out | apply below_alloc | apply pw_below_drewN | apply below_drew1 | refine below_set ?_ GE523.out | refine below_set ?_ GE524.out) | exact HB.out))) : w.heap.size ≤ gb526)); have n6_ := u4 hg BK523; have n7_ := u5 hg BK523; have n8_ := u4 hg BK524; have n9_ := u5 hg BK524; clear BK523; clear BK524; clear HB; have BK523 := n0_; have BK524 := n1_; have HB := n2_; have BK526 := n3_; have GW526 := n4_; have GE526 := n5_; have NB523_526 := n6_; have NB526_523 := n7_; have NB524_526 := n8_; have NB526_524 := n9_; clear n0_ n1_ n2_ n3_ n4_ n5_ n6_ n7_ n8_ n9_; clear hb hbox hg; have hnb46 := NB526_523.out; have hnc46 := NB523_526.out; have hnb47 := NB526_524.out; have hnc47 := NB524_526.out; obtain ⟨_, _, _, _⟩ := p2 BK526; have hnb49 := NB523_524.out; have hnc49 := NB524_523.out; obtain ⟨_, _, _, _⟩ := p2 BK523; obtain ⟨_, _, _, _⟩ := p2 BK524) | ((with_reducible refine gate_callee (f := 26) rfl ?_); refine goesL_ (some 20) rfl rfl Try.func26 (by kernel_rfl) rfl #[.agg #[.int .i64 a0_0, .int .i64 a0_1], .agg #[.int .i64 a1_0, .int .i64 a1_1], .agg #[.int .i64 ((rd_T23 l2 x12_1).f0), .int .i64 ((rd_T23 l2 x12_1).f1)]] rfl (by (try simp only [List.map_toArray, List.map_cons, List.map_nil]); first | done | rfl | (simp only [List.length_drop, List.length_take]; rfl)) ?_; (with_reducible refine (pred_Orient.calls k1 a0_0 a0_1 a1_0 a1_1 ((rd_T23 l2 x12_1).f0) ((rd_T23 l2 x12_1).f1) t527 _ A9.out).mono ?_); rintro e w52 ⟨rfl, hb⟩; refine ⟨_, rfl, ?_⟩; have n0_ := Aside0.mk (blk_below (g := gb523) (o := .cells #[.int .i64 a0_0, .int .i64 a0_1] 23 (0, 0)) (by (with_reducible repeat (first | refine blk_drewN ?_ _ | refine blk_drew ?_ | refine blk_alloc ?_ _)); refine blk_far ?_ NB523_526.out _; (with_reducible repeat (first | refine blk_drewN ?_ _ | refine blk_drew ?_ | refine blk_alloc ?_ _)); refine blk_far ?_ NB523_526.out _; (with_reducible repeat (first | refine blk_drewN ?_ _ | refine blk_drew ?_ | refine blk_alloc ?_ _)); exact BK523.out) hb); have n1_ := Aside0.mk (blk_below (g := gb524) (o := .cells #[.int .i64 a1_0, .int .i64 a1_1] 23 (0, 0)) (by (with_reducible repeat (first | refine blk_drewN ?_ _ | refine blk_drew ?_ | refine blk_alloc ?_ _)); refine blk_far ?_ NB524_526.out _; (with_reducible repeat (first | refine blk_drewN ?_ _ | refine blk_drew ?_ | refine blk_alloc ?_ _)); refine blk_far ?_ NB524_526.out _; (with_reducible repeat (first | refine blk_drewN ?_ _ | refine blk_drew ?_ | refine blk_alloc ?_ _)); exact BK524.out) hb); have n2_ := Aside0.mk (blk_below (g := gb526) (o := .cells #[.int .i64 ((rd_T23 l2 x12_1).f0), .int .i64 ((rd_T23 l2 x12_1).f1)] 23 (0, 0)) (by (with_reducible repeat (first | refine blk_drewN ?_ _ | refine blk_drew ?_ | refine blk_alloc ?_ _)); refine blk_put (cs := #[.int .i64 ((rd_T23 l2 x12_1).f0), .int .i64 0]) ?_ 1 _ rfl; (with_reducible repeat (first | refine blk_drewN ?_ _ | refine blk_drew ?_ | refine blk_alloc ?_ _)); refine blk_put (cs := #[.int .i64 0, .int .i64 0]) ?_ 0 _ rfl; (with_reducible repeat (first | refine blk_drewN ?_ _ | refine blk_drew ?_ | refine blk_alloc ?_ _)); exact BK526.out) hb); have n3_ := Aside0.mk (below_step (by repeat (first | (with_reducible first | exact HB.out | apply below_alloc | apply pw_below_drewN | apply below_drew1 | refine below_set ?_ GE523.out | refine below_set ?_ GE524.out | refine below_set ?_ GE526.out) | exact HB.out)) hb); clear BK523; clear BK524; clear BK526; clear HB; have BK523 := n0_; have BK524 := n1_; have BK526 := n2_; have HB := n3_; clear n0_ n1_ n2_ n3_; clear hb))
       go_roundg k1
       case measure => have := HK1.out; omega
       case rel => exact ⟨(x7_1), (wrap64 (x12_1 + 1)), (by first | rfl | (simp; done) | (simp [*]; done)), (by first | rfl | (simp; done) | (simp [*]; done)), H', ⟨by have := HK1.out; omega⟩, ⟨bk BK523.out⟩, ⟨bk BK524.out⟩, ⟨bw HB.out⟩⟩
     ·rw [if_neg c8] at H
      exact absurd H (by simp)
    ·rw [if_neg c7] at H
     exact absurd H (by simp)
   ·rw [if_neg c6] at H
    have c6b0 : decide (x12_1 < (l2.length : Int)) = false := decide_eq_false c6
    clear c6
    obtain rfl := Option.some.inj H
    go_wp2
    go_ret
    exact ⟨by first | rfl | (simp [*, errW_none, errW_some] <;> rfl), bw HB.out⟩
end Go.Proofs.Ytlkngfidohiepaa.F
end
section
namespace Go.Proofs.Ytlkngfidohiepaa.F
open RowKit YtlkngfidohiepaaW.PrintWords YtlkngfidohiepaaW.PrintLast YtlkngfidohiepaaW.PrintMore
set_option linter.unusedVariables false
set_option linter.unusedSimpArgs false
def zelligelaw08_lives.f (k : Nat)  : Option (Bool) := (tie_Conflict.f k 0 0 1 0 1 1 0 1).bind fun t534 => (if t534 = true then ((tie_Conflict.f k 1 0 1 1 0 1 0 0).bind fun t535 => (if t535 = true then (some false) else ((tie_Best.f k 0 0 1 0 (([(⟨0, 0⟩ : S23), (⟨1, 1⟩ : S23), (⟨0, 1⟩ : S23)] : List (S23)))).bind fun t539 => (some (t539 == 2))))) else (some false))
theorem zelligelaw08_lives.mono : ∀ k, LeO (zelligelaw08_lives.f k ) (zelligelaw08_lives.f (k + 1) ) := by
 intro  k
 unfold zelligelaw08_lives.f
 repeat' first
   | (with_reducible exact tie_Best.mono _ _ _ _ _ _)
   | (with_reducible exact tie_Conflict.mono _ _ _ _ _ _ _ _ _)
   | (with_reducible exact LeO.refl _)
   | (with_reducible exact LeO.none _)
   | (with_reducible refine LeO.ite ?_ ?_)
   | (with_reducible refine LeO.bind ?_ (fun _ => ?_))
   | exact tie_Best.mono _ _ _ _ _ _
   | exact tie_Conflict.mono _ _ _ _ _ _ _ _ _
   | exact LeO.none _
   | refine LeO.ite ?_ ?_
   | refine LeO.bind ?_ (fun _ => ?_)
set_option maxHeartbeats 8000000 in
set_option maxRecDepth 100000 in
theorem zelligelaw08_lives.calls (k : Nat)  (r : Bool) (w : World) (h : zelligelaw08_lives.f k  = some r) :
  Calls Try.prog 10 #[] w fun e w' => e = .returned (.bool r) ∧ Below w.heap.size w w' := by
 have hu23 := Try.underlying23
 have HB := Aside0.mk (Below.refl w.heap.size w)
 have H : ((tie_Conflict.f k 0 0 1 0 1 1 0 1).bind fun t534 => (if t534 = true then ((tie_Conflict.f k 1 0 1 1 0 1 0 0).bind fun t535 => (if t535 = true then (some false) else ((tie_Best.f k 0 0 1 0 (([(⟨0, 0⟩ : S23), (⟨1, 1⟩ : S23), (⟨0, 1⟩ : S23)] : List (S23)))).bind fun t539 => (some (t539 == 2))))) else (some false))) = some r := h
 clear h
 replace H := Option.bind_eq_some_iff.mp H
 obtain ⟨t534, A10, H⟩ := H
 try dsimp only at H
 have A1 := Aside0.mk A10
 clear A10
 by_cases c2 : t534 = true
 ·subst c2
  rw [if_pos rfl] at H
  replace H := Option.bind_eq_some_iff.mp H
  obtain ⟨t535, A30, H⟩ := H
  try dsimp only at H
  have A3 := Aside0.mk A30
  clear A30
  by_cases c4 : t535 = true
  ·subst c4
   rw [if_pos rfl] at H
   obtain rfl := Option.some.inj H
   go_enter Try.func10, Try.ntmps10
   go_wp2_with (first | ((with_reducible refine gate_dst (N := 1) rfl ?_); (try (refine gate_guard (by rfl) ?_; dsimp only)); refine box_event ?hg (N := 1) ?hd (cs := #[.int .i64 0, .int .i64 0]) (t := 23) ?hr ?_; (case hd => rfl); (case hg => rfl); (case hr => first | (go_simp; done) | (go_simp; rfl)); intro gb530 hg w5 hbox hb; have BK530 := Aside0.mk hbox; have GW530 := u3 hg HB; have GE530 := u3 hg HB; replace HB := u2 HB hb; clear hb hbox hg) | ((with_reducible refine gate_dst (N := 2) rfl ?_); (try (refine gate_guard (by rfl) ?_; dsimp only)); refine box_event ?hg (N := 2) ?hd (cs := #[.int .i64 0, .int .i64 0]) (t := 23) ?hr ?_; (case hd => rfl); (case hg => rfl); (case hr => first | (go_simp; done) | (go_simp; rfl)); intro gb531 hg w6 hbox hb; have n0_ := u1 BK530 hb; have n1_ := Aside0.mk (below_step (by repeat (first | (with_reducible first | exact HB.out | apply below_alloc | apply pw_below_drewN | apply below_drew1 | refine below_set ?_ GE530.out) | exact HB.out)) hb); have n2_ := Aside0.mk hbox; have n3_ := Aside0.mk ((by rw [hg]; exact (below_size (by repeat (first | (with_reducible first | exact HB.out | apply below_alloc | apply pw_below_drewN | apply below_drew1 | refine below_set ?_ GE530.out) | exact HB.out))) : w.heap.size ≤ gb531)); have n4_ := Aside0.mk ((by rw [hg]; exact (below_size (by repeat (first | (with_reducible first | exact HB.out | apply below_alloc | apply pw_below_drewN | apply below_drew1 | refine below_set ?_ GE530.out) | exact HB.out))) : w.heap.size ≤ gb531)); have n5_ := u4 hg BK530; have n6_ := u5 hg BK530; clear BK530; clear HB; have BK530 := n0_; have HB := n1_; have BK531 := n2_; have GW531 := n3_; have GE531 := n4_; have NB530_531 := n5_; have NB531_530 := n6_; clear n0_ n1_ n2_ n3_ n4_ n5_ n6_; clear hb hbox hg) | ((with_reducible refine gate_dst (N := 3) rfl ?_); (try (refine gate_guard (by rfl) ?_; dsimp only)); refine box_event ?hg (N := 3) ?hd (cs := #[.int .i64 0, .int .i64 0]) (t := 23) ?hr ?_; (case hd => rfl); (case hg => rfl); (case hr => first | (go_simp; done) | (go_simp; rfl)); intro gb532 hg w7 hbox hb; have n0_ := u1 BK530 hb; have n1_ := u1 BK531 hb; have n2_ := Aside0.mk (below_step (by repeat (first | (with_reducible first | exact HB.out | apply below_alloc | apply pw_below_drewN | apply below_drew1 | refine below_set ?_ GE530.out | refine below_set ?_ GE531.out) | exact HB.out)) hb); have n3_ := Aside0.mk hbox; have n4_ := Aside0.mk ((by rw [hg]; exact (below_size (by repeat (first | (with_reducible first | exact HB.out | apply below_alloc | apply pw_below_drewN | apply below_drew1 | refine below_set ?_ GE530.out | refine below_set ?_ GE531.out) | exact HB.out))) : w.heap.size ≤ gb532)); have n5_ := Aside0.mk ((by rw [hg]; exact (below_size (by repeat (first | (with_reducible first | exact HB.out | apply below_alloc | apply pw_below_drewN | apply below_drew1 | refine below_set ?_ GE530.out | refine below_set ?_ GE531.out) | exact HB.out))) : w.heap.size ≤ gb532)); have n6_ := u4 hg BK530; have n7_ := u5 hg BK530; have n8_ := u4 hg BK531; have n9_ := u5 hg BK531; clear BK530; clear BK531; clear HB; have BK530 := n0_; have BK531 := n1_; have HB := n2_; have BK532 := n3_; have GW532 := n4_; have GE532 := n5_; have NB530_532 := n6_; have NB532_530 := n7_; have NB531_532 := n8_; have NB532_531 := n9_; clear n0_ n1_ n2_ n3_ n4_ n5_ n6_ n7_ n8_ n9_; clear hb hbox hg) | ((with_reducible refine gate_dst (N := 4) rfl ?_); (try (refine gate_guard (by rfl) ?_; dsimp only)); refine box_event ?hg (N := 4) ?hd (cs := #[.int .i64 0, .int .i64 0]) (t := 23) ?hr ?_; (case hd => rfl); (case hg => rfl); (case hr => first | (go_simp; done) | (go_simp; rfl)); intro gb533 hg w8 hbox hb; have n0_ := u1 BK530 hb; have n1_ := u1 BK531 hb; have n2_ := u1 BK532 hb; have n3_ := Aside0.mk (below_step (by repeat (first | (with_reducible first | exact HB.out | apply below_alloc | apply pw_below_drewN | apply below_drew1 | refine below_set ?_ GE530.out | refine below_set ?_ GE531.out | refine below_set ?_ GE532.out) | exact HB.out)) hb); have n4_ := Aside0.mk hbox; have n5_ := Aside0.mk ((by rw [hg]; exact (below_size (by repeat (first | (with_reducible first | exact HB.out | apply below_alloc | apply pw_below_drewN | apply below_drew1 | refine below_set ?_ GE530.out | refine below_set ?_ GE531.out | refine below_set ?_ GE532.out) | exact HB.out))) : w.heap.size ≤ gb533)); have n6_ := Aside0.mk ((by rw [hg]; exact (below_size (by repeat (first | (with_reducible first | exact HB.out | apply below_alloc | apply pw_below_drewN | apply below_drew1 | refine below_set ?_ GE530.out | refine below_set ?_ GE531.out | refine below_set ?_ GE532.out) | exact HB.out))) : w.heap.size ≤ gb533)); have n7_ := u4 hg BK530; have n8_ := u5 hg BK530; have n9_ := u4 hg BK531; have n10_ := u5 hg BK531; have n11_ := u4 hg BK532; have n12_ := u5 hg BK532; clear BK530; clear BK531; clear BK532; clear HB; have BK530 := n0_; have BK531 := n1_; have BK532 := n2_; have HB := n3_; have BK533 := n4_; have GW533 := n5_; have GE533 := n6_; have NB530_533 := n7_; have NB533_530 := n8_; have NB531_533 := n9_; have NB533_531 := n10_; have NB532_533 := n11_; have NB533_532 := n12_; clear n0_ n1_ n2_ n3_ n4_ n5_ n6_ n7_ n8_ n9_ n10_ n11_ n12_; clear hb hbox hg; have hnb9 := NB530_531.out; have hnc9 := NB531_530.out; have hnb10 := NB530_532.out; have hnc10 := NB532_530.out; have hnb11 := NB530_533.out; have hnc11 := NB533_530.out; obtain ⟨_, _, _, _⟩ := p2 BK530; have hnb13 := NB531_532.out; have hnc13 := NB532_531.out; have hnb14 := NB531_533.out; have hnc14 := NB533_531.out; obtain ⟨_, _, _, _⟩ := p2 BK531; have hnb16 := NB532_533.out; have hnc16 := NB533_532.out; obtain ⟨_, _, _, _⟩ := p2 BK532; obtain ⟨_, _, _, _⟩ := p2 BK533) | ((with_reducible refine gate_callee (f := 8) rfl ?_); refine goesL_ (some 13) rfl rfl Try.func8 (by kernel_rfl) rfl #[.agg #[.int .i64 0, .int .i64 0], .agg #[.int .i64 1, .int .i64 0], .agg #[.int .i64 1, .int .i64 1], .agg #[.int .i64 0, .int .i64 1]] rfl (by (try simp only [List.map_toArray, List.map_cons, List.map_nil]); first | done | rfl | (simp only [List.length_drop, List.length_take]; rfl)) ?_; (with_reducible refine (tie_Conflict.calls k 0 0 1 0 1 1 0 1 true _ A1.out).mono ?_); rintro e w19 ⟨rfl, hb⟩; refine ⟨_, rfl, ?_⟩; have n0_ := Aside0.mk (blk_below (g := gb530) (o := .cells #[.int .i64 0, .int .i64 0] 23 (0, 0)) (by (with_reducible repeat (first | refine blk_drewN ?_ _ | refine blk_drew ?_ | refine blk_alloc ?_ _)); refine blk_far ?_ NB530_533.out _; (with_reducible repeat (first | refine blk_drewN ?_ _ | refine blk_drew ?_ | refine blk_alloc ?_ _)); refine blk_far ?_ NB530_533.out _; (with_reducible repeat (first | refine blk_drewN ?_ _ | refine blk_drew ?_ | refine blk_alloc ?_ _)); refine blk_far ?_ NB530_532.out _; (with_reducible repeat (first | refine blk_drewN ?_ _ | refine blk_drew ?_ | refine blk_alloc ?_ _)); refine blk_far ?_ NB530_532.out _; (with_reducible repeat (first | refine blk_drewN ?_ _ | refine blk_drew ?_ | refine blk_alloc ?_ _)); refine blk_far ?_ NB530_531.out _; (with_reducible repeat (first | refine blk_drewN ?_ _ | refine blk_drew ?_ | refine blk_alloc ?_ _)); refine blk_far ?_ NB530_531.out _; (with_reducible repeat (first | refine blk_drewN ?_ _ | refine blk_drew ?_ | refine blk_alloc ?_ _)); refine blk_put (cs := #[.int .i64 0, .int .i64 0]) ?_ 1 _ rfl; (with_reducible repeat (first | refine blk_drewN ?_ _ | refine blk_drew ?_ | refine blk_alloc ?_ _)); refine blk_put (cs := #[.int .i64 0, .int .i64 0]) ?_ 0 _ rfl; (with_reducible repeat (first | refine blk_drewN ?_ _ | refine blk_drew ?_ | refine blk_alloc ?_ _)); exact BK530.out) hb); have n1_ := Aside0.mk (blk_below (g := gb531) (o := .cells #[.int .i64 1, .int .i64 0] 23 (0, 0)) (by (with_reducible repeat (first | refine blk_drewN ?_ _ | refine blk_drew ?_ | refine blk_alloc ?_ _)); refine blk_far ?_ NB531_533.out _; (with_reducible repeat (first | refine blk_drewN ?_ _ | refine blk_drew ?_ | refine blk_alloc ?_ _)); refine blk_far ?_ NB531_533.out _; (with_reducible repeat (first | refine blk_drewN ?_ _ | refine blk_drew ?_ | refine blk_alloc ?_ _)); refine blk_far ?_ NB531_532.out _; (with_reducible repeat (first | refine blk_drewN ?_ _ | refine blk_drew ?_ | refine blk_alloc ?_ _)); refine blk_far ?_ NB531_532.out _; (with_reducible repeat (first | refine blk_drewN ?_ _ | refine blk_drew ?_ | refine blk_alloc ?_ _)); refine blk_put (cs := #[.int .i64 1, .int .i64 0]) ?_ 1 _ rfl; (with_reducible repeat (first | refine blk_drewN ?_ _ | refine blk_drew ?_ | refine blk_alloc ?_ _)); refine blk_put (cs := #[.int .i64 0, .int .i64 0]) ?_ 0 _ rfl; (with_reducible repeat (first | refine blk_drewN ?_ _ | refine blk_drew ?_ | refine blk_alloc ?_ _)); refine blk_far ?_ NB531_530.out _; (with_reducible repeat (first | refine blk_drewN ?_ _ | refine blk_drew ?_ | refine blk_alloc ?_ _)); refine blk_far ?_ NB531_530.out _; (with_reducible repeat (first | refine blk_drewN ?_ _ | refine blk_drew ?_ | refine blk_alloc ?_ _)); exact BK531.out) hb); have n2_ := Aside0.mk (blk_below (g := gb532) (o := .cells #[.int .i64 1, .int .i64 1] 23 (0, 0)) (by (with_reducible repeat (first | refine blk_drewN ?_ _ | refine blk_drew ?_ | refine blk_alloc ?_ _)); refine blk_far ?_ NB532_533.out _; (with_reducible repeat (first | refine blk_drewN ?_ _ | refine blk_drew ?_ | refine blk_alloc ?_ _)); refine blk_far ?_ NB532_533.out _; (with_reducible repeat (first | refine blk_drewN ?_ _ | refine blk_drew ?_ | refine blk_alloc ?_ _)); refine blk_put (cs := #[.int .i64 1, .int .i64 0]) ?_ 1 _ rfl; (with_reducible repeat (first | refine blk_drewN ?_ _ | refine blk_drew ?_ | refine blk_alloc ?_ _)); refine blk_put (cs := #[.int .i64 0, .int .i64 0]) ?_ 0 _ rfl; (with_reducible repeat (first | refine blk_drewN ?_ _ | refine blk_drew ?_ | refine blk_alloc ?_ _)); refine blk_far ?_ NB532_531.out _; (with_reducible repeat (first | refine blk_drewN ?_ _ | refine blk_drew ?_ | refine blk_alloc ?_ _)); refine blk_far ?_ NB532_531.out _; (with_reducible repeat (first | refine blk_drewN ?_ _ | refine blk_drew ?_ | refine blk_alloc ?_ _)); refine blk_far ?_ NB532_530.out _; (with_reducible repeat (first | refine blk_drewN ?_ _ | refine blk_drew ?_ | refine blk_alloc ?_ _)); refine blk_far ?_ NB532_530.out _; (with_reducible repeat (first | refine blk_drewN ?_ _ | refine blk_drew ?_ | refine blk_alloc ?_ _)); exact BK532.out) hb); have n3_ := Aside0.mk (blk_below (g := gb533) (o := .cells #[.int .i64 0, .int .i64 1] 23 (0, 0)) (by (with_reducible repeat (first | refine blk_drewN ?_ _ | refine blk_drew ?_ | refine blk_alloc ?_ _)); refine blk_put (cs := #[.int .i64 0, .int .i64 0]) ?_ 1 _ rfl; (with_reducible repeat (first | refine blk_drewN ?_ _ | refine blk_drew ?_ | refine blk_alloc ?_ _)); refine blk_put (cs := #[.int .i64 0, .int .i64 0]) ?_ 0 _ rfl; (with_reducible repeat (first | refine blk_drewN ?_ _ | refine blk_drew ?_ | refine blk_alloc ?_ _)); refine blk_far ?_ NB533_532.out _; (with_reducible repeat (first | refine blk_drewN ?_ _ | refine blk_drew ?_ | refine blk_alloc ?_ _)); refine blk_far ?_ NB533_532.out _; (with_reducible repeat (first | refine blk_drewN ?_ _ | refine blk_drew ?_ | refine blk_alloc ?_ _)); refine blk_far ?_ NB533_531.out _; (with_reducible repeat (first | refine blk_drewN ?_ _ | refine blk_drew ?_ | refine blk_alloc ?_ _)); refine blk_far ?_ NB533_531.out _; (with_reducible repeat (first | refine blk_drewN ?_ _ | refine blk_drew ?_ | refine blk_alloc ?_ _)); refine blk_far ?_ NB533_530.out _; (with_reducible repeat (first | refine blk_drewN ?_ _ | refine blk_drew ?_ | refine blk_alloc ?_ _)); refine blk_far ?_ NB533_530.out _; (with_reducible repeat (first | refine blk_drewN ?_ _ | refine blk_drew ?_ | refine blk_alloc ?_ _)); exact BK533.out) hb); have n4_ := Aside0.mk (below_step (by repeat (first | (with_reducible first | exact HB.out | apply below_alloc | apply pw_below_drewN | apply below_drew1 | refine below_set ?_ GE530.out | refine below_set ?_ GE531.out | refine below_set ?_ GE532.out | refine below_set ?_ GE533.out) | exact HB.out)) hb); clear BK530; clear BK531; clear BK532; clear BK533; clear HB; have BK530 := n0_; have BK531 := n1_; have BK532 := n2_; have BK533 := n3_; have HB := n4_; clear n0_ n1_ n2_ n3_ n4_; clear hb; obtain ⟨_, _, _, _⟩ := p2 BK531; obtain ⟨_, _, _, _⟩ := p2 BK532; obtain ⟨_, _, _, _⟩ := p2 BK533; obtain ⟨_, _, _, _⟩ := p2 BK530) | (go_at_call 8; (with_reducible refine (tie_Conflict.calls k 1 0 1 1 0 1 0 0 true _ A3.out).mono ?_); rintro e w24 ⟨rfl, hb⟩; have n0_ := u1 BK530 hb; have n1_ := u1 BK531 hb; have n2_ := u1 BK532 hb; have n3_ := u1 BK533 hb; have n4_ := Aside0.mk (below_step (by repeat (first | (with_reducible first | exact HB.out | apply below_alloc | apply pw_below_drewN | apply below_drew1 | refine below_set ?_ GE530.out | refine below_set ?_ GE531.out | refine below_set ?_ GE532.out | refine below_set ?_ GE533.out) | exact HB.out)) hb); clear BK530; clear BK531; clear BK532; clear BK533; clear HB; have BK530 := n0_; have BK531 := n1_; have BK532 := n2_; have BK533 := n3_; have HB := n4_; clear n0_ n1_ n2_ n3_ n4_; clear hb))
   go_ret
   exact ⟨by first | rfl | (simp [*, errW_none, errW_some] <;> rfl), bw HB.out⟩
  ·replace c4 := Bool.eq_false_iff.mpr c4
   subst c4
   rw [if_neg (show ¬ (false = true) by decide)] at H
   obtain ⟨y536, hy536⟩ : ∃ y_ : List (S23), y_ = (([(⟨0, 0⟩ : S23), (⟨1, 1⟩ : S23), (⟨0, 1⟩ : S23)] : List (S23))) := ⟨_, rfl⟩
   replace H : ((tie_Best.f k 0 0 1 0 y536).bind fun t539 => (some (t539 == 2))) = some r := by first | (rw [hy536]; with_reducible exact H) | (have H2_ := (Option.bind_some _ _).symm.trans H; rw [hy536]; with_reducible exact H2_) | (have H2_ := (Option.bind_some _ _).symm.trans H; with_reducible exact H2_) | with_reducible exact H | (rw [hy536]; exact H) | exact H
   have Ny536 := Aside0.mk hy536
   clear hy536
   replace H := Option.bind_eq_some_iff.mp H
   obtain ⟨t539, A250, H⟩ := H
   try dsimp only at H
   have A25 := Aside0.mk A250
   clear A250
   obtain rfl := Option.some.inj H
   go_enter Try.func10, Try.ntmps10
   go_wp2_with (first | ((with_reducible refine gate_dst (N := 1) rfl ?_); (try (refine gate_guard (by rfl) ?_; dsimp only)); refine box_event ?hg (N := 1) ?hd (cs := #[.int .i64 0, .int .i64 0]) (t := 23) ?hr ?_; (case hd => rfl); (case hg => rfl); (case hr => first | (go_simp; done) | (go_simp; rfl)); intro gb530 hg w26 hbox hb; have BK530 := Aside0.mk hbox; have GW530 := u3 hg HB; have GE530 := u3 hg HB; replace HB := u2 HB hb; clear hb hbox hg) | ((with_reducible refine gate_dst (N := 2) rfl ?_); (try (refine gate_guard (by rfl) ?_; dsimp only)); refine box_event ?hg (N := 2) ?hd (cs := #[.int .i64 0, .int .i64 0]) (t := 23) ?hr ?_; (case hd => rfl); (case hg => rfl); (case hr => first | (go_simp; done) | (go_simp; rfl)); intro gb531 hg w27 hbox hb; have n0_ := u1 BK530 hb; have n1_ := Aside0.mk (below_step (by repeat (first | (with_reducible first | exact HB.out | apply below_alloc | apply pw_below_drewN | apply below_drew1 | refine below_set ?_ GE530.out) | exact HB.out)) hb); have n2_ := Aside0.mk hbox; have n3_ := Aside0.mk ((by rw [hg]; exact (below_size (by repeat (first | (with_reducible first | exact HB.out | apply below_alloc | apply pw_below_drewN | apply below_drew1 | refine below_set ?_ GE530.out) | exact HB.out))) : w.heap.size ≤ gb531)); have n4_ := Aside0.mk ((by rw [hg]; exact (below_size (by repeat (first | (with_reducible first | exact HB.out | apply below_alloc | apply pw_below_drewN | apply below_drew1 | refine below_set ?_ GE530.out) | exact HB.out))) : w.heap.size ≤ gb531)); have n5_ := u4 hg BK530; have n6_ := u5 hg BK530; clear BK530; clear HB; have BK530 := n0_; have HB := n1_; have BK531 := n2_; have GW531 := n3_; have GE531 := n4_; have NB530_531 := n5_; have NB531_530 := n6_; clear n0_ n1_ n2_ n3_ n4_ n5_ n6_; clear hb hbox hg) | ((with_reducible refine gate_dst (N := 3) rfl ?_); (try (refine gate_guard (by rfl) ?_; dsimp only)); refine box_event ?hg (N := 3) ?hd (cs := #[.int .i64 0, .int .i64 0]) (t := 23) ?hr ?_; (case hd => rfl); (case hg => rfl); (case hr => first | (go_simp; done) | (go_simp; rfl)); intro gb532 hg w28 hbox hb; have n0_ := u1 BK530 hb; have n1_ := u1 BK531 hb; have n2_ := Aside0.mk (below_step (by repeat (first | (with_reducible first | exact HB.out | apply below_alloc | apply pw_below_drewN | apply below_drew1 | refine below_set ?_ GE530.out | refine below_set ?_ GE531.out) | exact HB.out)) hb); have n3_ := Aside0.mk hbox; have n4_ := Aside0.mk ((by rw [hg]; exact (below_size (by repeat (first | (with_reducible first | exact HB.out | apply below_alloc | apply pw_below_drewN | apply below_drew1 | refine below_set ?_ GE530.out | refine below_set ?_ GE531.out) | exact HB.out))) : w.heap.size ≤ gb532)); have n5_ := Aside0.mk ((by rw [hg]; exact (below_size (by repeat (first | (with_reducible first | exact HB.out | apply below_alloc | apply pw_below_drewN | apply below_drew1 | refine below_set ?_ GE530.out | refine below_set ?_ GE531.out) | exact HB.out))) : w.heap.size ≤ gb532)); have n6_ := u4 hg BK530; have n7_ := u5 hg BK530; have n8_ := u4 hg BK531; have n9_ := u5 hg BK531; clear BK530; clear BK531; clear HB; have BK530 := n0_; have BK531 := n1_; have HB := n2_; have BK532 := n3_; have GW532 := n4_; have GE532 := n5_; have NB530_532 := n6_; have NB532_530 := n7_; have NB531_532 := n8_; have NB532_531 := n9_; clear n0_ n1_ n2_ n3_ n4_ n5_ n6_ n7_ n8_ n9_; clear hb hbox hg) | ((with_reducible refine gate_dst (N := 4) rfl ?_); (try (refine gate_guard (by rfl) ?_; dsimp only)); refine box_event ?hg (N := 4) ?hd (cs := #[.int .i64 0, .int .i64 0]) (t := 23) ?hr ?_; (case hd => rfl); (case hg => rfl); (case hr => first | (go_simp; done) | (go_simp; rfl)); intro gb533 hg w29 hbox hb; have n0_ := u1 BK530 hb; have n1_ := u1 BK531 hb; have n2_ := u1 BK532 hb; have n3_ := Aside0.mk (below_step (by repeat (first | (with_reducible first | exact HB.out | apply below_alloc | apply pw_below_drewN | apply below_drew1 | refine below_set ?_ GE530.out | refine below_set ?_ GE531.out | refine below_set ?_ GE532.out) | exact HB.out)) hb); have n4_ := Aside0.mk hbox; have n5_ := Aside0.mk ((by rw [hg]; exact (below_size (by repeat (first | (with_reducible first | exact HB.out | apply below_alloc | apply pw_below_drewN | apply below_drew1 | refine below_set ?_ GE530.out | refine below_set ?_ GE531.out | refine below_set ?_ GE532.out) | exact HB.out))) : w.heap.size ≤ gb533)); have n6_ := Aside0.mk ((by rw [hg]; exact (below_size (by repeat (first | (with_reducible first | exact HB.out | apply below_alloc | apply pw_below_drewN | apply below_drew1 | refine below_set ?_ GE530.out | refine below_set ?_ GE531.out | refine below_set ?_ GE532.out) | exact HB.out))) : w.heap.size ≤ gb533)); have n7_ := u4 hg BK530; have n8_ := u5 hg BK530; have n9_ := u4 hg BK531; have n10_ := u5 hg BK531; have n11_ := u4 hg BK532; have n12_ := u5 hg BK532; clear BK530; clear BK531; clear BK532; clear HB; have BK530 := n0_; have BK531 := n1_; have BK532 := n2_; have HB := n3_; have BK533 := n4_; have GW533 := n5_; have GE533 := n6_; have NB530_533 := n7_; have NB533_530 := n8_; have NB531_533 := n9_; have NB533_531 := n10_; have NB532_533 := n11_; have NB533_532 := n12_; clear n0_ n1_ n2_ n3_ n4_ n5_ n6_ n7_ n8_ n9_ n10_ n11_ n12_; clear hb hbox hg; have hnb30 := NB530_531.out; have hnc30 := NB531_530.out; have hnb31 := NB530_532.out; have hnc31 := NB532_530.out; have hnb32 := NB530_533.out; have hnc32 := NB533_530.out; obtain ⟨_, _, _, _⟩ := p2 BK530; have hnb34 := NB531_532.out; have hnc34 := NB532_531.out; have hnb35 := NB531_533.out; have hnc35 := NB533_531.out; obtain ⟨_, _, _, _⟩ := p2 BK531; have hnb37 := NB532_533.out; have hnc37 := NB533_532.out; obtain ⟨_, _, _, _⟩ := p2 BK532; obtain ⟨_, _, _, _⟩ := p2 BK533) | ((with_reducible refine gate_callee (f := 8) rfl ?_); refine goesL_ (some 13) rfl rfl Try.func8 (by kernel_rfl) rfl #[.agg #[.int .i64 0, .int .i64 0], .agg #[.int .i64 1, .int .i64 0], .agg #[.int .i64 1, .int .i64 1], .agg #[.int .i64 0, .int .i64 1]] rfl (by (try simp only [List.map_toArray, List.map_cons, List.map_nil]); first | done | rfl | (simp only [List.length_drop, List.length_take]; rfl)) ?_; (with_reducible refine (tie_Conflict.calls k 0 0 1 0 1 1 0 1 true _ A1.out).mono ?_); rintro e w40 ⟨rfl, hb⟩; refine ⟨_, rfl, ?_⟩; have n0_ := Aside0.mk (blk_below (g := gb530) (o := .cells #[.int .i64 0, .int .i64 0] 23 (0, 0)) (by (with_reducible repeat (first | refine blk_drewN ?_ _ | refine blk_drew ?_ | refine blk_alloc ?_ _)); refine blk_far ?_ NB530_533.out _; (with_reducible repeat (first | refine blk_drewN ?_ _ | refine blk_drew ?_ | refine blk_alloc ?_ _)); refine blk_far ?_ NB530_533.out _; (with_reducible repeat (first | refine blk_drewN ?_ _ | refine blk_drew ?_ | refine blk_alloc ?_ _)); refine blk_far ?_ NB530_532.out _; (with_reducible repeat (first | refine blk_drewN ?_ _ | refine blk_drew ?_ | refine blk_alloc ?_ _)); refine blk_far ?_ NB530_532.out _; (with_reducible repeat (first | refine blk_drewN ?_ _ | refine blk_drew ?_ | refine blk_alloc ?_ _)); refine blk_far ?_ NB530_531.out _; (with_reducible repeat (first | refine blk_drewN ?_ _ | refine blk_drew ?_ | refine blk_alloc ?_ _)); refine blk_far ?_ NB530_531.out _; (with_reducible repeat (first | refine blk_drewN ?_ _ | refine blk_drew ?_ | refine blk_alloc ?_ _)); refine blk_put (cs := #[.int .i64 0, .int .i64 0]) ?_ 1 _ rfl; (with_reducible repeat (first | refine blk_drewN ?_ _ | refine blk_drew ?_ | refine blk_alloc ?_ _)); refine blk_put (cs := #[.int .i64 0, .int .i64 0]) ?_ 0 _ rfl; (with_reducible repeat (first | refine blk_drewN ?_ _ | refine blk_drew ?_ | refine blk_alloc ?_ _)); exact BK530.out) hb); have n1_ := Aside0.mk (blk_below (g := gb531) (o := .cells #[.int .i64 1, .int .i64 0] 23 (0, 0)) (by (with_reducible repeat (first | refine blk_drewN ?_ _ | refine blk_drew ?_ | refine blk_alloc ?_ _)); refine blk_far ?_ NB531_533.out _; (with_reducible repeat (first | refine blk_drewN ?_ _ | refine blk_drew ?_ | refine blk_alloc ?_ _)); refine blk_far ?_ NB531_533.out _; (with_reducible repeat (first | refine blk_drewN ?_ _ | refine blk_drew ?_ | refine blk_alloc ?_ _)); refine blk_far ?_ NB531_532.out _; (with_reducible repeat (first | refine blk_drewN ?_ _ | refine blk_drew ?_ | refine blk_alloc ?_ _)); refine blk_far ?_ NB531_532.out _; (with_reducible repeat (first | refine blk_drewN ?_ _ | refine blk_drew ?_ | refine blk_alloc ?_ _)); refine blk_put (cs := #[.int .i64 1, .int .i64 0]) ?_ 1 _ rfl; (with_reducible repeat (first | refine blk_drewN ?_ _ | refine blk_drew ?_ | refine blk_alloc ?_ _)); refine blk_put (cs := #[.int .i64 0, .int .i64 0]) ?_ 0 _ rfl; (with_reducible repeat (first | refine blk_drewN ?_ _ | refine blk_drew ?_ | refine blk_alloc ?_ _)); refine blk_far ?_ NB531_530.out _; (with_reducible repeat (first | refine blk_drewN ?_ _ | refine blk_drew ?_ | refine blk_alloc ?_ _)); refine blk_far ?_ NB531_530.out _; (with_reducible repeat (first | refine blk_drewN ?_ _ | refine blk_drew ?_ | refine blk_alloc ?_ _)); exact BK531.out) hb); have n2_ := Aside0.mk (blk_below (g := gb532) (o := .cells #[.int .i64 1, .int .i64 1] 23 (0, 0)) (by (with_reducible repeat (first | refine blk_drewN ?_ _ | refine blk_drew ?_ | refine blk_alloc ?_ _)); refine blk_far ?_ NB532_533.out _; (with_reducible repeat (first | refine blk_drewN ?_ _ | refine blk_drew ?_ | refine blk_alloc ?_ _)); refine blk_far ?_ NB532_533.out _; (with_reducible repeat (first | refine blk_drewN ?_ _ | refine blk_drew ?_ | refine blk_alloc ?_ _)); refine blk_put (cs := #[.int .i64 1, .int .i64 0]) ?_ 1 _ rfl; (with_reducible repeat (first | refine blk_drewN ?_ _ | refine blk_drew ?_ | refine blk_alloc ?_ _)); refine blk_put (cs := #[.int .i64 0, .int .i64 0]) ?_ 0 _ rfl; (with_reducible repeat (first | refine blk_drewN ?_ _ | refine blk_drew ?_ | refine blk_alloc ?_ _)); refine blk_far ?_ NB532_531.out _; (with_reducible repeat (first | refine blk_drewN ?_ _ | refine blk_drew ?_ | refine blk_alloc ?_ _)); refine blk_far ?_ NB532_531.out _; (with_reducible repeat (first | refine blk_drewN ?_ _ | refine blk_drew ?_ | refine blk_alloc ?_ _)); refine blk_far ?_ NB532_530.out _; (with_reducible repeat (first | refine blk_drewN ?_ _ | refine blk_drew ?_ | refine blk_alloc ?_ _)); refine blk_far ?_ NB532_530.out _; (with_reducible repeat (first | refine blk_drewN ?_ _ | refine blk_drew ?_ | refine blk_alloc ?_ _)); exact BK532.out) hb); have n3_ := Aside0.mk (blk_below (g := gb533) (o := .cells #[.int .i64 0, .int .i64 1] 23 (0, 0)) (by (with_reducible repeat (first | refine blk_drewN ?_ _ | refine blk_drew ?_ | refine blk_alloc ?_ _)); refine blk_put (cs := #[.int .i64 0, .int .i64 0]) ?_ 1 _ rfl; (with_reducible repeat (first | refine blk_drewN ?_ _ | refine blk_drew ?_ | refine blk_alloc ?_ _)); refine blk_put (cs := #[.int .i64 0, .int .i64 0]) ?_ 0 _ rfl; (with_reducible repeat (first | refine blk_drewN ?_ _ | refine blk_drew ?_ | refine blk_alloc ?_ _)); refine blk_far ?_ NB533_532.out _; (with_reducible repeat (first | refine blk_drewN ?_ _ | refine blk_drew ?_ | refine blk_alloc ?_ _)); refine blk_far ?_ NB533_532.out _; (with_reducible repeat (first | refine blk_drewN ?_ _ | refine blk_drew ?_ | refine blk_alloc ?_ _)); refine blk_far ?_ NB533_531.out _; (with_reducible repeat (first | refine blk_drewN ?_ _ | refine blk_drew ?_ | refine blk_alloc ?_ _)); refine blk_far ?_ NB533_531.out _; (with_reducible repeat (first | refine blk_drewN ?_ _ | refine blk_drew ?_ | refine blk_alloc ?_ _)); refine blk_far ?_ NB533_530.out _; (with_reducible repeat (first | refine blk_drewN ?_ _ | refine blk_drew ?_ | refine blk_alloc ?_ _)); refine blk_far ?_ NB533_530.out _; (with_reducible repeat (first | refine blk_drewN ?_ _ | refine blk_drew ?_ | refine blk_alloc ?_ _)); exact BK533.out) hb); have n4_ := Aside0.mk (below_step (by repeat (first | (with_reducible first | exact HB.out | apply below_alloc | apply pw_below_drewN | apply below_drew1 | refine below_set ?_ GE530.out | refine below_set ?_ GE531.out | refine below_set ?_ GE532.out | refine below_set ?_ GE533.out) | exact HB.out)) hb); clear BK530; clear BK531; clear BK532; clear BK533; clear HB; have BK530 := n0_; have BK531 := n1_; have BK532 := n2_; have BK533 := n3_; have HB := n4_; clear n0_ n1_ n2_ n3_ n4_; clear hb; obtain ⟨_, _, _, _⟩ := p2 BK531; obtain ⟨_, _, _, _⟩ := p2 BK532; obtain ⟨_, _, _, _⟩ := p2 BK533; obtain ⟨_, _, _, _⟩ := p2 BK530) | (go_at_call 8; (with_reducible refine (tie_Conflict.calls k 1 0 1 1 0 1 0 0 false _ A3.out).mono ?_); rintro e w45 ⟨rfl, hb⟩; have n0_ := u1 BK530 hb; have n1_ := u1 BK531 hb; have n2_ := u1 BK532 hb; have n3_ := u1 BK533 hb; have n4_ := Aside0.mk (below_step (by repeat (first | (with_reducible first | exact HB.out | apply below_alloc | apply pw_below_drewN | apply below_drew1 | refine below_set ?_ GE530.out | refine below_set ?_ GE531.out | refine below_set ?_ GE532.out | refine below_set ?_ GE533.out) | exact HB.out)) hb); clear BK530; clear BK531; clear BK532; clear BK533; clear HB; have BK530 := n0_; have BK531 := n1_; have BK532 := n2_; have BK533 := n3_; have HB := n4_; clear n0_ n1_ n2_ n3_ n4_; clear hb; obtain ⟨_, _, _, _⟩ := p2 BK530; obtain ⟨_, _, _, _⟩ := p2 BK531; obtain ⟨_, _, _, _⟩ := p2 BK532; obtain ⟨_, _, _, _⟩ := p2 BK533) | ((with_reducible refine gate_dst (N := 28) rfl ?_); (try (refine gate_guard (by rfl) ?_; dsimp only)); refine Kd.R_lit k23 _ 23 ?hg (N := 28) ?hd (xs := ([(⟨0, 0⟩ : S23), (⟨1, 1⟩ : S23), (⟨0, 1⟩ : S23)] : List (S23))) (inner := [.int .i64 0, .int .i64 0, .int .i64 1, .int .i64 1, .int .i64 0, .int .i64 1]) (ok := fun _ => True) (okp := fun _ => True) ?hr ?hp (fun _ hk => hk) trivial (Below.refl _ _) (Nat.le_refl _) (by simp) ?_; (case hd => rfl); (case hg => rfl); (case hr => first | (go_simp; done) | (go_simp; rfl)); (case hp => exact (Reps.c2 (show Kd.M k23 _ _ _ (⟨0, 0⟩ : S23) [.int .i64 0, .int .i64 0] from (k23_mkM _ _ _ (⟨0, 0⟩ : S23) )) (Reps.c2 (show Kd.M k23 _ _ _ (⟨1, 1⟩ : S23) [.int .i64 1, .int .i64 1] from (k23_mkM _ _ _ (⟨1, 1⟩ : S23) )) (Reps.c2 (show Kd.M k23 _ _ _ (⟨0, 1⟩ : S23) [.int .i64 0, .int .i64 1] from (k23_mkM _ _ _ (⟨0, 1⟩ : S23) )) (Reps.none _ _))))); intro v537 w50 ho51 hb hg_ hnew_; clear hg_ hnew_; (first | rw [← Ny536.out] at ho51 | (simp only [Int.reduceToNat] at ho51; rw [← Ny536.out] at ho51)); have n0_ := Aside0.mk (Kd.R_lower (Kd.R_newB (Kd.R_newB (Kd.R_newB (Kd.R_newB ho51 (bk BK530.out)) (bk BK531.out)) (bk BK532.out)) (bk BK533.out)) (below_size (by repeat (first | (with_reducible first | exact HB.out | apply below_alloc | apply pw_below_drewN | apply below_drew1 | refine below_set ?_ GE530.out | refine below_set ?_ GE531.out | refine below_set ?_ GE532.out | refine below_set ?_ GE533.out) | exact HB.out)))); have n1_ := u1 BK530 hb; have n2_ := u1 BK531 hb; have n3_ := u1 BK532 hb; have n4_ := u1 BK533 hb; have n5_ := Aside0.mk (below_step (by repeat (first | (with_reducible first | exact HB.out | apply below_alloc | apply pw_below_drewN | apply below_drew1 | refine below_set ?_ GE530.out | refine below_set ?_ GE531.out | refine below_set ?_ GE532.out | refine below_set ?_ GE533.out) | exact HB.out)) hb); clear BK530; clear BK531; clear BK532; clear BK533; clear HB; have HO538 := n0_; have BK530 := n1_; have BK531 := n2_; have BK532 := n3_; have BK533 := n4_; have HB := n5_; clear n0_ n1_ n2_ n3_ n4_ n5_; clear hb ho51; obtain ⟨Ao52, co52, eo52⟩ := Kd.R_slice HO538.out; subst eo52) | (go_at_call 14; (with_reducible refine (tie_Best.calls k 0 0 1 0 _ _ y536 t539 _ ?side1 ?side2 A25.out).mono ?_); (case side1 => repeat (first | exact (Kd.R_reads' HO538.out).2.2 | (with_reducible refine Kd.C_alloc ?_ _) | (with_reducible refine Kd.C_drewN ?_ _) | (with_reducible refine Kd.C_drew ?_))); (case side2 => exact (Kd.R_reads' HO538.out).2.1); rintro e w53 ⟨rfl, hb⟩; have n0_ := Aside0.mk (Kd.R_below (by (with_reducible repeat (first | apply Kd.R_alloc | apply Kd.R_drewN | apply Kd.R_drew)); exact HO538.out) hb); have n1_ := u1 BK530 hb; have n2_ := u1 BK531 hb; have n3_ := u1 BK532 hb; have n4_ := u1 BK533 hb; have n5_ := Aside0.mk (below_step (by repeat (first | (with_reducible first | exact HB.out | apply below_alloc | apply pw_below_drewN | apply below_drew1 | refine below_set ?_ GE530.out | refine below_set ?_ GE531.out | refine below_set ?_ GE532.out | refine below_set ?_ GE533.out) | exact HB.out)) hb); clear HO538; clear BK530; clear BK531; clear BK532; clear BK533; clear HB; have HO538 := n0_; have BK530 := n1_; have BK531 := n2_; have BK532 := n3_; have BK533 := n4_; have HB := n5_; clear n0_ n1_ n2_ n3_ n4_ n5_; clear hb))
   go_ret
   exact ⟨by first | rfl | (simp [*, errW_none, errW_some] <;> rfl), bw HB.out⟩
 ·replace c2 := Bool.eq_false_iff.mpr c2
  subst c2
  rw [if_neg (show ¬ (false = true) by decide)] at H
  obtain rfl := Option.some.inj H
  go_enter Try.func10, Try.ntmps10
  go_wp2_with (first | ((with_reducible refine gate_dst (N := 1) rfl ?_); (try (refine gate_guard (by rfl) ?_; dsimp only)); refine box_event ?hg (N := 1) ?hd (cs := #[.int .i64 0, .int .i64 0]) (t := 23) ?hr ?_; (case hd => rfl); (case hg => rfl); (case hr => first | (go_simp; done) | (go_simp; rfl)); intro gb530 hg w54 hbox hb; have BK530 := Aside0.mk hbox; have GW530 := u3 hg HB; have GE530 := u3 hg HB; replace HB := u2 HB hb; clear hb hbox hg) | ((with_reducible refine gate_dst (N := 2) rfl ?_); (try (refine gate_guard (by rfl) ?_; dsimp only)); refine box_event ?hg (N := 2) ?hd (cs := #[.int .i64 0, .int .i64 0]) (t := 23) ?hr ?_; (case hd => rfl); (case hg => rfl); (case hr => first | (go_simp; done) | (go_simp; rfl)); intro gb531 hg w55 hbox hb; have n0_ := u1 BK530 hb; have n1_ := Aside0.mk (below_step (by repeat (first | (with_reducible first | exact HB.out | apply below_alloc | apply pw_below_drewN | apply below_drew1 | refine below_set ?_ GE530.out) | exact HB.out)) hb); have n2_ := Aside0.mk hbox; have n3_ := Aside0.mk ((by rw [hg]; exact (below_size (by repeat (first | (with_reducible first | exact HB.out | apply below_alloc | apply pw_below_drewN | apply below_drew1 | refine below_set ?_ GE530.out) | exact HB.out))) : w.heap.size ≤ gb531)); have n4_ := Aside0.mk ((by rw [hg]; exact (below_size (by repeat (first | (with_reducible first | exact HB.out | apply below_alloc | apply pw_below_drewN | apply below_drew1 | refine below_set ?_ GE530.out) | exact HB.out))) : w.heap.size ≤ gb531)); have n5_ := u4 hg BK530; have n6_ := u5 hg BK530; clear BK530; clear HB; have BK530 := n0_; have HB := n1_; have BK531 := n2_; have GW531 := n3_; have GE531 := n4_; have NB530_531 := n5_; have NB531_530 := n6_; clear n0_ n1_ n2_ n3_ n4_ n5_ n6_; clear hb hbox hg) | ((with_reducible refine gate_dst (N := 3) rfl ?_); (try (refine gate_guard (by rfl) ?_; dsimp only)); refine box_event ?hg (N := 3) ?hd (cs := #[.int .i64 0, .int .i64 0]) (t := 23) ?hr ?_; (case hd => rfl); (case hg => rfl); (case hr => first | (go_simp; done) | (go_simp; rfl)); intro gb532 hg w56 hbox hb; have n0_ := u1 BK530 hb; have n1_ := u1 BK531 hb; have n2_ := Aside0.mk (below_step (by repeat (first | (with_reducible first | exact HB.out | apply below_alloc | apply pw_below_drewN | apply below_drew1 | refine below_set ?_ GE530.out | refine below_set ?_ GE531.out) | exact HB.out)) hb); have n3_ := Aside0.mk hbox; have n4_ := Aside0.mk ((by rw [hg]; exact (below_size (by repeat (first | (with_reducible first | exact HB.out | apply below_alloc | apply pw_below_drewN | apply below_drew1 | refine below_set ?_ GE530.out | refine below_set ?_ GE531.out) | exact HB.out))) : w.heap.size ≤ gb532)); have n5_ := Aside0.mk ((by rw [hg]; exact (below_size (by repeat (first | (with_reducible first | exact HB.out | apply below_alloc | apply pw_below_drewN | apply below_drew1 | refine below_set ?_ GE530.out | refine below_set ?_ GE531.out) | exact HB.out))) : w.heap.size ≤ gb532)); have n6_ := u4 hg BK530; have n7_ := u5 hg BK530; have n8_ := u4 hg BK531; have n9_ := u5 hg BK531; clear BK530; clear BK531; clear HB; have BK530 := n0_; have BK531 := n1_; have HB := n2_; have BK532 := n3_; have GW532 := n4_; have GE532 := n5_; have NB530_532 := n6_; have NB532_530 := n7_; have NB531_532 := n8_; have NB532_531 := n9_; clear n0_ n1_ n2_ n3_ n4_ n5_ n6_ n7_ n8_ n9_; clear hb hbox hg) | ((with_reducible refine gate_dst (N := 4) rfl ?_); (try (refine gate_guard (by rfl) ?_; dsimp only)); refine box_event ?hg (N := 4) ?hd (cs := #[.int .i64 0, .int .i64 0]) (t := 23) ?hr ?_; (case hd => rfl); (case hg => rfl); (case hr => first | (go_simp; done) | (go_simp; rfl)); intro gb533 hg w57 hbox hb; have n0_ := u1 BK530 hb; have n1_ := u1 BK531 hb; have n2_ := u1 BK532 hb; have n3_ := Aside0.mk (below_step (by repeat (first | (with_reducible first | exact HB.out | apply below_alloc | apply pw_below_drewN | apply below_drew1 | refine below_set ?_ GE530.out | refine below_set ?_ GE531.out | refine below_set ?_ GE532.out) | exact HB.out)) hb); have n4_ := Aside0.mk hbox; have n5_ := Aside0.mk ((by rw [hg]; exact (below_size (by repeat (first | (with_reducible first | exact HB.out | apply below_alloc | apply pw_below_drewN | apply below_drew1 | refine below_set ?_ GE530.out | refine below_set ?_ GE531.out | refine below_set ?_ GE532.out) | exact HB.out))) : w.heap.size ≤ gb533)); have n6_ := Aside0.mk ((by rw [hg]; exact (below_size (by repeat (first | (with_reducible first | exact HB.out | apply below_alloc | apply pw_below_drewN | apply below_drew1 | refine below_set ?_ GE530.out | refine below_set ?_ GE531.out | refine below_set ?_ GE532.out) | exact HB.out))) : w.heap.size ≤ gb533)); have n7_ := u4 hg BK530; have n8_ := u5 hg BK530; have n9_ := u4 hg BK531; have n10_ := u5 hg BK531; have n11_ := u4 hg BK532; have n12_ := u5 hg BK532; clear BK530; clear BK531; clear BK532; clear HB; have BK530 := n0_; have BK531 := n1_; have BK532 := n2_; have HB := n3_; have BK533 := n4_; have GW533 := n5_; have GE533 := n6_; have NB530_533 := n7_; have NB533_530 := n8_; have NB531_533 := n9_; have NB533_531 := n10_; have NB532_533 := n11_; have NB533_532 := n12_; clear n0_ n1_ n2_ n3_ n4_ n5_ n6_ n7_ n8_ n9_ n10_ n11_ n12_; clear hb hbox hg; have hnb58 := NB530_531.out; have hnc58 := NB531_530.out; have hnb59 := NB530_532.out; have hnc59 := NB532_530.out; have hnb60 := NB530_533.out; have hnc60 := NB533_530.out; obtain ⟨_, _, _, _⟩ := p2 BK530; have hnb62 := NB531_532.out; have hnc62 := NB532_531.out; have hnb63 := NB531_533.out; have hnc63 := NB533_531.out; obtain ⟨_, _, _, _⟩ := p2 BK531; have hnb65 := NB532_533.out; have hnc65 := NB533_532.out; obtain ⟨_, _, _, _⟩ := p2 BK532; obtain ⟨_, _, _, _⟩ := p2 BK533) | ((with_reducible refine gate_callee (f := 8) rfl ?_); refine goesL_ (some 13) rfl rfl Try.func8 (by kernel_rfl) rfl #[.agg #[.int .i64 0, .int .i64 0], .agg #[.int .i64 1, .int .i64 0], .agg #[.int .i64 1, .int .i64 1], .agg #[.int .i64 0, .int .i64 1]] rfl (by (try simp only [List.map_toArray, List.map_cons, List.map_nil]); first | done | rfl | (simp only [List.length_drop, List.length_take]; rfl)) ?_; (with_reducible refine (tie_Conflict.calls k 0 0 1 0 1 1 0 1 false _ A1.out).mono ?_); rintro e w68 ⟨rfl, hb⟩; refine ⟨_, rfl, ?_⟩; have n0_ := Aside0.mk (blk_below (g := gb530) (o := .cells #[.int .i64 0, .int .i64 0] 23 (0, 0)) (by (with_reducible repeat (first | refine blk_drewN ?_ _ | refine blk_drew ?_ | refine blk_alloc ?_ _)); refine blk_far ?_ NB530_533.out _; (with_reducible repeat (first | refine blk_drewN ?_ _ | refine blk_drew ?_ | refine blk_alloc ?_ _)); refine blk_far ?_ NB530_533.out _; (with_reducible repeat (first | refine blk_drewN ?_ _ | refine blk_drew ?_ | refine blk_alloc ?_ _)); refine blk_far ?_ NB530_532.out _; (with_reducible repeat (first | refine blk_drewN ?_ _ | refine blk_drew ?_ | refine blk_alloc ?_ _)); refine blk_far ?_ NB530_532.out _; (with_reducible repeat (first | refine blk_drewN ?_ _ | refine blk_drew ?_ | refine blk_alloc ?_ _)); refine blk_far ?_ NB530_531.out _; (with_reducible repeat (first | refine blk_drewN ?_ _ | refine blk_drew ?_ | refine blk_alloc ?_ _)); refine blk_far ?_ NB530_531.out _; (with_reducible repeat (first | refine blk_drewN ?_ _ | refine blk_drew ?_ | refine blk_alloc ?_ _)); refine blk_put (cs := #[.int .i64 0, .int .i64 0]) ?_ 1 _ rfl; (with_reducible repeat (first | refine blk_drewN ?_ _ | refine blk_drew ?_ | refine blk_alloc ?_ _)); refine blk_put (cs := #[.int .i64 0, .int .i64 0]) ?_ 0 _ rfl; (with_reducible repeat (first | refine blk_drewN ?_ _ | refine blk_drew ?_ | refine blk_alloc ?_ _)); exact BK530.out) hb); have n1_ := Aside0.mk (blk_below (g := gb531) (o := .cells #[.int .i64 1, .int .i64 0] 23 (0, 0)) (by (with_reducible repeat (first | refine blk_drewN ?_ _ | refine blk_drew ?_ | refine blk_alloc ?_ _)); refine blk_far ?_ NB531_533.out _; (with_reducible repeat (first | refine blk_drewN ?_ _ | refine blk_drew ?_ | refine blk_alloc ?_ _)); refine blk_far ?_ NB531_533.out _; (with_reducible repeat (first | refine blk_drewN ?_ _ | refine blk_drew ?_ | refine blk_alloc ?_ _)); refine blk_far ?_ NB531_532.out _; (with_reducible repeat (first | refine blk_drewN ?_ _ | refine blk_drew ?_ | refine blk_alloc ?_ _)); refine blk_far ?_ NB531_532.out _; (with_reducible repeat (first | refine blk_drewN ?_ _ | refine blk_drew ?_ | refine blk_alloc ?_ _)); refine blk_put (cs := #[.int .i64 1, .int .i64 0]) ?_ 1 _ rfl; (with_reducible repeat (first | refine blk_drewN ?_ _ | refine blk_drew ?_ | refine blk_alloc ?_ _)); refine blk_put (cs := #[.int .i64 0, .int .i64 0]) ?_ 0 _ rfl; (with_reducible repeat (first | refine blk_drewN ?_ _ | refine blk_drew ?_ | refine blk_alloc ?_ _)); refine blk_far ?_ NB531_530.out _; (with_reducible repeat (first | refine blk_drewN ?_ _ | refine blk_drew ?_ | refine blk_alloc ?_ _)); refine blk_far ?_ NB531_530.out _; (with_reducible repeat (first | refine blk_drewN ?_ _ | refine blk_drew ?_ | refine blk_alloc ?_ _)); exact BK531.out) hb); have n2_ := Aside0.mk (blk_below (g := gb532) (o := .cells #[.int .i64 1, .int .i64 1] 23 (0, 0)) (by (with_reducible repeat (first | refine blk_drewN ?_ _ | refine blk_drew ?_ | refine blk_alloc ?_ _)); refine blk_far ?_ NB532_533.out _; (with_reducible repeat (first | refine blk_drewN ?_ _ | refine blk_drew ?_ | refine blk_alloc ?_ _)); refine blk_far ?_ NB532_533.out _; (with_reducible repeat (first | refine blk_drewN ?_ _ | refine blk_drew ?_ | refine blk_alloc ?_ _)); refine blk_put (cs := #[.int .i64 1, .int .i64 0]) ?_ 1 _ rfl; (with_reducible repeat (first | refine blk_drewN ?_ _ | refine blk_drew ?_ | refine blk_alloc ?_ _)); refine blk_put (cs := #[.int .i64 0, .int .i64 0]) ?_ 0 _ rfl; (with_reducible repeat (first | refine blk_drewN ?_ _ | refine blk_drew ?_ | refine blk_alloc ?_ _)); refine blk_far ?_ NB532_531.out _; (with_reducible repeat (first | refine blk_drewN ?_ _ | refine blk_drew ?_ | refine blk_alloc ?_ _)); refine blk_far ?_ NB532_531.out _; (with_reducible repeat (first | refine blk_drewN ?_ _ | refine blk_drew ?_ | refine blk_alloc ?_ _)); refine blk_far ?_ NB532_530.out _; (with_reducible repeat (first | refine blk_drewN ?_ _ | refine blk_drew ?_ | refine blk_alloc ?_ _)); refine blk_far ?_ NB532_530.out _; (with_reducible repeat (first | refine blk_drewN ?_ _ | refine blk_drew ?_ | refine blk_alloc ?_ _)); exact BK532.out) hb); have n3_ := Aside0.mk (blk_below (g := gb533) (o := .cells #[.int .i64 0, .int .i64 1] 23 (0, 0)) (by (with_reducible repeat (first | refine blk_drewN ?_ _ | refine blk_drew ?_ | refine blk_alloc ?_ _)); refine blk_put (cs := #[.int .i64 0, .int .i64 0]) ?_ 1 _ rfl; (with_reducible repeat (first | refine blk_drewN ?_ _ | refine blk_drew ?_ | refine blk_alloc ?_ _)); refine blk_put (cs := #[.int .i64 0, .int .i64 0]) ?_ 0 _ rfl; (with_reducible repeat (first | refine blk_drewN ?_ _ | refine blk_drew ?_ | refine blk_alloc ?_ _)); refine blk_far ?_ NB533_532.out _; (with_reducible repeat (first | refine blk_drewN ?_ _ | refine blk_drew ?_ | refine blk_alloc ?_ _)); refine blk_far ?_ NB533_532.out _; (with_reducible repeat (first | refine blk_drewN ?_ _ | refine blk_drew ?_ | refine blk_alloc ?_ _)); refine blk_far ?_ NB533_531.out _; (with_reducible repeat (first | refine blk_drewN ?_ _ | refine blk_drew ?_ | refine blk_alloc ?_ _)); refine blk_far ?_ NB533_531.out _; (with_reducible repeat (first | refine blk_drewN ?_ _ | refine blk_drew ?_ | refine blk_alloc ?_ _)); refine blk_far ?_ NB533_530.out _; (with_reducible repeat (first | refine blk_drewN ?_ _ | refine blk_drew ?_ | refine blk_alloc ?_ _)); refine blk_far ?_ NB533_530.out _; (with_reducible repeat (first | refine blk_drewN ?_ _ | refine blk_drew ?_ | refine blk_alloc ?_ _)); exact BK533.out) hb); have n4_ := Aside0.mk (below_step (by repeat (first | (with_reducible first | exact HB.out | apply below_alloc | apply pw_below_drewN | apply below_drew1 | refine below_set ?_ GE530.out | refine below_set ?_ GE531.out | refine below_set ?_ GE532.out | refine below_set ?_ GE533.out) | exact HB.out)) hb); clear BK530; clear BK531; clear BK532; clear BK533; clear HB; have BK530 := n0_; have BK531 := n1_; have BK532 := n2_; have BK533 := n3_; have HB := n4_; clear n0_ n1_ n2_ n3_ n4_; clear hb))
  go_ret
  exact ⟨by first | rfl | (simp [*, errW_none, errW_some] <;> rfl), bw HB.out⟩
end Go.Proofs.Ytlkngfidohiepaa.F
end
section
namespace Go.Proofs.Ytlkngfidohiepaa.Tl
open Go RowKit YtlkngfidohiepaaW.PrintWords Ytlkngfidohiepaa.F Ytlkngfidohiepaa.Wd Ytlkngfidohiepaa.Pm Ytlkngfidohiepaa.Pd Ytlkngfidohiepaa.Tm
set_option linter.unusedVariables false
set_option linter.unusedSimpArgs false
def ord (a b c d : Int) : Int := if a < c then -1 else if a > c then 1 else if b < d then -1 else if b > d then 1 else 0
theorem nan_f (a : Int) : cmp_isNaN_int64.f a = some false := by unfold cmp_isNaN_int64.f; rw [bne_self_eq_false]
theorem compare_f (a b : Int) : cmp_Compare_int64.f a b = some (if a < b then -1 else if a > b then 1 else 0) := by
 unfold cmp_Compare_int64.f
 rw [nan_f, nan_f, Option.bind_some, Option.bind_some, if_neg (by decide), if_neg (by decide)]
 split
 ·rfl
 ·split <;> rfl
theorem or_f (x y : Int) {k : Nat} (hk : 10 ≤ k) : cmp_Or_int.f k [x, y] = some (if x = 0 then y else x) := by
 obtain ⟨k, rfl⟩ : ∃ m, k = m + 3 := ⟨k - 3, by omega⟩
 have r0 : rd [x, y] 0 = x := rfl
 have r1 : rd [x, y] 1 = y := rfl
 have e0 : wrap64 ((0 : Int) + 1) = 1 := p64 (by omega)
 have e1 : wrap64 ((1 : Int) + 1) = 2 := p64 (by omega)
 unfold cmp_Or_int.f
 rw [cmp_Or_int.l0, if_pos (by simp), if_pos (by omega), if_pos (by simp), r0, e0]
 by_cases h : x = 0
 ·rw [if_pos h, if_pos h, cmp_Or_int.l0, if_pos (by simp), if_pos (by omega), if_pos (by simp), r1, e1]
  by_cases h2 : y = 0
  ·rw [if_pos h2, cmp_Or_int.l0, if_neg (by simp), h2]
  ·rw [if_neg h2]
 ·rw [if_neg h, if_neg h]
theorem cmp_f (a b c d : Int) {k : Nat} (hk : 10 ≤ k) : lift_Cmp.f k a b c d = some (ord a b c d) := by
 unfold lift_Cmp.f
 rw [compare_f, compare_f, Option.bind_some, Option.bind_some, or_f _ _ hk, Option.bind_some]
 congr 1
 unfold ord
 split <;> split <;> (try split) <;> (try split) <;> omega
theorem ord_ky {a b c d : Int} (h1 : CoP a b) (h2 : CoP c d) : ord a b c d > 0 ↔ ky c d < ky a b := by
 have := ky_lt (a0 := c) (a1 := d) (b0 := a) (b1 := b) h2.2 h1.2
 rw [this]
 unfold ord
 split
 ·omega
 ·split
  ·omega
  ·split
   ·omega
   ·split <;> omega
def kyS (p : S23) : Int := ky p.f0 p.f1
theorem last_step (l : List S23) (at_ i i' : Int) (k : Nat) (hk : 10 ≤ k) (hl : l.length = 4) (h0 : 0 ≤ at_ ∧ at_ < 4) (h1 : 0 ≤ i ∧ i < 4) (hi : i' = i + 1) (hc : CoP (rd_T23 l i).f0 (rd_T23 l i).f1) (hd : CoP (rd_T23 l at_).f0 (rd_T23 l at_).f1) :
  tie_last.l0 (k + 1) l at_ 4 i = tie_last.l0 k l (if kyS (rd_T23 l at_) < kyS (rd_T23 l i) then i else at_) 4 i' := by
 subst hi
 rw [tie_last.l0, if_pos h1.2, if_pos h1.1, if_pos (by omega), if_pos h0.1, if_pos (by omega), cmp_f _ _ _ _ hk, Option.bind_some, p64 (by omega)]
 unfold kyS
 by_cases h : ord (rd_T23 l i).f0 (rd_T23 l i).f1 (rd_T23 l at_).f0 (rd_T23 l at_).f1 > 0
 ·rw [if_pos h, if_pos ((ord_ky hc hd).1 h)]
 ·rw [if_neg h, if_neg (fun q => h ((ord_ky hc hd).2 q))]
def laS (ka kb kc kd : Int) : Int := if kb ≤ ka ∧ kc ≤ ka ∧ kd ≤ ka then 0 else if kc ≤ kb ∧ kd ≤ kb then 1 else if kd ≤ kc then 2 else 3
theorem last_f {a0 a1 b0 b1 c0 c1 d0 d1 : Int} (ha : CoP a0 a1) (hb : CoP b0 b1) (hc : CoP c0 c1) (hd : CoP d0 d1) {k : Nat} (hk : 2000 ≤ k) :
  tie_last.f k [(⟨a0, a1⟩ : S23), (⟨b0, b1⟩ : S23), (⟨c0, c1⟩ : S23), (⟨d0, d1⟩ : S23)] = some (laS (ky a0 a1) (ky b0 b1) (ky c0 c1) (ky d0 d1)) := by
 obtain ⟨m, rfl⟩ : ∃ m, k = m + 5 := ⟨k - 5, by omega⟩
 have hm : 10 ≤ m := by omega
 unfold tie_last.f
 obtain ⟨L, hL⟩ : ∃ L : List S23, L = [(⟨a0, a1⟩ : S23), (⟨b0, b1⟩ : S23), (⟨c0, c1⟩ : S23), (⟨d0, d1⟩ : S23)] := ⟨_, rfl⟩
 have r0 : rd_T23 L 0 = ⟨a0, a1⟩ := by rw [hL]; rfl
 have r1 : rd_T23 L 1 = ⟨b0, b1⟩ := by rw [hL]; rfl
 have r2 : rd_T23 L 2 = ⟨c0, c1⟩ := by rw [hL]; rfl
 have r3 : rd_T23 L 3 = ⟨d0, d1⟩ := by rw [hL]; rfl
 have hl : L.length = 4 := by rw [hL]; rfl
 have c0' : CoP (rd_T23 L 0).f0 (rd_T23 L 0).f1 := by rw [r0]; exact ha
 have c1' : CoP (rd_T23 L 1).f0 (rd_T23 L 1).f1 := by rw [r1]; exact hb
 have c2' : CoP (rd_T23 L 2).f0 (rd_T23 L 2).f1 := by rw [r2]; exact hc
 have c3' : CoP (rd_T23 L 3).f0 (rd_T23 L 3).f1 := by rw [r3]; exact hd
 have any (i : Int) (h : i = 0 ∨ i = 1 ∨ i = 2 ∨ i = 3) : CoP (rd_T23 L i).f0 (rd_T23 L i).f1 := by rcases h with rfl | rfl | rfl | rfl <;> assumption
 rw [← hL, hl]
 show tie_last.l0 (m + 4 + 1) L 0 4 0 = _
 have k0 : kyS (rd_T23 L 0) = ky a0 a1 := by rw [r0]; rfl
 have k1 : kyS (rd_T23 L 1) = ky b0 b1 := by rw [r1]; rfl
 have k2 : kyS (rd_T23 L 2) = ky c0 c1 := by rw [r2]; rfl
 have k3 : kyS (rd_T23 L 3) = ky d0 d1 := by rw [r3]; rfl
 rw [last_step L 0 0 1 (m + 4) (by omega) hl (by omega) (by omega) rfl c0' c0', if_neg (Int.lt_irrefl _), last_step L 0 1 2 (m + 3) (by omega) hl (by omega) (by omega) rfl c1' c0', k0, k1]
 obtain ⟨x, hx, hx'⟩ : ∃ x, x = (if ky a0 a1 < ky b0 b1 then (1 : Int) else 0) ∧ (x = 0 ∨ x = 1) := ⟨_, rfl, by split <;> omega⟩
 rw [← hx, last_step L x 2 3 (m + 2) (by omega) hl (by omega) (by omega) rfl c2' (any x (by omega)), k2]
 obtain ⟨y, hy, hy'⟩ : ∃ y, y = (if kyS (rd_T23 L x) < ky c0 c1 then (2 : Int) else x) ∧ (y = 0 ∨ y = 1 ∨ y = 2) := ⟨_, rfl, by split <;> omega⟩
 rw [← hy, last_step L y 3 4 (m + 1) (by omega) hl (by omega) (by omega) rfl c3' (any y (by omega)), k3, tie_last.l0, if_neg (by omega)]
 congr 1
 subst hy
 unfold laS
 by_cases g : ky a0 a1 < ky b0 b1
 ·rw [if_pos g] at hx; subst hx; rw [k1]
  by_cases g2 : ky b0 b1 < ky c0 c1
  ·rw [if_pos g2, k2]; split <;> split <;> (try split) <;> (try split) <;> omega
  ·rw [if_neg g2, k1]; split <;> split <;> (try split) <;> (try split) <;> omega
 ·rw [if_neg g] at hx; subst hx; rw [k0]
  by_cases g2 : ky a0 a1 < ky c0 c1
  ·rw [if_pos g2, k2]; split <;> split <;> (try split) <;> (try split) <;> omega
  ·rw [if_neg g2, k0]; split <;> split <;> (try split) <;> (try split) <;> omega
def tieS (a0 a1 b0 b1 c0 c1 d0 d1 : Int) : Bool := decide ((CoP a0 a1 ∧ CoP b0 b1 ∧ CoP c0 c1) ∧ 0 < ar a0 a1 b0 b1 c0 c1 ∧ ¬ (d0 = a0 ∧ d1 = a1) ∧ ¬ (d0 = b0 ∧ d1 = b1) ∧ ¬ (d0 = c0 ∧ d1 = c1) ∧ does a0 a1 b0 b1 c0 c1 d0 d1)
theorem eq_b (a b c d : Int) : ((a == b) && (c == d)) = decide (a = b ∧ c = d) := by
 rw [Bool.eq_iff_iff, Bool.and_eq_true, beq_iff_eq, beq_iff_eq, decide_eq_true_eq]
theorem one_b (n : Int) : (n.sign == 1) = decide (0 < n) := by
 rw [Bool.eq_iff_iff, beq_iff_eq, decide_eq_true_eq]; exact sign_pos n
theorem or_one (a0 a1 b0 b1 c0 c1 : Int) : orS a0 a1 b0 b1 c0 c1 = 1 ↔ (CoP a0 a1 ∧ CoP b0 b1 ∧ CoP c0 c1) ∧ 0 < ar a0 a1 b0 b1 c0 c1 := by
 unfold orS
 by_cases h : CoP a0 a1 ∧ CoP b0 b1 ∧ CoP c0 c1
 ·rw [if_pos h, sign_pos]; exact ⟨fun q => ⟨h, q⟩, fun q => q.2⟩
 ·rw [if_neg h]; exact ⟨fun q => by omega, fun q => absurd q.1 h⟩
theorem or_b {a0 a1 b0 b1 c0 c1 : Int} (ha : CoP a0 a1) (hb : CoP b0 b1) (hc : CoP c0 c1) : (orS a0 a1 b0 b1 c0 c1 == 1) = decide (0 < ar a0 a1 b0 b1 c0 c1) := by
 unfold orS
 rw [if_pos ⟨ha, hb, hc⟩, one_b]
theorem conflict_f {a0 a1 b0 b1 c0 c1 d0 d1 : Int} (hd : CoP d0 d1) {k : Nat} (hk : 2001 ≤ k) : tie_conflict.f k a0 a1 b0 b1 c0 c1 d0 d1 = some (tieS a0 a1 b0 b1 c0 c1 d0 d1) := by
 obtain ⟨k, rfl⟩ : ∃ m, k = m + 1 := ⟨k - 1, by omega⟩
 have hk' : 2000 ≤ k := by omega
 unfold tie_conflict.f
 rw [Orient_f _ _ _ _ _ _ (by omega), Option.bind_some, eq_b, eq_b, eq_b]
 have no : ∀ {x : Bool}, x = true → tie_conflict.j0 (k + 1) x a0 a1 b0 b1 c0 c1 d0 d1 = some false := fun h => by rw [tie_conflict.j0, if_pos h]
 by_cases g : orS a0 a1 b0 b1 c0 c1 = 1
 ·rw [if_pos g]
  obtain ⟨⟨ha, hb, hc⟩, g⟩ := (or_one _ _ _ _ _ _).1 g
  by_cases g1 : d0 = a0 ∧ d1 = a1
  ·rw [if_pos (decide_eq_true g1), no rfl]
   unfold tieS; rw [decide_eq_false (fun q => q.2.2.1 g1)]
  rw [if_neg (by rw [decide_eq_true_eq]; exact g1)]
  by_cases g2 : d0 = b0 ∧ d1 = b1
  ·rw [if_pos (decide_eq_true g2), no rfl]
   unfold tieS; rw [decide_eq_false (fun q => q.2.2.2.1 g2)]
  rw [if_neg (by rw [decide_eq_true_eq]; exact g2)]
  by_cases g3 : d0 = c0 ∧ d1 = c1
  ·rw [no (decide_eq_true g3)]
   unfold tieS; rw [decide_eq_false (fun q => q.2.2.2.2.1 g3)]
  have e : tieS a0 a1 b0 b1 c0 c1 d0 d1 = decide (does a0 a1 b0 b1 c0 c1 d0 d1) := by
   unfold tieS
   rw [decide_eq_decide]
   exact ⟨fun q => q.2.2.2.2.2, fun q => ⟨⟨ha, hb, hc⟩, g, g1, g2, g3, q⟩⟩
  have nk1 := (not_congr (ky_eq (a0 := d0) (a1 := d1) (b0 := a0) (b1 := a1) hd.2 ha.2)).2 g1
  have nk2 := (not_congr (ky_eq (a0 := d0) (a1 := d1) (b0 := b0) (b1 := b1) hd.2 hb.2)).2 g2
  have nk3 := (not_congr (ky_eq (a0 := d0) (a1 := d1) (b0 := c0) (b1 := c1) hd.2 hc.2)).2 g3
  have L := left_ne g
  have nk4 := (not_congr (ky_eq (a0 := a0) (a1 := a1) (b0 := b0) (b1 := b1) ha.2 hb.2)).2 L.2.2
  have nk5 := (not_congr (ky_eq (a0 := c0) (a1 := c1) (b0 := a0) (b1 := a1) hc.2 ha.2)).2 L.1
  have nk6 := (not_congr (ky_eq (a0 := c0) (a1 := c1) (b0 := b0) (b1 := b1) hc.2 hb.2)).2 L.2.1
  have t3 : ∀ x : Bool, (some x).bind (fun t => some t) = some x := fun _ => rfl
  rw [tie_conflict.j0, if_neg (by rw [decide_eq_true_eq]; exact g3), InCircle_f _ _ _ _ _ _ _ _ hk', Option.bind_some, last_f ha hb hc hd hk', Orient_f _ _ _ _ _ _ hk', Orient_f _ _ _ _ _ _ hk', Orient_f _ _ _ _ _ _ hk', Option.bind_some, Option.bind_some, Option.bind_some, Option.bind_some,
   or_b hd hb hc, or_b ha hd hc, or_b ha hb hd, e]
  unfold icS
  rw [if_pos (show CoP a0 a1 ∧ CoP b0 b1 ∧ CoP c0 c1 ∧ CoP d0 d1 from ⟨ha, hb, hc, hd⟩)]
  clear g1 g2 g3 L e no t3
  generalize hq : decide (does a0 a1 b0 b1 c0 c1 d0 d1) = q
  have D : q = true ↔ does a0 a1 b0 b1 c0 c1 d0 d1 := by rw [← hq, decide_eq_true_eq]
  clear hq
  unfold does at D
  unfold laS
  generalize ky a0 a1 = ka at *; generalize ky b0 b1 = kb at *; generalize ky c0 c1 = kc at *; generalize ky d0 d1 = kd at *
  generalize ar d0 d1 b0 b1 c0 c1 = u1 at *; generalize ar a0 a1 d0 d1 c0 c1 = u2 at *; generalize ar a0 a1 b0 b1 d0 d1 = u3 at *
  have no : ¬ (q = true) → some false = some q := by cases q <;> simp
  rcases sign_cases (dt a0 a1 b0 b1 c0 c1 d0 d1) with ⟨x, x'⟩ | ⟨x, x'⟩ | ⟨x, x'⟩
  ·rw [x', if_neg (by omega), if_pos rfl]; exact no (fun h => by have := D.1 h; omega)
  ·rw [x', if_neg (by omega), if_neg (by omega)]
   generalize dt a0 a1 b0 b1 c0 c1 d0 d1 = t at *
   subst x
   by_cases p1 : kb ≤ ka ∧ kc ≤ ka ∧ kd ≤ ka
   ·rw [if_pos p1, if_pos rfl]; congr 1; obtain ⟨m1, m2, m3⟩ : kb < ka ∧ kc < ka ∧ kd < ka := by omega
    simp only [m1, m2, m3, Int.lt_asymm m1, Int.lt_asymm m2, Int.lt_asymm m3, Int.lt_irrefl, true_and, false_and, and_false, false_or, or_false] at D
    rw [Bool.eq_iff_iff, D, decide_eq_true_eq]
   ·rw [if_neg p1]
    by_cases p2 : kc ≤ kb ∧ kd ≤ kb
    ·rw [if_pos p2, if_neg (by omega), if_pos rfl]; congr 1; obtain ⟨m1, m2, m3⟩ : ka < kb ∧ kc < kb ∧ kd < kb := by omega
     simp only [m1, m2, m3, Int.lt_asymm m1, Int.lt_asymm m2, Int.lt_asymm m3, Int.lt_irrefl, true_and, false_and, and_false, false_or, or_false] at D
     rw [Bool.eq_iff_iff, D, decide_eq_true_eq]
    ·rw [if_neg p2]
     by_cases p3 : kd ≤ kc
     ·rw [if_pos p3, if_neg (by omega), if_neg (by omega), if_pos rfl]; congr 1; obtain ⟨m1, m2, m3⟩ : ka < kc ∧ kb < kc ∧ kd < kc := by omega
      simp only [m1, m2, m3, Int.lt_asymm m1, Int.lt_asymm m2, Int.lt_asymm m3, Int.lt_irrefl, true_and, false_and, and_false, false_or, or_false] at D
      rw [Bool.eq_iff_iff, D, decide_eq_true_eq]
     ·rw [if_neg p3, if_neg (by omega), if_neg (by omega), if_neg (by omega)]
      obtain ⟨m1, m2, m3⟩ : ka < kd ∧ kb < kd ∧ kc < kd := by omega
      simp only [Int.lt_asymm m1, Int.lt_asymm m2, Int.lt_asymm m3, Int.lt_irrefl, and_false, false_and, or_false, false_or] at D
      exact no D.1
  ·rw [x', if_pos rfl, D.2 (.inl x)]
 ·rw [if_neg g, no rfl]
  unfold tieS; rw [decide_eq_false (fun q => g ((or_one _ _ _ _ _ _).2 ⟨q.1, q.2.1⟩))]
def coS (a0 a1 b0 b1 c0 c1 d0 d1 : Int) : Bool := decide (CoP d0 d1) && tieS a0 a1 b0 b1 c0 c1 d0 d1
theorem Conflict_f (a0 a1 b0 b1 c0 c1 d0 d1 : Int) {k : Nat} (hk : 2001 ≤ k) : tie_Conflict.f k a0 a1 b0 b1 c0 c1 d0 d1 = some (coS a0 a1 b0 b1 c0 c1 d0 d1) := by
 unfold tie_Conflict.f coS
 rw [can_f, Option.bind_some]
 by_cases h : CoP d0 d1
 ·rw [if_pos (decide_eq_true h), conflict_f h hk, decide_eq_true h]; rfl
 ·rw [if_neg (by rw [decide_eq_true_eq]; exact h), decide_eq_false h]; rfl
theorem lives_true {k : Nat} (hk : 2010 ≤ k) : zelligelaw08_lives.f k = some true := by
 obtain ⟨m, rfl⟩ : ∃ m, k = m + 4 := ⟨k - 4, by omega⟩
 unfold zelligelaw08_lives.f
 rw [Conflict_f _ _ _ _ _ _ _ _ (by omega), Option.bind_some, Conflict_f _ _ _ _ _ _ _ _ (by omega), Option.bind_some, if_pos (by decide +kernel), if_neg (by decide +kernel)]
 unfold tie_Best.f
 have w1 : wrap64 ((0 : Int) + 1) = 1 := by decide +kernel
 have w2 : wrap64 ((1 : Int) + 1) = 2 := by decide +kernel
 have w3 : wrap64 ((2 : Int) + 1) = 3 := by decide +kernel
 show ((tie_Best.l0 (m + 3 + 1) [(⟨0, 0⟩ : S23), (⟨1, 1⟩ : S23), (⟨0, 1⟩ : S23)] (-1) [(⟨0, 0⟩ : S23), (⟨1, 1⟩ : S23), (⟨0, 1⟩ : S23)] 3 0 0 0 1 0).bind fun t549 => some (t549 == 2)) = some true
 rw [tie_Best.l0, if_pos (by decide), if_pos (by decide), if_pos (by decide), Orient_f _ _ _ _ _ _ (by omega), Option.bind_some, if_neg (by decide +kernel), w1,
  tie_Best.l0, if_pos (by decide), if_pos (by decide), if_pos (by decide), Orient_f _ _ _ _ _ _ (by omega), Option.bind_some, if_pos (by decide +kernel), if_pos (by decide), w2,
  tie_Best.l0, if_pos (by decide), if_pos (by decide), if_pos (by decide), Orient_f _ _ _ _ _ _ (by omega), Option.bind_some, if_pos (by decide +kernel), if_neg (by decide), if_pos (by decide), if_pos (by decide), conflict_f (by decide +kernel) (by omega), Option.bind_some, if_pos (by decide +kernel), w3,
  tie_Best.l0, if_neg (by decide)]
 rfl
end Go.Proofs.Ytlkngfidohiepaa.Tl
end
section
namespace Go.Proofs.Ytlkngfidohiepaa.Dig
open Go RowKit YtlkngfidohiepaaW.PrintWords
theorem w64 {x : Int} (h : -9223372036854775808 ≤ x) (h' : x ≤ 9223372036854775807) : wrap64 x = x := by unfold wrap64; omega
def val : List Int → Int
 | [] => 0
 | d :: l => d + 65536 * val l
def Dg (l : List Int) : Prop := ∀ d, d ∈ l → 0 ≤ d ∧ d < 65536
def Cn (l : List Int) : Prop := Dg l ∧ (l = [] ∨ l.getD (l.length - 1) 0 ≠ 0)
def P : Nat → Int
 | 0 => 1
 | k + 1 => 65536 * P k
theorem P_pos (k : Nat) : 1 ≤ P k := by
 induction k with
 | zero => simp [P]
 | succ k ih => simp only [P]; omega
theorem P_add (a b : Nat) : P (a + b) = P a * P b := by
 induction b with
 | zero => simp [P]
 | succ b ih => rw [show a + (b + 1) = (a + b) + 1 from rfl, P, ih, P]; grind
theorem P_mono {a b : Nat} (h : a ≤ b) : P a ≤ P b := by
 obtain ⟨c, rfl⟩ : ∃ c, b = a + c := ⟨b - a, by omega⟩
 rw [P_add]
 have h1 := P_pos a
 have h2 := P_pos c
 have : P a * 1 ≤ P a * P c := Int.mul_le_mul_of_nonneg_left h2 (by omega)
 omega
theorem Dg_nil : Dg [] := fun d h => by cases h
theorem Dg_cons {d : Int} {l : List Int} : Dg (d :: l) ↔ (0 ≤ d ∧ d < 65536) ∧ Dg l := by simp [Dg]
theorem Dg_app {a b : List Int} : Dg (a ++ b) ↔ Dg a ∧ Dg b := by
 constructor
 ·intro h
  exact ⟨fun d hd => h d (List.mem_append_left _ hd), fun d hd => h d (List.mem_append_right _ hd)⟩
 ·rintro ⟨h1, h2⟩ d hd
  rcases List.mem_append.1 hd with hd | hd
  ·exact h1 d hd
  ·exact h2 d hd
theorem Dg_one {d : Int} (h : 0 ≤ d) (h' : d < 65536) : Dg [d] := fun x hx => by
 rw [List.mem_singleton.1 hx]; exact ⟨h, h'⟩
theorem Dg_take {l : List Int} (h : Dg l) (n : Nat) : Dg (l.take n) := fun d hd => h d (List.mem_of_mem_take hd)
theorem Dg_get {l : List Int} (h : Dg l) (n : Nat) : 0 ≤ l.getD n 0 ∧ l.getD n 0 < 65536 := by
 rw [List.getD_eq_getElem?_getD]
 cases e : l[n]? with
 | none => simp
 | some x => simpa using h x (List.mem_of_getElem? e)
theorem val_app (a b : List Int) : val (a ++ b) = val a + P a.length * val b := by
 induction a with
 | nil => simp [val, P]
 | cons d a ih => simp only [List.cons_append, val, ih, List.length_cons, P]; grind
theorem val_snoc (a : List Int) (d : Int) : val (a ++ [d]) = val a + P a.length * d := by
 rw [val_app]; simp [val]
theorem val_nonneg {l : List Int} (h : Dg l) : 0 ≤ val l := by
 induction l with
 | nil => simp [val]
 | cons d l ih =>
  have := (Dg_cons.1 h)
  have := ih this.2
  simp only [val]; omega
theorem val_lt {l : List Int} (h : Dg l) : val l < P l.length := by
 induction l with
 | nil => simp [val, P]
 | cons d l ih =>
  have := (Dg_cons.1 h)
  have := ih this.2
  simp only [val, List.length_cons, P]; omega
theorem val_drop {l : List Int} {i : Nat} (h : i < l.length) : val (l.drop i) = l.getD i 0 + 65536 * val (l.drop (i + 1)) := by
 rw [List.drop_eq_getElem_cons h, val]
 simp [List.getD_eq_getElem?_getD, List.getElem?_eq_getElem h]
theorem val_drop_all {l : List Int} {i : Nat} (h : l.length ≤ i) : val (l.drop i) = 0 := by
 rw [List.drop_eq_nil_of_le h]; rfl
theorem val_take_drop (l : List Int) (i : Nat) (h : i ≤ l.length) : val l = val (l.take i) + P i * val (l.drop i) := by
 have := val_app (l.take i) (l.drop i)
 rw [List.take_append_drop, List.length_take, Nat.min_eq_left h] at this
 exact this
theorem take_succ' {l : List Int} {i : Nat} (h : i < l.length) : l.take (i + 1) = l.take i ++ [l.getD i 0] := by
 rw [List.take_succ_eq_append_getElem h]
 simp [List.getD_eq_getElem?_getD, List.getElem?_eq_getElem h]
theorem Cn_nil : Cn [] := ⟨Dg_nil, .inl rfl⟩
theorem Cn_low {l : List Int} (h : Cn l) (hn : l ≠ []) : P (l.length - 1) ≤ val l := by
 obtain ⟨h1, h2 | h2⟩ := h
 ·exact absurd h2 hn
 ·have hl : 0 < l.length := List.length_pos_iff.2 hn
  have e := val_take_drop l (l.length - 1) (by omega)
  have e2 := val_drop (l := l) (i := l.length - 1) (by omega)
  rw [val_drop_all (i := l.length - 1 + 1) (by omega)] at e2
  have hg := Dg_get h1 (l.length - 1)
  have h0 := val_nonneg (Dg_take h1 (l.length - 1))
  have hp := P_pos (l.length - 1)
  have : P (l.length - 1) * 1 ≤ P (l.length - 1) * val (l.drop (l.length - 1)) := Int.mul_le_mul_of_nonneg_left (by omega) (by omega)
  omega
theorem Cn_zero {l : List Int} (h : Cn l) (h0 : val l = 0) : l = [] := by
 by_cases hn : l = []
 ·exact hn
 ·have := Cn_low h hn
  have := P_pos (l.length - 1)
  omega
theorem Cn_tail {d : Int} {l : List Int} (h : Cn (d :: l)) : Cn l := by
 refine ⟨(Dg_cons.1 h.1).2, ?_⟩
 rcases l with _ | ⟨e, l⟩
 ·exact .inl rfl
 ·refine .inr ?_
  rcases h.2 with h2 | h2
  ·cases h2
  ·simpa using h2
theorem Cn_one {a b : List Int} (ha : Cn a) (hb : Cn b) (h : val a = val b) : a = b := by
 induction a generalizing b with
 | nil => exact (Cn_zero hb (by rw [← h]; rfl)).symm
 | cons d a ih =>
  rcases b with _ | ⟨e, b⟩
  ·exact Cn_zero ha (by rw [h]; rfl)
  ·simp only [val] at h
   have h1 := (Dg_cons.1 ha.1).1
   have h2 := (Dg_cons.1 hb.1).1
   have hd : d = e := by omega
   subst hd
   rw [ih (Cn_tail ha) (Cn_tail hb) (by omega)]
theorem Cn_longer {a b : List Int} (ha : Dg a) (hb : Cn b) (h : a.length < b.length) : val a < val b := by
 have h1 := val_lt ha
 have h2 := Cn_low hb (by intro e; rw [e] at h; simp at h)
 have h3 := P_mono (a := a.length) (b := b.length - 1) (by omega)
 omega
def dig (n : Nat) : List Int := if h : n = 0 then [] else ((n % 65536 : Nat) : Int) :: dig (n / 65536)
 termination_by n
 decreasing_by omega
theorem dig_zero : dig 0 = [] := by rw [dig]; simp
theorem dig_pos {n : Nat} (h : n ≠ 0) : dig n = ((n % 65536 : Nat) : Int) :: dig (n / 65536) := by rw [dig]; simp [h]
theorem dig_val (n : Nat) : val (dig n) = n := by
 induction n using Nat.strongRecOn with
 | ind n ih =>
  by_cases h : n = 0
  ·subst h; rw [dig_zero]; rfl
  ·rw [dig_pos h, val, ih _ (by omega)]; omega
theorem dig_Dg (n : Nat) : Dg (dig n) := by
 induction n using Nat.strongRecOn with
 | ind n ih =>
  by_cases h : n = 0
  ·subst h; rw [dig_zero]; exact Dg_nil
  ·rw [dig_pos h]; exact Dg_cons.2 ⟨by omega, ih _ (by omega)⟩
theorem dig_ne {n : Nat} (h : n ≠ 0) : dig n ≠ [] := by rw [dig_pos h]; simp
theorem dig_Cn (n : Nat) : Cn (dig n) := by
 induction n using Nat.strongRecOn with
 | ind n ih =>
  by_cases h : n = 0
  ·subst h; rw [dig_zero]; exact Cn_nil
  ·refine ⟨dig_Dg n, .inr ?_⟩
   rw [dig_pos h]
   have h2 := (ih (n / 65536) (by omega)).2
   by_cases h3 : n / 65536 = 0
   ·rw [h3, dig_zero]; simp; omega
   ·rcases h2 with h2 | h2
    ·exact absurd h2 (dig_ne h3)
    ·have hl : 0 < (dig (n / 65536)).length := List.length_pos_iff.2 (dig_ne h3)
     rw [List.length_cons, show (dig (n / 65536)).length + 1 - 1 = ((dig (n / 65536)).length - 1) + 1 from by omega, List.getD_cons_succ]
     exact h2
theorem eq_dig_of {l : List Int} {n : Nat} (h : Cn l) (e : val l = n) : l = dig n := Cn_one h (dig_Cn _) (by rw [dig_val, e])
theorem dig_len {n m : Nat} (h : (n : Int) < P m) : (dig n).length ≤ m := by
 by_cases hn : n = 0
 ·subst hn; rw [dig_zero]; simp
 ·have h1 := Cn_low (dig_Cn n) (dig_ne hn)
  rw [dig_val] at h1
  rcases Nat.lt_or_ge m (dig n).length with h2 | h2
  ·have := P_mono (a := m) (b := (dig n).length - 1) (by omega)
   omega
  ·exact h2
theorem dig_len_mono {a b : Nat} (h : a ≤ b) : (dig a).length ≤ (dig b).length := by
 apply dig_len
 have := val_lt (dig_Dg b)
 rw [dig_val] at this
 omega
end Go.Proofs.Ytlkngfidohiepaa.Dig
end
section
namespace Go.Proofs.Ytlkngfidohiepaa.F
open RowKit YtlkngfidohiepaaW.PrintWords YtlkngfidohiepaaW.PrintLast YtlkngfidohiepaaW.PrintMore
set_option linter.unusedVariables false
set_option linter.unusedSimpArgs false
def zelligeref03_Trim.l0 : Nat → List Int → Int → Option (List Int)
 | 0, _, _ => none
 | k + 1, x0, x3 => if x3 > 0 then (if 0 ≤ (wrap64 (x3 - 1)) then (if (wrap64 (x3 - 1)) < (x0.length : Int) then (if (rd x0 (wrap64 (x3 - 1))) = 0 then (zelligeref03_Trim.l0 k x0 (wrap64 (x3 - 1))) else (if 0 ≤ x3 then (if x3 ≤ (x0.length : Int) then (some (x0.take (x3 : Int).toNat)) else (none)) else (none))) else (none)) else (none)) else (if 0 ≤ x3 then (if x3 ≤ (x0.length : Int) then (some (x0.take (x3 : Int).toNat)) else (none)) else (none))
def zelligeref03_Trim.f (k : Nat) (l0 : List Int) : Option (List Int) := zelligeref03_Trim.l0 k l0 (l0.length : Int)
theorem zelligeref03_Trim.mono_l : ∀ k, (∀ y0 y1, LeO (zelligeref03_Trim.l0 k y0 y1) (zelligeref03_Trim.l0 (k + 1) y0 y1))
 | 0 => fun _ _ r h => by simp [zelligeref03_Trim.l0] at h
 | k + 1 => by
  have ih0 := zelligeref03_Trim.mono_l k
  ·intro y0 y1
   unfold zelligeref03_Trim.l0
   repeat' first
   | (with_reducible exact ih0 _ _)
   | (with_reducible exact LeO.refl _)
   | (with_reducible exact LeO.none _)
   | (with_reducible refine LeO.ite ?_ ?_)
   | (with_reducible refine LeO.bind ?_ (fun _ => ?_))
   | exact ih0 _ _
   | exact LeO.none _
   | refine LeO.ite ?_ ?_
   | refine LeO.bind ?_ (fun _ => ?_)
theorem zelligeref03_Trim.mono : ∀ a0 k, LeO (zelligeref03_Trim.f k a0) (zelligeref03_Trim.f (k + 1) a0) := by
 intro a0 k
 have ih0 := zelligeref03_Trim.mono_l k
 unfold zelligeref03_Trim.f
 repeat' first
   | (with_reducible exact ih0 _ _)
   | (with_reducible exact LeO.refl _)
   | (with_reducible exact LeO.none _)
   | (with_reducible refine LeO.ite ?_ ?_)
   | (with_reducible refine LeO.bind ?_ (fun _ => ?_))
   | exact ih0 _ _
   | exact LeO.none _
   | refine LeO.ite ?_ ?_
   | refine LeO.bind ?_ (fun _ => ?_)
set_option maxHeartbeats 8000000 in
set_option maxRecDepth 100000 in
theorem zelligeref03_Trim.calls (k : Nat) (P0_ : Nat → Prop) (u9000_ : Value) (l0 : List Int) (r : List Int) (w0 w : World) (hB : Below w0.heap.size w0 w) (ho0 : Kd.R (Kd.int .i64) 3 w w0.heap.size P0_ u9000_ l0) (h : zelligeref03_Trim.f k l0 = some r) :
  Calls Try.prog 55 #[u9000_] w fun e w' => ∃ v0_ : Value, e = .returned (v0_) ∧ Kd.R (Kd.int .i64) 3 w' w0.heap.size (fun k_ => (P0_ k_ ∨ w.heap.size ≤ k_)) v0_ r ∧ Below w0.heap.size w0 w' ∧ Kept w w' (fun k_ => P0_ k_) := by
 have HO0 := Aside0.mk (show Kd.R (Kd.int .i64) 3 w w0.heap.size (fun k_ => (P0_ k_ ∨ w.heap.size ≤ k_)) u9000_ l0 from Kd.R_mono ho0 (fun k_ hk => (.inl hk)))
 have HK := Aside0.mk (Kept.refl w (fun k_ => P0_ k_))
 have HW0 := Aside0.mk hB.size
 have HB := Aside0.mk hB
 clear hB
 have H : (zelligeref03_Trim.l0 k l0 (l0.length : Int)) = some r := h
 clear h
 have H' := Aside0.mk H
 clear H
 obtain ⟨Ao2, co2, eo2⟩ := Kd.R_slice HO0.out
 subst eo2
 go_enter Try.func55, Try.ntmps55
 go_wp2
 go_loopg [3] k (fun kq v3 w' => ∃ (x3_1 : Int), v3 = .int .i64 x3_1 ∧ Aside0 (zelligeref03_Trim.l0 kq l0 x3_1 = some r) ∧ Aside0 (kq ≤ k) ∧ Aside0 (Kd.R (Kd.int .i64) 3 w' w0.heap.size (fun k_ => (P0_ k_ ∨ w.heap.size ≤ k_)) (.slice Ao2 l0.length co2) l0) ∧ Aside0 (Kept w w' (fun k_ => P0_ k_)) ∧ Aside0 (Below w0.heap.size w0 w'))
 case atStart => exact ⟨((l0.length : Int)), (by first | rfl | (simp; done) | (simp [*]; done)), H', ⟨Nat.le_refl _⟩, ⟨by (with_reducible repeat (first | apply Kd.R_alloc | apply Kd.R_drewN | apply Kd.R_drew)); exact HO0.out⟩, ⟨by repeat (first | (with_reducible first | exact HK.out | apply Kept.alloc | apply Kept.drewN | apply Kept.drew) | exact HK.out)⟩, ⟨bw HB.out⟩⟩
 case round =>
  clear H'
  try clear p2
  obtain ⟨x3_1, rfl, HA, HK1, HO_0, HK, HB⟩ := hrel
  cases gk with
  | zero => exact absurd HA.out (by simp [zelligeref03_Trim.l0])
  | succ k1 =>
   have H := HA.out
   clear HA
   simp only [zelligeref03_Trim.l0] at H
   by_cases c3 : x3_1 > 0
   ·rw [if_pos c3] at H
    have c3b0 : decide (0 < x3_1) = true := decide_eq_true c3
    clear c3
    obtain ⟨ji4, hji4⟩ : ∃ j_ : Int, (wrap64 (x3_1 - 1)) = j_ := ⟨_, rfl⟩
    replace H : (if 0 ≤ (ji4) then (if (ji4) < (l0.length : Int) then (if (rd l0 (ji4)) = 0 then (zelligeref03_Trim.l0 k1 l0 ji4) else (if 0 ≤ x3_1 then (if x3_1 ≤ (l0.length : Int) then (some (l0.take (x3_1 : Int).toNat)) else (none)) else (none))) else (none)) else (none)) = some r := by first | (rw [hji4] at H; exact H) | (simp only [hji4] at H ⊢; exact H)
    have hji4w : (IntKind.i64.wrap (x3_1 - 1)) = ji4 := (i64_w _).trans hji4
    by_cases c5 : 0 ≤ (ji4)
    ·rw [if_pos c5] at H
     have c5b0 : decide (0 ≤ (ji4)) = true := decide_eq_true c5
     clear c5
     by_cases c6 : (ji4) < (l0.length : Int)
     ·rw [if_pos c6] at H
      have c6b0 : decide ((ji4) < (l0.length : Int)) = true := decide_eq_true c6
      clear c6
      by_cases c7 : (rd l0 (ji4)) = 0
      ·rw [if_pos c7] at H
       have c7b0 : ((rd l0 (ji4)) == 0) = true := beq_iff_eq.mpr c7
       have c7b1 : ((rd l0 (ji4)) != 0) = false := bne_eq_false_iff_eq.mpr c7
       clear c7
       have H' := Aside0.mk H
       clear H
       have p262 : 0 ≤ ((ji4) : Int) := dt_
       have q262 : (ji4) < (l0.length : Int) := dt_
       obtain ⟨ad262, e262, hx262_0⟩ := Kd.at_int (Kd.R_reads' HO_0.out).2.2 (ji4) p262 q262
       cases e262
       replace p262 := eq_true p262
       replace q262 := eq_true q262
       go_wp2
       go_roundg k1
       case measure => have := HK1.out; omega
       case rel => exact ⟨(ji4), (by first | rfl | (simp; done) | (simp only [← hji4] <;> (first | rfl | simp)) | (simp [*]; done)), H', ⟨by have := HK1.out; omega⟩, ⟨by (with_reducible repeat (first | apply Kd.R_alloc | apply Kd.R_drewN | apply Kd.R_drew)); exact HO_0.out⟩, ⟨by repeat (first | (with_reducible first | exact HK.out | apply Kept.alloc | apply Kept.drewN | apply Kept.drew) | exact HK.out)⟩, ⟨bw HB.out⟩⟩
      ·rw [if_neg c7] at H
       have c7b0 : ((rd l0 (ji4)) == 0) = false := beq_eq_false_iff_ne.mpr c7
       have c7b1 : ((rd l0 (ji4)) != 0) = true := bne_iff_ne.mpr c7
       by_cases c8 : 0 ≤ x3_1
       ·rw [if_pos c8] at H
        have c8b0 := eq_true c8
        have c8b1 : decide (0 ≤ x3_1) = true := decide_eq_true c8
        clear c8
        by_cases c9 : x3_1 ≤ (l0.length : Int)
        ·rw [if_pos c9] at H
         have c9b0 := eq_true c9
         have c9b1 : decide (x3_1 ≤ (l0.length : Int)) = true := decide_eq_true c9
         clear c9
         obtain ⟨y263, hy263⟩ : ∃ y_ : List Int, y_ = (l0.take (x3_1 : Int).toNat) := ⟨_, rfl⟩
         replace H : (some y263) = some r := by first | (rw [hy263]; with_reducible exact H) | (have H2_ := (Option.bind_some _ _).symm.trans H; rw [hy263]; with_reducible exact H2_) | (have H2_ := (Option.bind_some _ _).symm.trans H; with_reducible exact H2_) | with_reducible exact H | (rw [hy263]; exact H) | exact H
         have Ny263 := Aside0.mk hy263
         clear hy263
         obtain rfl := Option.some.inj H
         have p262 : 0 ≤ ((ji4) : Int) := dt_
         have q262 : (ji4) < (l0.length : Int) := dt_
         obtain ⟨ad262, e262, hx262_0⟩ := Kd.at_int (Kd.R_reads' HO_0.out).2.2 (ji4) p262 q262
         cases e262
         replace p262 := eq_true p262
         replace q262 := eq_true q262
         have q10 : (x3_1 : Int) ≤ ((l0.length : Int) : Int) := dt_
         obtain ⟨i010, hi010, _, hsz10, _⟩ := info_parts info3
         have hcut10 := cut_to (P := Try.prog) 40 3 .i64 Try.underlying40 hi010 (some ad262) l0.length co2 x3_1 (of_decide_eq_true (by first | (with_reducible assumption) | assumption)) q10 (Kd.R_reads' HO_0.out).2.1
         have hr10 := Kd.R_take (m := (x3_1 : Int).toNat) HO_0.out (by omega)
         have hy10 : y263.length = (x3_1 : Int).toNat := (by rw [Ny263.out, List.length_take]; omega)
         rw [← Ny263.out] at hr10
         rw [← hy10] at hr10 hcut10
         clear hy10 hi010 hsz10 HO_0
         have HO265 := Aside0.mk hr10
         clear hr10
         replace q10 := eq_true q10
         go_wp2
         go_ret
         exact ⟨_, by first | rfl | (simp [errW_none, errW_some] <;> rfl) | (simp only [← hji4]; first | rfl | (simp [errW_none, errW_some] <;> rfl)) | (simp [*, errW_none, errW_some] <;> rfl), by (with_reducible repeat (first | apply Kd.R_alloc | apply Kd.R_drewN | apply Kd.R_drew)); exact HO265.out, bw HB.out, by repeat (first | (with_reducible first | exact HK.out | apply Kept.alloc | apply Kept.drewN | apply Kept.drew) | exact HK.out)⟩
        ·rw [if_neg c9] at H
         exact absurd H (by simp)
       ·rw [if_neg c8] at H
        exact absurd H (by simp)
     ·rw [if_neg c6] at H
      exact absurd H (by simp)
    ·rw [if_neg c5] at H
     exact absurd H (by simp)
   ·rw [if_neg c3] at H
    have c3b0 : decide (0 < x3_1) = false := decide_eq_false c3
    clear c3
    by_cases c11 : 0 ≤ x3_1
    ·rw [if_pos c11] at H
     have c11b0 := eq_true c11
     have c11b1 : decide (0 ≤ x3_1) = true := decide_eq_true c11
     clear c11
     by_cases c12 : x3_1 ≤ (l0.length : Int)
     ·rw [if_pos c12] at H
      have c12b0 := eq_true c12
      have c12b1 : decide (x3_1 ≤ (l0.length : Int)) = true := decide_eq_true c12
      clear c12
      obtain ⟨y266, hy266⟩ : ∃ y_ : List Int, y_ = (l0.take (x3_1 : Int).toNat) := ⟨_, rfl⟩
      replace H : (some y266) = some r := by first | (rw [hy266]; with_reducible exact H) | (have H2_ := (Option.bind_some _ _).symm.trans H; rw [hy266]; with_reducible exact H2_) | (have H2_ := (Option.bind_some _ _).symm.trans H; with_reducible exact H2_) | with_reducible exact H | (rw [hy266]; exact H) | exact H
      have Ny266 := Aside0.mk hy266
      clear hy266
      obtain rfl := Option.some.inj H
      have q13 : (x3_1 : Int) ≤ ((l0.length : Int) : Int) := dt_
      obtain ⟨i013, hi013, _, hsz13, _⟩ := info_parts info3
      have hcut13 := cut_to (P := Try.prog) 40 3 .i64 Try.underlying40 hi013 Ao2 l0.length co2 x3_1 (of_decide_eq_true (by first | (with_reducible assumption) | assumption)) q13 (Kd.R_reads' HO_0.out).2.1
      have hr13 := Kd.R_take (m := (x3_1 : Int).toNat) HO_0.out (by omega)
      have hy13 : y266.length = (x3_1 : Int).toNat := (by rw [Ny266.out, List.length_take]; omega)
      rw [← Ny266.out] at hr13
      rw [← hy13] at hr13 hcut13
      clear hy13 hi013 hsz13 HO_0
      have HO268 := Aside0.mk hr13
      clear hr13
      replace q13 := eq_true q13
      go_wp2
      go_ret
      exact ⟨_, by first | rfl | (simp [*, errW_none, errW_some] <;> rfl), by (with_reducible repeat (first | apply Kd.R_alloc | apply Kd.R_drewN | apply Kd.R_drew)); exact HO268.out, bw HB.out, by repeat (first | (with_reducible first | exact HK.out | apply Kept.alloc | apply Kept.drewN | apply Kept.drew) | exact HK.out)⟩
     ·rw [if_neg c12] at H
      exact absurd H (by simp)
    ·rw [if_neg c11] at H
     exact absurd H (by simp)
end Go.Proofs.Ytlkngfidohiepaa.F
end
section
namespace Go.Proofs.Ytlkngfidohiepaa.F
open RowKit YtlkngfidohiepaaW.PrintWords YtlkngfidohiepaaW.PrintLast YtlkngfidohiepaaW.PrintMore
set_option linter.unusedVariables false
set_option linter.unusedSimpArgs false
mutual
def zelligeref03_Add.l0 : Nat → List Int → List Int → List Int → Int → Int → Option (List Int)
 | 0, _, _, _, _, _ => none
 | k + 1, x0, x1, x5, x6, x7 => if x7 < (x0.length : Int) then (zelligeref03_Add.j1 k x0 x1 x5 x6 x7 true) else (zelligeref03_Add.j1 k x0 x1 x5 x6 x7 (decide (x7 < (x1.length : Int))))
def zelligeref03_Add.j1 : Nat → List Int → List Int → List Int → Int → Int → Bool → Option (List Int)
 | 0, _, _, _, _, _, _ => none
 | k + 1, x0, x1, x5, x6, x7, x18 => if x18 = true then (if x7 < (x0.length : Int) then (if 0 ≤ x7 then (if x7 < (x1.length : Int) then (if x5.length < 17592186044416 then (zelligeref03_Add.l0 k x0 x1 (x5 ++ [Int.tmod (wrap64 ((wrap64 (x6 + (rd x0 x7))) + (rd x1 x7))) 65536]) (wrap64 (Int.tdiv (wrap64 ((wrap64 (x6 + (rd x0 x7))) + (rd x1 x7))) 65536)) (wrap64 (x7 + 1))) else (none)) else (if x5.length < 17592186044416 then (zelligeref03_Add.l0 k x0 x1 (x5 ++ [Int.tmod (wrap64 (x6 + (rd x0 x7))) 65536]) (wrap64 (Int.tdiv (wrap64 (x6 + (rd x0 x7))) 65536)) (wrap64 (x7 + 1))) else (none))) else (none)) else (if x7 < (x1.length : Int) then (if 0 ≤ x7 then (if x5.length < 17592186044416 then (zelligeref03_Add.l0 k x0 x1 (x5 ++ [Int.tmod (wrap64 (x6 + (rd x1 x7))) 65536]) (wrap64 (Int.tdiv (wrap64 (x6 + (rd x1 x7))) 65536)) (wrap64 (x7 + 1))) else (none)) else (none)) else (if x5.length < 17592186044416 then (zelligeref03_Add.l0 k x0 x1 (x5 ++ [Int.tmod x6 65536]) (wrap64 (Int.tdiv x6 65536)) (wrap64 (x7 + 1))) else (none)))) else (if x5.length < 17592186044416 then ((zelligeref03_Trim.f k (x5 ++ [x6])).bind fun t303 => (some t303)) else (none))
end
def zelligeref03_Add.f (k : Nat) (l0 : List Int) (l1 : List Int) : Option (List Int) := zelligeref03_Add.l0 k l0 l1 (([] : List Int)) 0 0
theorem zelligeref03_Add.mono_l : ∀ k, (∀ y0 y1 y2 y3 y4, LeO (zelligeref03_Add.l0 k y0 y1 y2 y3 y4) (zelligeref03_Add.l0 (k + 1) y0 y1 y2 y3 y4)) ∧ (∀ y0 y1 y2 y3 y4 y5, LeO (zelligeref03_Add.j1 k y0 y1 y2 y3 y4 y5) (zelligeref03_Add.j1 (k + 1) y0 y1 y2 y3 y4 y5))
 | 0 => ⟨fun _ _ _ _ _ r h => by simp [zelligeref03_Add.l0] at h, fun _ _ _ _ _ _ r h => by simp [zelligeref03_Add.j1] at h⟩
 | k + 1 => by
  obtain ⟨ih0, ih1⟩ := zelligeref03_Add.mono_l k
  refine ⟨?_, ?_⟩
  ·intro y0 y1 y2 y3 y4
   unfold zelligeref03_Add.l0
   repeat' first
   | (with_reducible exact ih0 _ _ _ _ _)
   | (with_reducible exact ih1 _ _ _ _ _ _)
   | (with_reducible exact zelligeref03_Trim.mono _ _)
   | (with_reducible exact LeO.refl _)
   | (with_reducible exact LeO.none _)
   | (with_reducible refine LeO.ite ?_ ?_)
   | (with_reducible refine LeO.bind ?_ (fun _ => ?_))
   | exact ih0 _ _ _ _ _
   | exact ih1 _ _ _ _ _ _
   | exact zelligeref03_Trim.mono _ _
   | exact LeO.none _
   | refine LeO.ite ?_ ?_
   | refine LeO.bind ?_ (fun _ => ?_)
  ·intro y0 y1 y2 y3 y4 y5
   unfold zelligeref03_Add.j1
   repeat' first
   | (with_reducible exact ih0 _ _ _ _ _)
   | (with_reducible exact ih1 _ _ _ _ _ _)
   | (with_reducible exact zelligeref03_Trim.mono _ _)
   | (with_reducible exact LeO.refl _)
   | (with_reducible exact LeO.none _)
   | (with_reducible refine LeO.ite ?_ ?_)
   | (with_reducible refine LeO.bind ?_ (fun _ => ?_))
   | exact ih0 _ _ _ _ _
   | exact ih1 _ _ _ _ _ _
   | exact zelligeref03_Trim.mono _ _
   | exact LeO.none _
   | refine LeO.ite ?_ ?_
   | refine LeO.bind ?_ (fun _ => ?_)
theorem zelligeref03_Add.mono : ∀ a0 a1 k, LeO (zelligeref03_Add.f k a0 a1) (zelligeref03_Add.f (k + 1) a0 a1) := by
 intro a0 a1 k
 obtain ⟨ih0, ih1⟩ := zelligeref03_Add.mono_l k
 unfold zelligeref03_Add.f
 repeat' first
   | (with_reducible exact ih0 _ _ _ _ _)
   | (with_reducible exact ih1 _ _ _ _ _ _)
   | (with_reducible exact zelligeref03_Trim.mono _ _)
   | (with_reducible exact LeO.refl _)
   | (with_reducible exact LeO.none _)
   | (with_reducible refine LeO.ite ?_ ?_)
   | (with_reducible refine LeO.bind ?_ (fun _ => ?_))
   | exact ih0 _ _ _ _ _
   | exact ih1 _ _ _ _ _ _
   | exact zelligeref03_Trim.mono _ _
   | exact LeO.none _
   | refine LeO.ite ?_ ?_
   | refine LeO.bind ?_ (fun _ => ?_)
set_option maxHeartbeats 8000000 in
set_option maxRecDepth 100000 in
theorem zelligeref03_Add.calls (k : Nat) (A0 : Option Addr) (c0 : Nat) (l0 : List Int) (A1 : Option Addr) (c1 : Nat) (l1 : List Int) (r : List Int) (w : World) (hr0 : Kd.C (Kd.int .i64) w A0 l0.length l0) (hc0 : l0.length ≤ c0) (hr1 : Kd.C (Kd.int .i64) w A1 l1.length l1) (hc1 : l1.length ≤ c1) (h : zelligeref03_Add.f k l0 l1 = some r) :
  Calls Try.prog 52 #[.slice A0 l0.length c0, .slice A1 l1.length c1] w fun e w' => ∃ v0_ : Value, e = .returned (v0_) ∧ Kd.R (Kd.int .i64) 3 w' w.heap.size (fun _ => True) v0_ r ∧ Below w.heap.size w w' := by
 have HR0 := Aside0.mk hr0
 have HC0 := Aside0.mk hc0
 clear hr0 hc0
 have HR1 := Aside0.mk hr1
 have HC1 := Aside0.mk hc1
 clear hr1 hc1
 have HB := Aside0.mk (Below.refl w.heap.size w)
 have H : (zelligeref03_Add.l0 k l0 l1 (([] : List Int)) 0 0) = some r := h
 clear h
 obtain ⟨y297, hy297⟩ : ∃ y_ : List Int, y_ = (([] : List Int)) := ⟨_, rfl⟩
 replace H : (zelligeref03_Add.l0 k l0 l1 y297 0 0) = some r := by first | (rw [hy297]; with_reducible exact H) | (have H2_ := (Option.bind_some _ _).symm.trans H; rw [hy297]; with_reducible exact H2_) | (have H2_ := (Option.bind_some _ _).symm.trans H; with_reducible exact H2_) | with_reducible exact H | (rw [hy297]; exact H) | exact H
 have Ny297 := Aside0.mk hy297
 clear hy297
 have H' := Aside0.mk H
 clear H
 go_enter Try.func52, Try.ntmps52
 go_wp2_with (first | ((with_reducible refine gate_dst (N := 8) rfl ?_); (try (refine gate_guard (by rfl) ?_; dsimp only)); refine Kd.R_lit (Kd.int .i64) _ 3 ?hg (N := 8) ?hd (xs := ([] : List Int)) (inner := []) (ok := fun _ => True) (okp := fun _ => True) ?hr ?hp (fun _ hk => hk) trivial (Below.refl _ _) (Nat.le_refl _) (by simp) ?_; (case hd => rfl); (case hg => rfl); (case hr => first | (go_simp; done) | (go_simp; rfl)); (case hp => exact (Reps.none _ _)); intro v298 w3 ho4 hb hg_ hnew_; clear hg_ hnew_; (first | rw [← Ny297.out] at ho4 | (simp only [Int.reduceToNat] at ho4; rw [← Ny297.out] at ho4)); have n0_ := Aside0.mk (Kd.R_lower ho4 (below_size (bw HB.out))); have n1_ := u2 HB hb; clear HB; have HO299 := n0_; have HB := n1_; clear n0_ n1_; clear hb ho4))
 go_loopg [5, 6, 7] k (fun kq v5 v6 v7 w' => ∃ (x5_1 : List Int) (x6_1 : Int) (x7_1 : Int), v6 = .int .i64 x6_1 ∧ v7 = .int .i64 x7_1 ∧ Aside0 (zelligeref03_Add.l0 kq l0 l1 x5_1 x6_1 x7_1 = some r) ∧ Aside0 (kq ≤ k) ∧ Aside0 (Kd.R (Kd.int .i64) 3 w' w.heap.size (fun _ => True) v5 x5_1) ∧ Aside0 (Below w.heap.size w w'))
 case atStart => exact ⟨(y297), (0), (0), (by first | rfl | (simp; done) | (simp [*]; done)), (by first | rfl | (simp; done) | (simp [*]; done)), H', ⟨Nat.le_refl _⟩, ⟨by (with_reducible repeat (first | apply Kd.R_alloc | apply Kd.R_drewN | apply Kd.R_drew)); exact HO299.out⟩, ⟨bw HB.out⟩⟩
 case round =>
  clear H'
  try clear c1
  try clear p2
  obtain ⟨x5_1, x6_1, x7_1, rfl, rfl, HA, HK1, HO_5, HB⟩ := hrel
  cases gk with
  | zero => exact absurd HA.out (by simp [zelligeref03_Add.l0])
  | succ k1 =>
   have H := HA.out
   clear HA
   simp only [zelligeref03_Add.l0] at H
   have HC5 := Aside0.mk H
   clear H
   go_upto_region 3 with (fail)
   go_cut [18] (fun v18 wc => ∃ (kq : Nat) (x18_4 : Bool), v18 = .bool x18_4 ∧ Aside0 (zelligeref03_Add.j1 kq l0 l1 x5_1 x6_1 x7_1 x18_4 = some r) ∧ Aside0 (kq ≤ k1) ∧ Aside0 (Kd.R (Kd.int .i64) 3 wc w.heap.size (fun _ => True) u5 x5_1) ∧ Aside0 (Below w.heap.size w wc))
   case first =>
    have H := HC5.out
    clear HC5
    by_cases c6 : x7_1 < (l0.length : Int)
    ·rw [if_pos c6] at H
     have c6b0 : decide (x7_1 < (l0.length : Int)) = true := decide_eq_true c6
     clear c6
     (first | rw [c6b0] | (simp only [i64_w, i32_w]; rw [c6b0]) | skip)
     have H' := Aside0.mk H
     clear H
     go_wp2
     go_meet
     case rel => exact ⟨_, (true), (by first | rfl | (simp; done) | (simp [*]; done)), H', ⟨by have := HK1.out; first | omega | exact Nat.le_refl _⟩, ⟨by (with_reducible repeat (first | apply Kd.R_alloc | apply Kd.R_drewN | apply Kd.R_drew)); exact HO_5.out⟩, ⟨bw HB.out⟩⟩
    ·rw [if_neg c6] at H
     have c6b0 : decide (x7_1 < (l0.length : Int)) = false := decide_eq_false c6
     clear c6
     (first | rw [c6b0] | (simp only [i64_w, i32_w]; rw [c6b0]) | skip)
     have H' := Aside0.mk H
     clear H
     go_wp2
     go_meet
     case rel => exact ⟨_, (decide (x7_1 < (l1.length : Int))), (by first | rfl | (simp; done) | (simp [*]; done)), H', ⟨by have := HK1.out; first | omega | exact Nat.le_refl _⟩, ⟨by (with_reducible repeat (first | apply Kd.R_alloc | apply Kd.R_drewN | apply Kd.R_drew)); exact HO_5.out⟩, ⟨bw HB.out⟩⟩
   case rest =>
    clear HC5
    try clear c1
    try clear p2
    try clear c5
    try clear c6
    try clear c6b0
    try clear p2
    obtain ⟨kq, x18_4, rfl, HA, HJ4, HO_5, HB⟩ := hcut
    cases kq with
    | zero => exact absurd HA.out (by simp [zelligeref03_Add.j1])
    | succ kj4 =>
     have H := HA.out
     clear HA
     simp only [zelligeref03_Add.j1] at H
     by_cases c7 : x18_4 = true
     ·subst c7
      rw [if_pos rfl] at H
      by_cases c8 : x7_1 < (l0.length : Int)
      ·rw [if_pos c8] at H
       have c8b0 : decide (x7_1 < (l0.length : Int)) = true := decide_eq_true c8
       clear c8
       by_cases c9 : 0 ≤ x7_1
       ·rw [if_pos c9] at H
        have c9b0 : decide (0 ≤ x7_1) = true := decide_eq_true c9
        clear c9
        by_cases c10 : x7_1 < (l1.length : Int)
        ·rw [if_pos c10] at H
         have c10b0 : decide (x7_1 < (l1.length : Int)) = true := decide_eq_true c10
         clear c10
         by_cases c11 : x5_1.length < 17592186044416
         ·rw [if_pos c11] at H
          have LMc11 := Aside0.mk c11
          clear c11
          obtain ⟨y308, hy308⟩ : ∃ y_ : List Int, y_ = (x5_1 ++ [Int.tmod (wrap64 ((wrap64 (x6_1 + (rd l0 x7_1))) + (rd l1 x7_1))) 65536]) := ⟨_, rfl⟩
          replace H : (zelligeref03_Add.l0 kj4 l0 l1 y308 (wrap64 (Int.tdiv (wrap64 ((wrap64 (x6_1 + (rd l0 x7_1))) + (rd l1 x7_1))) 65536)) (wrap64 (x7_1 + 1))) = some r := by first | (rw [hy308]; with_reducible exact H) | (have H2_ := (Option.bind_some _ _).symm.trans H; rw [hy308]; with_reducible exact H2_) | (have H2_ := (Option.bind_some _ _).symm.trans H; with_reducible exact H2_) | with_reducible exact H | (rw [hy308]; exact H) | exact H
          have Ny308 := Aside0.mk hy308
          clear hy308
          have H' := Aside0.mk H
          clear H
          have p306 : 0 ≤ (x7_1 : Int) := dt_
          have q306 : x7_1 < (l0.length : Int) := dt_
          obtain ⟨ad306, e306, hx306_0⟩ := Kd.at_int HR0.out x7_1 p306 q306
          cases e306
          replace hx306_0 := (HB.out.cell (World.block_lt_of_cell? w _ hx306_0)).trans hx306_0
          replace p306 := eq_true p306
          replace q306 := eq_true q306
          have p307 : 0 ≤ (x7_1 : Int) := dt_
          have q307 : x7_1 < (l1.length : Int) := dt_
          obtain ⟨ad307, e307, hx307_0⟩ := Kd.at_int HR1.out x7_1 p307 q307
          cases e307
          replace hx307_0 := (HB.out.cell (World.block_lt_of_cell? w _ hx307_0)).trans hx307_0
          replace p307 := eq_true p307
          replace q307 := eq_true q307
          go_wp2_with (first | ((with_reducible refine gate_builtin (b := .append) (xs := #[.tmp 41, .tmp 44]) rfl ?_); (try (refine gate_guard (by rfl) ?_; dsimp only)); at_builtin; refine Kd.R_append (Kd.int .i64) (w0 := w) w.heap.size rfl (.tmp 41) (.tmp 44) 39 3 (.int .i64 0) 8 rfl Try.underlying39 info3 rfl (by decide) (by omega) u5 x5_1 (Int.tmod (wrap64 ((wrap64 (x6_1 + (rd l0 x7_1))) + (rd l1 x7_1))) 65536) [.int .i64 (Int.tmod (wrap64 ((wrap64 (x6_1 + (rd l0 x7_1))) + (rd l1 x7_1))) 65536)] (fun _ => True) (fun _ => False) rfl rfl ?aP (fun _ hk => hk.elim) ?aF ?aO ?aB ?aS ?aL ?_; (case aP => exact rfl); (case aB => exact (bw HB.out)); (case aF => exact (fun _ _ => trivial)); (case aO => exact (by (with_reducible repeat (first | apply Kd.R_alloc | apply Kd.R_drewN | apply Kd.R_drew)); exact HO_5.out)); (case aS => exact (below_size (bw HB.out))); (case aL => have := LMc11.out; omega); intro v309 w12 ho hb hg hat; rw [← Ny308.out] at ho; have n0_ := Aside0.mk (hb); have n1_ := Aside0.mk (ho); clear HB; clear HO_5; have HB := n0_; have HO310 := n1_; clear n0_ n1_; clear ho hb hg hat))
          go_roundg kj4
          case measure => have := HK1.out; have := HJ4.out; omega
          case rel => exact ⟨(y308), (wrap64 (Int.tdiv (wrap64 ((wrap64 (x6_1 + (rd l0 x7_1))) + (rd l1 x7_1))) 65536)), (wrap64 (x7_1 + 1)), (by first | rfl | (simp; done) | (simp [*]; done)), (by first | rfl | (simp; done) | (simp [*]; done)), H', ⟨by have := HK1.out; have := HJ4.out; omega⟩, ⟨by (with_reducible repeat (first | apply Kd.R_alloc | apply Kd.R_drewN | apply Kd.R_drew)); exact HO310.out⟩, ⟨bw HB.out⟩⟩
         ·rw [if_neg c11] at H
          exact absurd H (by simp)
        ·rw [if_neg c10] at H
         have c10b0 : decide (x7_1 < (l1.length : Int)) = false := decide_eq_false c10
         clear c10
         by_cases c13 : x5_1.length < 17592186044416
         ·rw [if_pos c13] at H
          have LMc13 := Aside0.mk c13
          clear c13
          obtain ⟨y311, hy311⟩ : ∃ y_ : List Int, y_ = (x5_1 ++ [Int.tmod (wrap64 (x6_1 + (rd l0 x7_1))) 65536]) := ⟨_, rfl⟩
          replace H : (zelligeref03_Add.l0 kj4 l0 l1 y311 (wrap64 (Int.tdiv (wrap64 (x6_1 + (rd l0 x7_1))) 65536)) (wrap64 (x7_1 + 1))) = some r := by first | (rw [hy311]; with_reducible exact H) | (have H2_ := (Option.bind_some _ _).symm.trans H; rw [hy311]; with_reducible exact H2_) | (have H2_ := (Option.bind_some _ _).symm.trans H; with_reducible exact H2_) | with_reducible exact H | (rw [hy311]; exact H) | exact H
          have Ny311 := Aside0.mk hy311
          clear hy311
          have H' := Aside0.mk H
          clear H
          have p306 : 0 ≤ (x7_1 : Int) := dt_
          have q306 : x7_1 < (l0.length : Int) := dt_
          obtain ⟨ad306, e306, hx306_0⟩ := Kd.at_int HR0.out x7_1 p306 q306
          cases e306
          replace hx306_0 := (HB.out.cell (World.block_lt_of_cell? w _ hx306_0)).trans hx306_0
          replace p306 := eq_true p306
          replace q306 := eq_true q306
          go_wp2_with (first | ((with_reducible refine gate_builtin (b := .append) (xs := #[.tmp 41, .tmp 44]) rfl ?_); (try (refine gate_guard (by rfl) ?_; dsimp only)); at_builtin; refine Kd.R_append (Kd.int .i64) (w0 := w) w.heap.size rfl (.tmp 41) (.tmp 44) 39 3 (.int .i64 0) 8 rfl Try.underlying39 info3 rfl (by decide) (by omega) u5 x5_1 (Int.tmod (wrap64 (x6_1 + (rd l0 x7_1))) 65536) [.int .i64 (Int.tmod (wrap64 (x6_1 + (rd l0 x7_1))) 65536)] (fun _ => True) (fun _ => False) rfl rfl ?aP (fun _ hk => hk.elim) ?aF ?aO ?aB ?aS ?aL ?_; (case aP => exact rfl); (case aB => exact (bw HB.out)); (case aF => exact (fun _ _ => trivial)); (case aO => exact (by (with_reducible repeat (first | apply Kd.R_alloc | apply Kd.R_drewN | apply Kd.R_drew)); exact HO_5.out)); (case aS => exact (below_size (bw HB.out))); (case aL => have := LMc13.out; omega); intro v312 w14 ho hb hg hat; rw [← Ny311.out] at ho; have n0_ := Aside0.mk (hb); have n1_ := Aside0.mk (ho); clear HB; clear HO_5; have HB := n0_; have HO313 := n1_; clear n0_ n1_; clear ho hb hg hat))
          go_roundg kj4
          case measure => have := HK1.out; have := HJ4.out; omega
          case rel => exact ⟨(y311), (wrap64 (Int.tdiv (wrap64 (x6_1 + (rd l0 x7_1))) 65536)), (wrap64 (x7_1 + 1)), (by first | rfl | (simp; done) | (simp [*]; done)), (by first | rfl | (simp; done) | (simp [*]; done)), H', ⟨by have := HK1.out; have := HJ4.out; omega⟩, ⟨by (with_reducible repeat (first | apply Kd.R_alloc | apply Kd.R_drewN | apply Kd.R_drew)); exact HO313.out⟩, ⟨bw HB.out⟩⟩
         ·rw [if_neg c13] at H
          exact absurd H (by simp)
       ·rw [if_neg c9] at H
        exact absurd H (by simp)
      ·rw [if_neg c8] at H
       have c8b0 : decide (x7_1 < (l0.length : Int)) = false := decide_eq_false c8
       clear c8
       by_cases c15 : x7_1 < (l1.length : Int)
       ·rw [if_pos c15] at H
        have c15b0 : decide (x7_1 < (l1.length : Int)) = true := decide_eq_true c15
        clear c15
        by_cases c16 : 0 ≤ x7_1
        ·rw [if_pos c16] at H
         have c16b0 : decide (0 ≤ x7_1) = true := decide_eq_true c16
         clear c16
         by_cases c17 : x5_1.length < 17592186044416
         ·rw [if_pos c17] at H
          have LMc17 := Aside0.mk c17
          clear c17
          obtain ⟨y315, hy315⟩ : ∃ y_ : List Int, y_ = (x5_1 ++ [Int.tmod (wrap64 (x6_1 + (rd l1 x7_1))) 65536]) := ⟨_, rfl⟩
          replace H : (zelligeref03_Add.l0 kj4 l0 l1 y315 (wrap64 (Int.tdiv (wrap64 (x6_1 + (rd l1 x7_1))) 65536)) (wrap64 (x7_1 + 1))) = some r := by first | (rw [hy315]; with_reducible exact H) | (have H2_ := (Option.bind_some _ _).symm.trans H; rw [hy315]; with_reducible exact H2_) | (have H2_ := (Option.bind_some _ _).symm.trans H; with_reducible exact H2_) | with_reducible exact H | (rw [hy315]; exact H) | exact H
          have Ny315 := Aside0.mk hy315
          clear hy315
          have H' := Aside0.mk H
          clear H
          have p314 : 0 ≤ (x7_1 : Int) := dt_
          have q314 : x7_1 < (l1.length : Int) := dt_
          obtain ⟨ad314, e314, hx314_0⟩ := Kd.at_int HR1.out x7_1 p314 q314
          cases e314
          replace hx314_0 := (HB.out.cell (World.block_lt_of_cell? w _ hx314_0)).trans hx314_0
          replace p314 := eq_true p314
          replace q314 := eq_true q314
          go_wp2_with (first | ((with_reducible refine gate_builtin (b := .append) (xs := #[.tmp 41, .tmp 44]) rfl ?_); (try (refine gate_guard (by rfl) ?_; dsimp only)); at_builtin; refine Kd.R_append (Kd.int .i64) (w0 := w) w.heap.size rfl (.tmp 41) (.tmp 44) 39 3 (.int .i64 0) 8 rfl Try.underlying39 info3 rfl (by decide) (by omega) u5 x5_1 (Int.tmod (wrap64 (x6_1 + (rd l1 x7_1))) 65536) [.int .i64 (Int.tmod (wrap64 (x6_1 + (rd l1 x7_1))) 65536)] (fun _ => True) (fun _ => False) rfl rfl ?aP (fun _ hk => hk.elim) ?aF ?aO ?aB ?aS ?aL ?_; (case aP => exact rfl); (case aB => exact (bw HB.out)); (case aF => exact (fun _ _ => trivial)); (case aO => exact (by (with_reducible repeat (first | apply Kd.R_alloc | apply Kd.R_drewN | apply Kd.R_drew)); exact HO_5.out)); (case aS => exact (below_size (bw HB.out))); (case aL => have := LMc17.out; omega); intro v316 w18 ho hb hg hat; rw [← Ny315.out] at ho; have n0_ := Aside0.mk (hb); have n1_ := Aside0.mk (ho); clear HB; clear HO_5; have HB := n0_; have HO317 := n1_; clear n0_ n1_; clear ho hb hg hat))
          go_roundg kj4
          case measure => have := HK1.out; have := HJ4.out; omega
          case rel => exact ⟨(y315), (wrap64 (Int.tdiv (wrap64 (x6_1 + (rd l1 x7_1))) 65536)), (wrap64 (x7_1 + 1)), (by first | rfl | (simp; done) | (simp [*]; done)), (by first | rfl | (simp; done) | (simp [*]; done)), H', ⟨by have := HK1.out; have := HJ4.out; omega⟩, ⟨by (with_reducible repeat (first | apply Kd.R_alloc | apply Kd.R_drewN | apply Kd.R_drew)); exact HO317.out⟩, ⟨bw HB.out⟩⟩
         ·rw [if_neg c17] at H
          exact absurd H (by simp)
        ·rw [if_neg c16] at H
         exact absurd H (by simp)
       ·rw [if_neg c15] at H
        have c15b0 : decide (x7_1 < (l1.length : Int)) = false := decide_eq_false c15
        clear c15
        by_cases c19 : x5_1.length < 17592186044416
        ·rw [if_pos c19] at H
         have LMc19 := Aside0.mk c19
         clear c19
         obtain ⟨y318, hy318⟩ : ∃ y_ : List Int, y_ = (x5_1 ++ [Int.tmod x6_1 65536]) := ⟨_, rfl⟩
         replace H : (zelligeref03_Add.l0 kj4 l0 l1 y318 (wrap64 (Int.tdiv x6_1 65536)) (wrap64 (x7_1 + 1))) = some r := by first | (rw [hy318]; with_reducible exact H) | (have H2_ := (Option.bind_some _ _).symm.trans H; rw [hy318]; with_reducible exact H2_) | (have H2_ := (Option.bind_some _ _).symm.trans H; with_reducible exact H2_) | with_reducible exact H | (rw [hy318]; exact H) | exact H
         have Ny318 := Aside0.mk hy318
         clear hy318
         have H' := Aside0.mk H
         clear H
         go_wp2_with (first | ((with_reducible refine gate_builtin (b := .append) (xs := #[.tmp 41, .tmp 44]) rfl ?_); (try (refine gate_guard (by rfl) ?_; dsimp only)); at_builtin; refine Kd.R_append (Kd.int .i64) (w0 := w) w.heap.size rfl (.tmp 41) (.tmp 44) 39 3 (.int .i64 0) 8 rfl Try.underlying39 info3 rfl (by decide) (by omega) u5 x5_1 (Int.tmod x6_1 65536) [.int .i64 (Int.tmod x6_1 65536)] (fun _ => True) (fun _ => False) rfl rfl ?aP (fun _ hk => hk.elim) ?aF ?aO ?aB ?aS ?aL ?_; (case aP => exact rfl); (case aB => exact (bw HB.out)); (case aF => exact (fun _ _ => trivial)); (case aO => exact (by (with_reducible repeat (first | apply Kd.R_alloc | apply Kd.R_drewN | apply Kd.R_drew)); exact HO_5.out)); (case aS => exact (below_size (bw HB.out))); (case aL => have := LMc19.out; omega); intro v319 w20 ho hb hg hat; rw [← Ny318.out] at ho; have n0_ := Aside0.mk (hb); have n1_ := Aside0.mk (ho); clear HB; clear HO_5; have HB := n0_; have HO320 := n1_; clear n0_ n1_; clear ho hb hg hat))
         go_roundg kj4
         case measure => have := HK1.out; have := HJ4.out; omega
         case rel => exact ⟨(y318), (wrap64 (Int.tdiv x6_1 65536)), (wrap64 (x7_1 + 1)), (by first | rfl | (simp; done) | (simp [*]; done)), (by first | rfl | (simp; done) | (simp [*]; done)), H', ⟨by have := HK1.out; have := HJ4.out; omega⟩, ⟨by (with_reducible repeat (first | apply Kd.R_alloc | apply Kd.R_drewN | apply Kd.R_drew)); exact HO320.out⟩, ⟨bw HB.out⟩⟩
        ·rw [if_neg c19] at H
         exact absurd H (by simp)
     ·replace c7 := Bool.eq_false_iff.mpr c7
      subst c7
      rw [if_neg (show ¬ (false = true) by decide)] at H
      by_cases c21 : x5_1.length < 17592186044416
      ·rw [if_pos c21] at H
       have LMc21 := Aside0.mk c21
       clear c21
       obtain ⟨y300, hy300⟩ : ∃ y_ : List Int, y_ = (x5_1 ++ [x6_1]) := ⟨_, rfl⟩
       replace H : ((zelligeref03_Trim.f kj4 y300).bind fun t303 => (some t303)) = some r := by first | (rw [hy300]; with_reducible exact H) | (have H2_ := (Option.bind_some _ _).symm.trans H; rw [hy300]; with_reducible exact H2_) | (have H2_ := (Option.bind_some _ _).symm.trans H; with_reducible exact H2_) | with_reducible exact H | (rw [hy300]; exact H) | exact H
       have Ny300 := Aside0.mk hy300
       clear hy300
       replace H := Option.bind_eq_some_iff.mp H
       obtain ⟨t303, A220, H⟩ := H
       try dsimp only at H
       have A22 := Aside0.mk A220
       clear A220
       obtain rfl := Option.some.inj H
       go_wp2_with (first | ((with_reducible refine gate_builtin (b := .append) (xs := #[.tmp 48, .tmp 50]) rfl ?_); (try (refine gate_guard (by rfl) ?_; dsimp only)); at_builtin; refine Kd.R_append (Kd.int .i64) (w0 := w) w.heap.size rfl (.tmp 48) (.tmp 50) 39 3 (.int .i64 0) 8 rfl Try.underlying39 info3 rfl (by decide) (by omega) u5 x5_1 x6_1 [.int .i64 x6_1] (fun _ => True) (fun _ => False) rfl rfl ?aP (fun _ hk => hk.elim) ?aF ?aO ?aB ?aS ?aL ?_; (case aP => exact rfl); (case aB => exact (bw HB.out)); (case aF => exact (fun _ _ => trivial)); (case aO => exact (by (with_reducible repeat (first | apply Kd.R_alloc | apply Kd.R_drewN | apply Kd.R_drew)); exact HO_5.out)); (case aS => exact (below_size (bw HB.out))); (case aL => have := LMc21.out; omega); intro v301 w23 ho hb hg hat; rw [← Ny300.out] at ho; have n0_ := Aside0.mk (hb); have n1_ := Aside0.mk (ho); clear HB; clear HO_5; have HB := n0_; have HO302 := n1_; clear n0_ n1_; clear ho hb hg hat; obtain ⟨Ao24, co24, eo24⟩ := Kd.R_slice HO302.out; subst eo24) | ((with_reducible refine gate_callee (f := 55) rfl ?_); refine gL (some 52) Try.func55 #[.slice Ao24 y300.length co24] rfl ?_; (with_reducible refine (zelligeref03_Trim.calls kj4 (fun k_ => some k_ = (.slice Ao24 y300.length co24 : Value).ownBlock) (.slice Ao24 y300.length co24) y300 t303 w _ ?side1 ?side2 A22.out).mono ?_); (case side1 => repeat (first | (with_reducible first | exact HB.out | apply below_alloc | apply pw_below_drewN | apply below_drew1) | exact HB.out)); (case side2 => exact Kd.R_tight rfl HO302.out); rintro e w25 ⟨v304, rfl, ho0, hb, hkp⟩; refine ⟨_, rfl, ?_⟩; have n0_ := Aside0.mk (Kd.R_mono (ok' := fun k_ => True) ho0 (fun k_ hk_ => trivial)); have n1_ := Aside0.mk (hb); clear HB; clear HO302; have HO305 := n0_; have HB := n1_; clear n0_ n1_; (try clear hb); (try clear hkp); (try clear ho0)))
       go_ret
       exact ⟨_, by first | rfl | (simp [*, errW_none, errW_some] <;> rfl), by (with_reducible repeat (first | apply Kd.R_alloc | apply Kd.R_drewN | apply Kd.R_drew)); exact HO305.out, bw HB.out⟩
      ·rw [if_neg c21] at H
       exact absurd H (by simp)
end Go.Proofs.Ytlkngfidohiepaa.F
end
section
namespace Go.Proofs.Ytlkngfidohiepaa.F
open RowKit YtlkngfidohiepaaW.PrintWords YtlkngfidohiepaaW.PrintLast YtlkngfidohiepaaW.PrintMore
set_option linter.unusedVariables false
set_option linter.unusedSimpArgs false
def zelligeref03_Cmp.l0 : Nat → List Int → List Int → Int → Option (Int)
 | 0, _, _, _ => none
 | k + 1, x0, x1, x5 => if x5 ≥ 0 then (if 0 ≤ x5 then (if x5 < (x0.length : Int) then (if x5 < (x1.length : Int) then (if (rd x0 x5) < (rd x1 x5) then (some (-1)) else (if (rd x0 x5) > (rd x1 x5) then (some 1) else (zelligeref03_Cmp.l0 k x0 x1 (wrap64 (x5 - 1))))) else (none)) else (none)) else (none)) else (some 0)
def zelligeref03_Cmp.f (k : Nat) (l0 : List Int) (l1 : List Int) : Option (Int) := if (l0.length : Int) < (l1.length : Int) then (some (-1)) else (if (l0.length : Int) > (l1.length : Int) then (some 1) else (zelligeref03_Cmp.l0 k l0 l1 (wrap64 ((l0.length : Int) - 1))))
theorem zelligeref03_Cmp.mono_l : ∀ k, (∀ y0 y1 y2, LeO (zelligeref03_Cmp.l0 k y0 y1 y2) (zelligeref03_Cmp.l0 (k + 1) y0 y1 y2))
 | 0 => fun _ _ _ r h => by simp [zelligeref03_Cmp.l0] at h
 | k + 1 => by
  have ih0 := zelligeref03_Cmp.mono_l k
  ·intro y0 y1 y2
   unfold zelligeref03_Cmp.l0
   repeat' first
   | (with_reducible exact ih0 _ _ _)
   | (with_reducible exact LeO.refl _)
   | (with_reducible exact LeO.none _)
   | (with_reducible refine LeO.ite ?_ ?_)
   | (with_reducible refine LeO.bind ?_ (fun _ => ?_))
   | exact ih0 _ _ _
   | exact LeO.none _
   | refine LeO.ite ?_ ?_
   | refine LeO.bind ?_ (fun _ => ?_)
theorem zelligeref03_Cmp.mono : ∀ a0 a1 k, LeO (zelligeref03_Cmp.f k a0 a1) (zelligeref03_Cmp.f (k + 1) a0 a1) := by
 intro a0 a1 k
 have ih0 := zelligeref03_Cmp.mono_l k
 unfold zelligeref03_Cmp.f
 repeat' first
   | (with_reducible exact ih0 _ _ _)
   | (with_reducible exact LeO.refl _)
   | (with_reducible exact LeO.none _)
   | (with_reducible refine LeO.ite ?_ ?_)
   | (with_reducible refine LeO.bind ?_ (fun _ => ?_))
   | exact ih0 _ _ _
   | exact LeO.none _
   | refine LeO.ite ?_ ?_
   | refine LeO.bind ?_ (fun _ => ?_)
set_option maxHeartbeats 8000000 in
set_option maxRecDepth 100000 in
theorem zelligeref03_Cmp.calls (k : Nat) (A0 : Option Addr) (c0 : Nat) (l0 : List Int) (A1 : Option Addr) (c1 : Nat) (l1 : List Int) (r : Int) (w : World) (hr0 : Kd.C (Kd.int .i64) w A0 l0.length l0) (hc0 : l0.length ≤ c0) (hr1 : Kd.C (Kd.int .i64) w A1 l1.length l1) (hc1 : l1.length ≤ c1) (h : zelligeref03_Cmp.f k l0 l1 = some r) :
  Calls Try.prog 53 #[.slice A0 l0.length c0, .slice A1 l1.length c1] w fun e w' => e = .returned (.int .i64 r) ∧ Drawn0 w w' := by
 have HR0 := Aside0.mk hr0
 have HC0 := Aside0.mk hc0
 clear hr0 hc0
 have HR1 := Aside0.mk hr1
 have HC1 := Aside0.mk hc1
 clear hr1 hc1
 have H : (if (l0.length : Int) < (l1.length : Int) then (some (-1)) else (if (l0.length : Int) > (l1.length : Int) then (some 1) else (zelligeref03_Cmp.l0 k l0 l1 (wrap64 ((l0.length : Int) - 1))))) = some r := h
 clear h
 by_cases c3 : (l0.length : Int) < (l1.length : Int)
 ·rw [if_pos c3] at H
  have c3b0 : decide ((l0.length : Int) < (l1.length : Int)) = true := decide_eq_true c3
  have c3b1 : decide (l0.length < l1.length) = true := decide_eq_true (Int.ofNat_lt.mp c3)
  clear c3
  obtain rfl := Option.some.inj H
  go_enter Try.func53, Try.ntmps53
  go_wp2
  repeat (go_quiet (fail); try go_wp2)
  go_ret
  exact ⟨by first | rfl | (simp; done) | (simp [*]; done), by repeat (first | exact Drawn0.refl _ | apply Drawn0.step)⟩
 ·rw [if_neg c3] at H
  have c3b0 : decide ((l0.length : Int) < (l1.length : Int)) = false := decide_eq_false c3
  have c3b1 : decide (l0.length < l1.length) = false := decide_eq_false (fun h => c3 (Int.ofNat_lt.mpr h))
  clear c3
  by_cases c4 : (l0.length : Int) > (l1.length : Int)
  ·rw [if_pos c4] at H
   have c4b0 : decide ((l1.length : Int) < (l0.length : Int)) = true := decide_eq_true c4
   have c4b1 : decide (l1.length < l0.length) = true := decide_eq_true (Int.ofNat_lt.mp c4)
   clear c4
   obtain rfl := Option.some.inj H
   go_enter Try.func53, Try.ntmps53
   go_wp2
   repeat (go_quiet (fail); try go_wp2)
   go_ret
   exact ⟨by first | rfl | (simp; done) | (simp [*]; done), by repeat (first | exact Drawn0.refl _ | apply Drawn0.step)⟩
  ·rw [if_neg c4] at H
   have c4b0 : decide ((l1.length : Int) < (l0.length : Int)) = false := decide_eq_false c4
   have c4b1 : decide (l1.length < l0.length) = false := decide_eq_false (fun h => c4 (Int.ofNat_lt.mpr h))
   clear c4
   have H' := Aside0.mk H
   clear H
   go_enter Try.func53, Try.ntmps53
   go_wp2
   repeat (go_quiet (fail); try go_wp2)
   go_loopg [5] k (fun kq v5 w' => ∃ (x5_1 : Int), v5 = .int .i64 x5_1 ∧ Aside0 (zelligeref03_Cmp.l0 kq l0 l1 x5_1 = some r) ∧ Aside0 (kq ≤ k) ∧ Drawn0 w w')
   case atStart => exact ⟨(wrap64 ((l0.length : Int) - 1)), (by first | rfl | (simp; done) | (simp [*]; done)), H', ⟨Nat.le_refl _⟩, by repeat (first | exact Drawn0.refl _ | apply Drawn0.step)⟩
   case round =>
    clear H'
    try clear c1
    try clear p2
    try clear c3
    try clear c3b0
    try clear c3b1
    try clear c4
    try clear c4b0
    try clear c4b1
    obtain ⟨x5_1, rfl, HA, HK1, ⟨m1, rfl⟩⟩ := hrel
    cases gk with
    | zero => exact absurd HA.out (by simp [zelligeref03_Cmp.l0])
    | succ k1 =>
     have H := HA.out
     clear HA
     simp only [zelligeref03_Cmp.l0] at H
     by_cases c5 : x5_1 ≥ 0
     ·rw [if_pos c5] at H
      have c5b0 : decide (0 ≤ x5_1) = true := decide_eq_true c5
      clear c5
      by_cases c6 : 0 ≤ x5_1
      ·rw [if_pos c6] at H
       have c6b0 : decide (0 ≤ x5_1) = true := decide_eq_true c6
       clear c6
       by_cases c7 : x5_1 < (l0.length : Int)
       ·rw [if_pos c7] at H
        have c7b0 : decide (x5_1 < (l0.length : Int)) = true := decide_eq_true c7
        clear c7
        by_cases c8 : x5_1 < (l1.length : Int)
        ·rw [if_pos c8] at H
         have c8b0 : decide (x5_1 < (l1.length : Int)) = true := decide_eq_true c8
         clear c8
         by_cases c9 : (rd l0 x5_1) < (rd l1 x5_1)
         ·rw [if_pos c9] at H
          have c9b0 : decide ((rd l0 x5_1) < (rd l1 x5_1)) = true := decide_eq_true c9
          clear c9
          obtain rfl := Option.some.inj H
          have p321 : 0 ≤ (x5_1 : Int) := dt_
          have q321 : x5_1 < (l0.length : Int) := dt_
          obtain ⟨ad321, e321, hx321_0⟩ := Kd.at_int HR0.out x5_1 p321 q321
          cases e321
          replace p321 := eq_true p321
          replace q321 := eq_true q321
          have p322 : 0 ≤ (x5_1 : Int) := dt_
          have q322 : x5_1 < (l1.length : Int) := dt_
          obtain ⟨ad322, e322, hx322_0⟩ := Kd.at_int HR1.out x5_1 p322 q322
          cases e322
          replace p322 := eq_true p322
          replace q322 := eq_true q322
          go_wp2
          repeat (go_quiet (fail); try go_wp2)
          go_ret
          exact ⟨by first | rfl | (simp; done) | (simp [*]; done), by repeat (first | exact Drawn0.refl _ | apply Drawn0.step)⟩
         ·rw [if_neg c9] at H
          have c9b0 : decide ((rd l0 x5_1) < (rd l1 x5_1)) = false := decide_eq_false c9
          clear c9
          by_cases c10 : (rd l0 x5_1) > (rd l1 x5_1)
          ·rw [if_pos c10] at H
           have c10b0 : decide ((rd l1 x5_1) < (rd l0 x5_1)) = true := decide_eq_true c10
           clear c10
           obtain rfl := Option.some.inj H
           have p321 : 0 ≤ (x5_1 : Int) := dt_
           have q321 : x5_1 < (l0.length : Int) := dt_
           obtain ⟨ad321, e321, hx321_0⟩ := Kd.at_int HR0.out x5_1 p321 q321
           cases e321
           replace p321 := eq_true p321
           replace q321 := eq_true q321
           have p322 : 0 ≤ (x5_1 : Int) := dt_
           have q322 : x5_1 < (l1.length : Int) := dt_
           obtain ⟨ad322, e322, hx322_0⟩ := Kd.at_int HR1.out x5_1 p322 q322
           cases e322
           replace p322 := eq_true p322
           replace q322 := eq_true q322
           have p323 : 0 ≤ (x5_1 : Int) := dt_
           have q323 : x5_1 < (l0.length : Int) := dt_
           obtain ⟨ad323, e323, hx323_0⟩ := Kd.at_int HR0.out x5_1 p323 q323
           obtain rfl : ad321 = ad323 := (by injection e323)
           replace p323 := eq_true p323
           replace q323 := eq_true q323
           have p324 : 0 ≤ (x5_1 : Int) := dt_
           have q324 : x5_1 < (l1.length : Int) := dt_
           obtain ⟨ad324, e324, hx324_0⟩ := Kd.at_int HR1.out x5_1 p324 q324
           obtain rfl : ad322 = ad324 := (by injection e324)
           replace p324 := eq_true p324
           replace q324 := eq_true q324
           go_wp2
           repeat (go_quiet (fail); try go_wp2)
           go_ret
           exact ⟨by first | rfl | (simp; done) | (simp [*]; done), by repeat (first | exact Drawn0.refl _ | apply Drawn0.step)⟩
          ·rw [if_neg c10] at H
           have c10b0 : decide ((rd l1 x5_1) < (rd l0 x5_1)) = false := decide_eq_false c10
           clear c10
           have H' := Aside0.mk H
           clear H
           have p321 : 0 ≤ (x5_1 : Int) := dt_
           have q321 : x5_1 < (l0.length : Int) := dt_
           obtain ⟨ad321, e321, hx321_0⟩ := Kd.at_int HR0.out x5_1 p321 q321
           cases e321
           replace p321 := eq_true p321
           replace q321 := eq_true q321
           have p322 : 0 ≤ (x5_1 : Int) := dt_
           have q322 : x5_1 < (l1.length : Int) := dt_
           obtain ⟨ad322, e322, hx322_0⟩ := Kd.at_int HR1.out x5_1 p322 q322
           cases e322
           replace p322 := eq_true p322
           replace q322 := eq_true q322
           have p323 : 0 ≤ (x5_1 : Int) := dt_
           have q323 : x5_1 < (l0.length : Int) := dt_
           obtain ⟨ad323, e323, hx323_0⟩ := Kd.at_int HR0.out x5_1 p323 q323
           obtain rfl : ad321 = ad323 := (by injection e323)
           replace p323 := eq_true p323
           replace q323 := eq_true q323
           have p324 : 0 ≤ (x5_1 : Int) := dt_
           have q324 : x5_1 < (l1.length : Int) := dt_
           obtain ⟨ad324, e324, hx324_0⟩ := Kd.at_int HR1.out x5_1 p324 q324
           obtain rfl : ad322 = ad324 := (by injection e324)
           replace p324 := eq_true p324
           replace q324 := eq_true q324
           go_wp2
           repeat (go_quiet (fail); try go_wp2)
           go_roundg k1
           case measure => have := HK1.out; omega
           case rel => exact ⟨(wrap64 (x5_1 - 1)), (by first | rfl | (simp; done) | (simp [*]; done)), H', ⟨by have := HK1.out; omega⟩, by repeat (first | exact Drawn0.refl _ | apply Drawn0.step)⟩
        ·rw [if_neg c8] at H
         exact absurd H (by simp)
       ·rw [if_neg c7] at H
        exact absurd H (by simp)
      ·rw [if_neg c6] at H
       exact absurd H (by simp)
     ·rw [if_neg c5] at H
      have c5b0 : decide (0 ≤ x5_1) = false := decide_eq_false c5
      clear c5
      obtain rfl := Option.some.inj H
      go_wp2
      repeat (go_quiet (fail); try go_wp2)
      go_ret
      exact ⟨by first | rfl | (simp; done) | (simp [*]; done), by repeat (first | exact Drawn0.refl _ | apply Drawn0.step)⟩
end Go.Proofs.Ytlkngfidohiepaa.F
end
section
namespace Go.Proofs.Ytlkngfidohiepaa.F
open RowKit YtlkngfidohiepaaW.PrintWords YtlkngfidohiepaaW.PrintLast YtlkngfidohiepaaW.PrintMore
set_option linter.unusedVariables false
set_option linter.unusedSimpArgs false
def zelligeref03_Sub.l0 : Nat → List Int → List Int → List Int → Int → Int → Option (List Int)
 | 0, _, _, _, _, _ => none
 | k + 1, x0, x1, x5, x6, x7 => if x7 < (x0.length : Int) then (if 0 ≤ x7 then (if x7 < (x1.length : Int) then (if (wrap64 ((wrap64 ((rd x0 x7) - x6)) - (rd x1 x7))) < 0 then (if x5.length < 17592186044416 then (zelligeref03_Sub.l0 k x0 x1 (x5 ++ [wrap64 ((wrap64 ((wrap64 ((rd x0 x7) - x6)) - (rd x1 x7))) + 65536)]) 1 (wrap64 (x7 + 1))) else (none)) else (if x5.length < 17592186044416 then (zelligeref03_Sub.l0 k x0 x1 (x5 ++ [wrap64 ((wrap64 ((rd x0 x7) - x6)) - (rd x1 x7))]) 0 (wrap64 (x7 + 1))) else (none))) else (if (wrap64 ((rd x0 x7) - x6)) < 0 then (if x5.length < 17592186044416 then (zelligeref03_Sub.l0 k x0 x1 (x5 ++ [wrap64 ((wrap64 ((rd x0 x7) - x6)) + 65536)]) 1 (wrap64 (x7 + 1))) else (none)) else (if x5.length < 17592186044416 then (zelligeref03_Sub.l0 k x0 x1 (x5 ++ [wrap64 ((rd x0 x7) - x6)]) 0 (wrap64 (x7 + 1))) else (none)))) else (none)) else ((zelligeref03_Trim.f k x5).bind fun t328 => (some t328))
def zelligeref03_Sub.f (k : Nat) (l0 : List Int) (l1 : List Int) : Option (List Int) := zelligeref03_Sub.l0 k l0 l1 (([] : List Int)) 0 0
theorem zelligeref03_Sub.mono_l : ∀ k, (∀ y0 y1 y2 y3 y4, LeO (zelligeref03_Sub.l0 k y0 y1 y2 y3 y4) (zelligeref03_Sub.l0 (k + 1) y0 y1 y2 y3 y4))
 | 0 => fun _ _ _ _ _ r h => by simp [zelligeref03_Sub.l0] at h
 | k + 1 => by
  have ih0 := zelligeref03_Sub.mono_l k
  ·intro y0 y1 y2 y3 y4
   unfold zelligeref03_Sub.l0
   repeat' first
   | (with_reducible exact ih0 _ _ _ _ _)
   | (with_reducible exact zelligeref03_Trim.mono _ _)
   | (with_reducible exact LeO.refl _)
   | (with_reducible exact LeO.none _)
   | (with_reducible refine LeO.ite ?_ ?_)
   | (with_reducible refine LeO.bind ?_ (fun _ => ?_))
   | exact ih0 _ _ _ _ _
   | exact zelligeref03_Trim.mono _ _
   | exact LeO.none _
   | refine LeO.ite ?_ ?_
   | refine LeO.bind ?_ (fun _ => ?_)
theorem zelligeref03_Sub.mono : ∀ a0 a1 k, LeO (zelligeref03_Sub.f k a0 a1) (zelligeref03_Sub.f (k + 1) a0 a1) := by
 intro a0 a1 k
 have ih0 := zelligeref03_Sub.mono_l k
 unfold zelligeref03_Sub.f
 repeat' first
   | (with_reducible exact ih0 _ _ _ _ _)
   | (with_reducible exact zelligeref03_Trim.mono _ _)
   | (with_reducible exact LeO.refl _)
   | (with_reducible exact LeO.none _)
   | (with_reducible refine LeO.ite ?_ ?_)
   | (with_reducible refine LeO.bind ?_ (fun _ => ?_))
   | exact ih0 _ _ _ _ _
   | exact zelligeref03_Trim.mono _ _
   | exact LeO.none _
   | refine LeO.ite ?_ ?_
   | refine LeO.bind ?_ (fun _ => ?_)
set_option maxHeartbeats 8000000 in
set_option maxRecDepth 100000 in
theorem zelligeref03_Sub.calls (k : Nat) (A0 : Option Addr) (c0 : Nat) (l0 : List Int) (A1 : Option Addr) (c1 : Nat) (l1 : List Int) (r : List Int) (w : World) (hr0 : Kd.C (Kd.int .i64) w A0 l0.length l0) (hc0 : l0.length ≤ c0) (hr1 : Kd.C (Kd.int .i64) w A1 l1.length l1) (hc1 : l1.length ≤ c1) (h : zelligeref03_Sub.f k l0 l1 = some r) :
  Calls Try.prog 54 #[.slice A0 l0.length c0, .slice A1 l1.length c1] w fun e w' => ∃ v0_ : Value, e = .returned (v0_) ∧ Kd.R (Kd.int .i64) 3 w' w.heap.size (fun _ => True) v0_ r ∧ Below w.heap.size w w' := by
 have HR0 := Aside0.mk hr0
 have HC0 := Aside0.mk hc0
 clear hr0 hc0
 have HR1 := Aside0.mk hr1
 have HC1 := Aside0.mk hc1
 clear hr1 hc1
 have HB := Aside0.mk (Below.refl w.heap.size w)
 have H : (zelligeref03_Sub.l0 k l0 l1 (([] : List Int)) 0 0) = some r := h
 clear h
 obtain ⟨y325, hy325⟩ : ∃ y_ : List Int, y_ = (([] : List Int)) := ⟨_, rfl⟩
 replace H : (zelligeref03_Sub.l0 k l0 l1 y325 0 0) = some r := by first | (rw [hy325]; with_reducible exact H) | (have H2_ := (Option.bind_some _ _).symm.trans H; rw [hy325]; with_reducible exact H2_) | (have H2_ := (Option.bind_some _ _).symm.trans H; with_reducible exact H2_) | with_reducible exact H | (rw [hy325]; exact H) | exact H
 have Ny325 := Aside0.mk hy325
 clear hy325
 have H' := Aside0.mk H
 clear H
 go_enter Try.func54, Try.ntmps54
 go_wp2_with (first | ((with_reducible refine gate_dst (N := 9) rfl ?_); refine Kd.R_lit (Kd.int .i64) _ 3 ?hg (N := 9) ?hd (xs := ([] : List Int)) (inner := []) (ok := fun _ => True) (okp := fun _ => True) ?hr ?hp (fun _ hk => hk) trivial (Below.refl _ _) (Nat.le_refl _) (by simp) ?_; (case hd => rfl); (case hg => rfl); (case hr => first | (go_simp; done) | (go_simp; rfl)); (case hp => exact (Reps.none _ _)); intro v326 w3 ho4 hb hg_ hnew_; clear hg_ hnew_; (first | rw [← Ny325.out] at ho4 | (simp only [Int.reduceToNat] at ho4; rw [← Ny325.out] at ho4)); have n0_ := Aside0.mk (Kd.R_lower ho4 (below_size (bw HB.out))); have n1_ := u2 HB hb; clear HB; have HO327 := n0_; have HB := n1_; clear n0_ n1_; clear hb ho4))
 go_loopg [5, 6, 7] k (fun kq v5 v6 v7 w' => ∃ (x5_1 : List Int) (x6_1 : Int) (x7_1 : Int), v6 = .int .i64 x6_1 ∧ v7 = .int .i64 x7_1 ∧ Aside0 (zelligeref03_Sub.l0 kq l0 l1 x5_1 x6_1 x7_1 = some r) ∧ Aside0 (kq ≤ k) ∧ Aside0 (Kd.R (Kd.int .i64) 3 w' w.heap.size (fun _ => True) v5 x5_1) ∧ Aside0 (Below w.heap.size w w'))
 case atStart => exact ⟨(y325), (0), (0), (by first | rfl | (simp; done) | (simp [*]; done)), (by first | rfl | (simp; done) | (simp [*]; done)), H', ⟨Nat.le_refl _⟩, ⟨by (with_reducible repeat (first | apply Kd.R_alloc | apply Kd.R_drewN | apply Kd.R_drew)); exact HO327.out⟩, ⟨bw HB.out⟩⟩
 case round =>
  clear H'
  try clear c1
  try clear p2
  obtain ⟨x5_1, x6_1, x7_1, rfl, rfl, HA, HK1, HO_5, HB⟩ := hrel
  cases gk with
  | zero => exact absurd HA.out (by simp [zelligeref03_Sub.l0])
  | succ k1 =>
   have H := HA.out
   clear HA
   simp only [zelligeref03_Sub.l0] at H
   by_cases c5 : x7_1 < (l0.length : Int)
   ·rw [if_pos c5] at H
    have c5b0 : decide (x7_1 < (l0.length : Int)) = true := decide_eq_true c5
    clear c5
    by_cases c6 : 0 ≤ x7_1
    ·rw [if_pos c6] at H
     have c6b0 : decide (0 ≤ x7_1) = true := decide_eq_true c6
     clear c6
     by_cases c7 : x7_1 < (l1.length : Int)
     ·rw [if_pos c7] at H
      have c7b0 : decide (x7_1 < (l1.length : Int)) = true := decide_eq_true c7
      clear c7
      by_cases c8 : (wrap64 ((wrap64 ((rd l0 x7_1) - x6_1)) - (rd l1 x7_1))) < 0
      ·rw [if_pos c8] at H
       have c8b0 : decide ((wrap64 ((wrap64 ((rd l0 x7_1) - x6_1)) - (rd l1 x7_1))) < 0) = true := decide_eq_true c8
       clear c8
       by_cases c9 : x5_1.length < 17592186044416
       ·rw [if_pos c9] at H
        have LMc9 := Aside0.mk c9
        clear c9
        obtain ⟨y333, hy333⟩ : ∃ y_ : List Int, y_ = (x5_1 ++ [wrap64 ((wrap64 ((wrap64 ((rd l0 x7_1) - x6_1)) - (rd l1 x7_1))) + 65536)]) := ⟨_, rfl⟩
        replace H : (zelligeref03_Sub.l0 k1 l0 l1 y333 1 (wrap64 (x7_1 + 1))) = some r := by first | (rw [hy333]; with_reducible exact H) | (have H2_ := (Option.bind_some _ _).symm.trans H; rw [hy333]; with_reducible exact H2_) | (have H2_ := (Option.bind_some _ _).symm.trans H; with_reducible exact H2_) | with_reducible exact H | (rw [hy333]; exact H) | exact H
        have Ny333 := Aside0.mk hy333
        clear hy333
        have H' := Aside0.mk H
        clear H
        have p331 : 0 ≤ (x7_1 : Int) := dt_
        have q331 : x7_1 < (l0.length : Int) := dt_
        obtain ⟨ad331, e331, hx331_0⟩ := Kd.at_int HR0.out x7_1 p331 q331
        cases e331
        replace hx331_0 := (HB.out.cell (World.block_lt_of_cell? w _ hx331_0)).trans hx331_0
        replace p331 := eq_true p331
        replace q331 := eq_true q331
        have p332 : 0 ≤ (x7_1 : Int) := dt_
        have q332 : x7_1 < (l1.length : Int) := dt_
        obtain ⟨ad332, e332, hx332_0⟩ := Kd.at_int HR1.out x7_1 p332 q332
        cases e332
        replace hx332_0 := (HB.out.cell (World.block_lt_of_cell? w _ hx332_0)).trans hx332_0
        replace p332 := eq_true p332
        replace q332 := eq_true q332
        go_wp2_with (first | ((with_reducible refine gate_builtin (b := .append) (xs := #[.tmp 36, .tmp 38]) rfl ?_); at_builtin; refine Kd.R_append (Kd.int .i64) (w0 := w) w.heap.size rfl (.tmp 36) (.tmp 38) 39 3 (.int .i64 0) 8 rfl Try.underlying39 info3 rfl (by decide) (by omega) u5 x5_1 (wrap64 ((wrap64 ((wrap64 ((rd l0 x7_1) - x6_1)) - (rd l1 x7_1))) + 65536)) [.int .i64 (wrap64 ((wrap64 ((wrap64 ((rd l0 x7_1) - x6_1)) - (rd l1 x7_1))) + 65536))] (fun _ => True) (fun _ => False) rfl rfl ?aP (fun _ hk => hk.elim) ?aF ?aO ?aB ?aS ?aL ?_; (case aP => exact rfl); (case aB => exact (bw HB.out)); (case aF => exact (fun _ _ => trivial)); (case aO => exact (by (with_reducible repeat (first | apply Kd.R_alloc | apply Kd.R_drewN | apply Kd.R_drew)); exact HO_5.out)); (case aS => exact (below_size (bw HB.out))); (case aL => have := LMc9.out; omega); intro v334 w10 ho hb hg hat; rw [← Ny333.out] at ho; have n0_ := Aside0.mk (hb); have n1_ := Aside0.mk (ho); clear HB; clear HO_5; have HB := n0_; have HO335 := n1_; clear n0_ n1_; clear ho hb hg hat))
        go_roundg k1
        case measure => have := HK1.out; omega
        case rel => exact ⟨(y333), (1), (wrap64 (x7_1 + 1)), (by first | rfl | (simp; done) | (simp [*]; done)), (by first | rfl | (simp; done) | (simp [*]; done)), H', ⟨by have := HK1.out; omega⟩, ⟨by (with_reducible repeat (first | apply Kd.R_alloc | apply Kd.R_drewN | apply Kd.R_drew)); exact HO335.out⟩, ⟨bw HB.out⟩⟩
       ·rw [if_neg c9] at H
        exact absurd H (by simp)
      ·rw [if_neg c8] at H
       have c8b0 : decide ((wrap64 ((wrap64 ((rd l0 x7_1) - x6_1)) - (rd l1 x7_1))) < 0) = false := decide_eq_false c8
       clear c8
       by_cases c11 : x5_1.length < 17592186044416
       ·rw [if_pos c11] at H
        have LMc11 := Aside0.mk c11
        clear c11
        obtain ⟨y336, hy336⟩ : ∃ y_ : List Int, y_ = (x5_1 ++ [wrap64 ((wrap64 ((rd l0 x7_1) - x6_1)) - (rd l1 x7_1))]) := ⟨_, rfl⟩
        replace H : (zelligeref03_Sub.l0 k1 l0 l1 y336 0 (wrap64 (x7_1 + 1))) = some r := by first | (rw [hy336]; with_reducible exact H) | (have H2_ := (Option.bind_some _ _).symm.trans H; rw [hy336]; with_reducible exact H2_) | (have H2_ := (Option.bind_some _ _).symm.trans H; with_reducible exact H2_) | with_reducible exact H | (rw [hy336]; exact H) | exact H
        have Ny336 := Aside0.mk hy336
        clear hy336
        have H' := Aside0.mk H
        clear H
        have p331 : 0 ≤ (x7_1 : Int) := dt_
        have q331 : x7_1 < (l0.length : Int) := dt_
        obtain ⟨ad331, e331, hx331_0⟩ := Kd.at_int HR0.out x7_1 p331 q331
        cases e331
        replace hx331_0 := (HB.out.cell (World.block_lt_of_cell? w _ hx331_0)).trans hx331_0
        replace p331 := eq_true p331
        replace q331 := eq_true q331
        have p332 : 0 ≤ (x7_1 : Int) := dt_
        have q332 : x7_1 < (l1.length : Int) := dt_
        obtain ⟨ad332, e332, hx332_0⟩ := Kd.at_int HR1.out x7_1 p332 q332
        cases e332
        replace hx332_0 := (HB.out.cell (World.block_lt_of_cell? w _ hx332_0)).trans hx332_0
        replace p332 := eq_true p332
        replace q332 := eq_true q332
        go_wp2_with (first | ((with_reducible refine gate_builtin (b := .append) (xs := #[.tmp 36, .tmp 38]) rfl ?_); at_builtin; refine Kd.R_append (Kd.int .i64) (w0 := w) w.heap.size rfl (.tmp 36) (.tmp 38) 39 3 (.int .i64 0) 8 rfl Try.underlying39 info3 rfl (by decide) (by omega) u5 x5_1 (wrap64 ((wrap64 ((rd l0 x7_1) - x6_1)) - (rd l1 x7_1))) [.int .i64 (wrap64 ((wrap64 ((rd l0 x7_1) - x6_1)) - (rd l1 x7_1)))] (fun _ => True) (fun _ => False) rfl rfl ?aP (fun _ hk => hk.elim) ?aF ?aO ?aB ?aS ?aL ?_; (case aP => exact rfl); (case aB => exact (bw HB.out)); (case aF => exact (fun _ _ => trivial)); (case aO => exact (by (with_reducible repeat (first | apply Kd.R_alloc | apply Kd.R_drewN | apply Kd.R_drew)); exact HO_5.out)); (case aS => exact (below_size (bw HB.out))); (case aL => have := LMc11.out; omega); intro v337 w12 ho hb hg hat; rw [← Ny336.out] at ho; have n0_ := Aside0.mk (hb); have n1_ := Aside0.mk (ho); clear HB; clear HO_5; have HB := n0_; have HO338 := n1_; clear n0_ n1_; clear ho hb hg hat))
        go_roundg k1
        case measure => have := HK1.out; omega
        case rel => exact ⟨(y336), (0), (wrap64 (x7_1 + 1)), (by first | rfl | (simp; done) | (simp [*]; done)), (by first | rfl | (simp; done) | (simp [*]; done)), H', ⟨by have := HK1.out; omega⟩, ⟨by (with_reducible repeat (first | apply Kd.R_alloc | apply Kd.R_drewN | apply Kd.R_drew)); exact HO338.out⟩, ⟨bw HB.out⟩⟩
       ·rw [if_neg c11] at H
        exact absurd H (by simp)
     ·rw [if_neg c7] at H
      have c7b0 : decide (x7_1 < (l1.length : Int)) = false := decide_eq_false c7
      clear c7
      by_cases c13 : (wrap64 ((rd l0 x7_1) - x6_1)) < 0
      ·rw [if_pos c13] at H
       have c13b0 : decide ((wrap64 ((rd l0 x7_1) - x6_1)) < 0) = true := decide_eq_true c13
       clear c13
       by_cases c14 : x5_1.length < 17592186044416
       ·rw [if_pos c14] at H
        have LMc14 := Aside0.mk c14
        clear c14
        obtain ⟨y339, hy339⟩ : ∃ y_ : List Int, y_ = (x5_1 ++ [wrap64 ((wrap64 ((rd l0 x7_1) - x6_1)) + 65536)]) := ⟨_, rfl⟩
        replace H : (zelligeref03_Sub.l0 k1 l0 l1 y339 1 (wrap64 (x7_1 + 1))) = some r := by first | (rw [hy339]; with_reducible exact H) | (have H2_ := (Option.bind_some _ _).symm.trans H; rw [hy339]; with_reducible exact H2_) | (have H2_ := (Option.bind_some _ _).symm.trans H; with_reducible exact H2_) | with_reducible exact H | (rw [hy339]; exact H) | exact H
        have Ny339 := Aside0.mk hy339
        clear hy339
        have H' := Aside0.mk H
        clear H
        have p331 : 0 ≤ (x7_1 : Int) := dt_
        have q331 : x7_1 < (l0.length : Int) := dt_
        obtain ⟨ad331, e331, hx331_0⟩ := Kd.at_int HR0.out x7_1 p331 q331
        cases e331
        replace hx331_0 := (HB.out.cell (World.block_lt_of_cell? w _ hx331_0)).trans hx331_0
        replace p331 := eq_true p331
        replace q331 := eq_true q331
        go_wp2_with (first | ((with_reducible refine gate_builtin (b := .append) (xs := #[.tmp 36, .tmp 38]) rfl ?_); at_builtin; refine Kd.R_append (Kd.int .i64) (w0 := w) w.heap.size rfl (.tmp 36) (.tmp 38) 39 3 (.int .i64 0) 8 rfl Try.underlying39 info3 rfl (by decide) (by omega) u5 x5_1 (wrap64 ((wrap64 ((rd l0 x7_1) - x6_1)) + 65536)) [.int .i64 (wrap64 ((wrap64 ((rd l0 x7_1) - x6_1)) + 65536))] (fun _ => True) (fun _ => False) rfl rfl ?aP (fun _ hk => hk.elim) ?aF ?aO ?aB ?aS ?aL ?_; (case aP => exact rfl); (case aB => exact (bw HB.out)); (case aF => exact (fun _ _ => trivial)); (case aO => exact (by (with_reducible repeat (first | apply Kd.R_alloc | apply Kd.R_drewN | apply Kd.R_drew)); exact HO_5.out)); (case aS => exact (below_size (bw HB.out))); (case aL => have := LMc14.out; omega); intro v340 w15 ho hb hg hat; rw [← Ny339.out] at ho; have n0_ := Aside0.mk (hb); have n1_ := Aside0.mk (ho); clear HB; clear HO_5; have HB := n0_; have HO341 := n1_; clear n0_ n1_; clear ho hb hg hat))
        go_roundg k1
        case measure => have := HK1.out; omega
        case rel => exact ⟨(y339), (1), (wrap64 (x7_1 + 1)), (by first | rfl | (simp; done) | (simp [*]; done)), (by first | rfl | (simp; done) | (simp [*]; done)), H', ⟨by have := HK1.out; omega⟩, ⟨by (with_reducible repeat (first | apply Kd.R_alloc | apply Kd.R_drewN | apply Kd.R_drew)); exact HO341.out⟩, ⟨bw HB.out⟩⟩
       ·rw [if_neg c14] at H
        exact absurd H (by simp)
      ·rw [if_neg c13] at H
       have c13b0 : decide ((wrap64 ((rd l0 x7_1) - x6_1)) < 0) = false := decide_eq_false c13
       clear c13
       by_cases c16 : x5_1.length < 17592186044416
       ·rw [if_pos c16] at H
        have LMc16 := Aside0.mk c16
        clear c16
        obtain ⟨y342, hy342⟩ : ∃ y_ : List Int, y_ = (x5_1 ++ [wrap64 ((rd l0 x7_1) - x6_1)]) := ⟨_, rfl⟩
        replace H : (zelligeref03_Sub.l0 k1 l0 l1 y342 0 (wrap64 (x7_1 + 1))) = some r := by first | (rw [hy342]; with_reducible exact H) | (have H2_ := (Option.bind_some _ _).symm.trans H; rw [hy342]; with_reducible exact H2_) | (have H2_ := (Option.bind_some _ _).symm.trans H; with_reducible exact H2_) | with_reducible exact H | (rw [hy342]; exact H) | exact H
        have Ny342 := Aside0.mk hy342
        clear hy342
        have H' := Aside0.mk H
        clear H
        have p331 : 0 ≤ (x7_1 : Int) := dt_
        have q331 : x7_1 < (l0.length : Int) := dt_
        obtain ⟨ad331, e331, hx331_0⟩ := Kd.at_int HR0.out x7_1 p331 q331
        cases e331
        replace hx331_0 := (HB.out.cell (World.block_lt_of_cell? w _ hx331_0)).trans hx331_0
        replace p331 := eq_true p331
        replace q331 := eq_true q331
        go_wp2_with (first | ((with_reducible refine gate_builtin (b := .append) (xs := #[.tmp 36, .tmp 38]) rfl ?_); at_builtin; refine Kd.R_append (Kd.int .i64) (w0 := w) w.heap.size rfl (.tmp 36) (.tmp 38) 39 3 (.int .i64 0) 8 rfl Try.underlying39 info3 rfl (by decide) (by omega) u5 x5_1 (wrap64 ((rd l0 x7_1) - x6_1)) [.int .i64 (wrap64 ((rd l0 x7_1) - x6_1))] (fun _ => True) (fun _ => False) rfl rfl ?aP (fun _ hk => hk.elim) ?aF ?aO ?aB ?aS ?aL ?_; (case aP => exact rfl); (case aB => exact (bw HB.out)); (case aF => exact (fun _ _ => trivial)); (case aO => exact (by (with_reducible repeat (first | apply Kd.R_alloc | apply Kd.R_drewN | apply Kd.R_drew)); exact HO_5.out)); (case aS => exact (below_size (bw HB.out))); (case aL => have := LMc16.out; omega); intro v343 w17 ho hb hg hat; rw [← Ny342.out] at ho; have n0_ := Aside0.mk (hb); have n1_ := Aside0.mk (ho); clear HB; clear HO_5; have HB := n0_; have HO344 := n1_; clear n0_ n1_; clear ho hb hg hat))
        go_roundg k1
        case measure => have := HK1.out; omega
        case rel => exact ⟨(y342), (0), (wrap64 (x7_1 + 1)), (by first | rfl | (simp; done) | (simp [*]; done)), (by first | rfl | (simp; done) | (simp [*]; done)), H', ⟨by have := HK1.out; omega⟩, ⟨by (with_reducible repeat (first | apply Kd.R_alloc | apply Kd.R_drewN | apply Kd.R_drew)); exact HO344.out⟩, ⟨bw HB.out⟩⟩
       ·rw [if_neg c16] at H
        exact absurd H (by simp)
    ·rw [if_neg c6] at H
     exact absurd H (by simp)
   ·rw [if_neg c5] at H
    have c5b0 : decide (x7_1 < (l0.length : Int)) = false := decide_eq_false c5
    clear c5
    replace H := Option.bind_eq_some_iff.mp H
    obtain ⟨t328, A180, H⟩ := H
    try dsimp only at H
    have A18 := Aside0.mk A180
    clear A180
    obtain rfl := Option.some.inj H
    obtain ⟨Ao19, co19, eo19⟩ := Kd.R_slice HO_5.out
    subst eo19
    go_wp2_with (first | ((with_reducible refine gate_callee (f := 55) rfl ?_); refine gL (some 41) Try.func55 #[.slice Ao19 x5_1.length co19] rfl ?_; (with_reducible refine (zelligeref03_Trim.calls k1 (fun k_ => some k_ = (.slice Ao19 x5_1.length co19 : Value).ownBlock) (.slice Ao19 x5_1.length co19) x5_1 t328 w _ ?side1 ?side2 A18.out).mono ?_); (case side1 => repeat (first | (with_reducible first | exact HB.out | apply below_alloc | apply pw_below_drewN | apply below_drew1) | exact HB.out)); (case side2 => exact Kd.R_tight rfl HO_5.out); rintro e w20 ⟨v329, rfl, ho0, hb, hkp⟩; refine ⟨_, rfl, ?_⟩; have n0_ := Aside0.mk (Kd.R_mono (ok' := fun k_ => True) ho0 (fun k_ hk_ => trivial)); have n1_ := Aside0.mk (hb); clear HB; clear HO_5; have HO330 := n0_; have HB := n1_; clear n0_ n1_; (try clear hb); (try clear hkp); (try clear ho0)))
    go_ret
    exact ⟨_, by first | rfl | (simp [*, errW_none, errW_some] <;> rfl), by (with_reducible repeat (first | apply Kd.R_alloc | apply Kd.R_drewN | apply Kd.R_drew)); exact HO330.out, bw HB.out⟩
end Go.Proofs.Ytlkngfidohiepaa.F
end
section
namespace Go.Proofs.Ytlkngfidohiepaa.F
open RowKit YtlkngfidohiepaaW.PrintWords YtlkngfidohiepaaW.PrintLast YtlkngfidohiepaaW.PrintMore
set_option linter.unusedVariables false
set_option linter.unusedSimpArgs false
def zelligeref03_Of.l0 : Nat → List Int → List Int → Int → Option (List Int)
 | 0, _, _, _ => none
 | k + 1, x0, x3, x4 => if x4 < (x0.length : Int) then (if 0 ≤ x4 then ((some (([wrap64 (Int.tmod (rd x0 x4) 65536), wrap64 (IntKind.u32.wrap (Int.tdiv (rd x0 x4) 65536))] : List Int) : List Int)).bind fun y274 => (if x3.length + y274.length < 17592186044416 then (zelligeref03_Of.l0 k x0 (x3 ++ y274) (wrap64 (x4 + 1))) else (none))) else (none)) else ((zelligeref03_Trim.f k x3).bind fun t280 => (some t280))
def zelligeref03_Of.f (k : Nat) (l0 : List Int) : Option (List Int) := zelligeref03_Of.l0 k l0 (([] : List Int)) 0
theorem zelligeref03_Of.mono_l : ∀ k, (∀ y0 y1 y2, LeO (zelligeref03_Of.l0 k y0 y1 y2) (zelligeref03_Of.l0 (k + 1) y0 y1 y2))
 | 0 => fun _ _ _ r h => by simp [zelligeref03_Of.l0] at h
 | k + 1 => by
  have ih0 := zelligeref03_Of.mono_l k
  ·intro y0 y1 y2
   unfold zelligeref03_Of.l0
   repeat' first
   | (with_reducible exact ih0 _ _ _)
   | (with_reducible exact zelligeref03_Trim.mono _ _)
   | (with_reducible exact LeO.refl _)
   | (with_reducible exact LeO.none _)
   | (with_reducible refine LeO.ite ?_ ?_)
   | (with_reducible refine LeO.bind ?_ (fun _ => ?_))
   | exact ih0 _ _ _
   | exact zelligeref03_Trim.mono _ _
   | exact LeO.none _
   | refine LeO.ite ?_ ?_
   | refine LeO.bind ?_ (fun _ => ?_)
theorem zelligeref03_Of.mono : ∀ a0 k, LeO (zelligeref03_Of.f k a0) (zelligeref03_Of.f (k + 1) a0) := by
 intro a0 k
 have ih0 := zelligeref03_Of.mono_l k
 unfold zelligeref03_Of.f
 repeat' first
   | (with_reducible exact ih0 _ _ _)
   | (with_reducible exact zelligeref03_Trim.mono _ _)
   | (with_reducible exact LeO.refl _)
   | (with_reducible exact LeO.none _)
   | (with_reducible refine LeO.ite ?_ ?_)
   | (with_reducible refine LeO.bind ?_ (fun _ => ?_))
   | exact ih0 _ _ _
   | exact zelligeref03_Trim.mono _ _
   | exact LeO.none _
   | refine LeO.ite ?_ ?_
   | refine LeO.bind ?_ (fun _ => ?_)
def zelligeref03_Of.T5 : Bool × List (List Nat × List Nat) := (true, [([], []), ([], []), ([], []), ([1, 2], [1, 2]), ([3], [3]), ([4], [4]), ([5], [5]), ([], []), ([], []), ([7, 8], [7, 8]), ([9], [9]), ([10], [10]), ([11], [11]), ([6, 12], [6, 12]), ([0, 13], [0, 13]), ([14, 14, 0, 1, 2, 3, 4, 5, 6, 7, 8, 9, 10, 11, 12, 13, 14], [0, 14])])
def zelligeref03_Of.B5 : List Nat := [0, 0, 0, 6, 14, 30, 62, 0, 0, 384, 896, 1920, 3968, 8190, 16383, 32767]
theorem zelligeref03_Of.tab5 : rtab .any (opsOf Try.f38 5) = zelligeref03_Of.T5 := by kernel_rfl
theorem zelligeref03_Of.bits5 : waitsOk zelligeref03_Of.T5.2 zelligeref03_Of.B5 = true := by kernel_rfl
set_option maxHeartbeats 8000000 in
set_option maxRecDepth 100000 in
theorem zelligeref03_Of.calls (k : Nat) (A0 : Option Addr) (c0 : Nat) (l0 : List Int) (r : List Int) (w : World) (hr0 : Kd.C (Kd.int .u32) w A0 l0.length l0) (hc0 : l0.length ≤ c0) (h : zelligeref03_Of.f k l0 = some r) :
  Calls Try.prog 38 #[.slice A0 l0.length c0] w fun e w' => ∃ v0_ : Value, e = .returned (v0_) ∧ Kd.R (Kd.int .i64) 3 w' w.heap.size (fun _ => True) v0_ r ∧ Below w.heap.size w w' := by
 have HR0 := Aside0.mk hr0
 have HC0 := Aside0.mk hc0
 clear hr0 hc0
 have HB := Aside0.mk (Below.refl w.heap.size w)
 have H : (zelligeref03_Of.l0 k l0 (([] : List Int)) 0) = some r := h
 clear h
 obtain ⟨y269, hy269⟩ : ∃ y_ : List Int, y_ = (([] : List Int)) := ⟨_, rfl⟩
 replace H : (zelligeref03_Of.l0 k l0 y269 0) = some r := by first | (rw [hy269]; with_reducible exact H) | (have H2_ := (Option.bind_some _ _).symm.trans H; rw [hy269]; with_reducible exact H2_) | (have H2_ := (Option.bind_some _ _).symm.trans H; with_reducible exact H2_) | with_reducible exact H | (rw [hy269]; exact H) | exact H
 have Ny269 := Aside0.mk hy269
 clear hy269
 have H' := Aside0.mk H
 clear H
 go_enter Try.func38, Try.ntmps38
 go_wp2_with (first | ((with_reducible refine gate_dst (N := 5) rfl ?_); refine Kd.R_lit (Kd.int .i64) _ 3 ?hg (N := 5) ?hd (xs := ([] : List Int)) (inner := []) (ok := fun _ => True) (okp := fun _ => True) ?hr ?hp (fun _ hk => hk) trivial (Below.refl _ _) (Nat.le_refl _) (by simp) ?_; (case hd => rfl); (case hg => rfl); (case hr => first | (go_simp; done) | (go_simp; rfl)); (case hp => exact (Reps.none _ _)); intro v270 w2 ho3 hb hg_ hnew_; clear hg_ hnew_; (first | rw [← Ny269.out] at ho3 | (simp only [Int.reduceToNat] at ho3; rw [← Ny269.out] at ho3)); have n0_ := Aside0.mk (Kd.R_lower ho3 (below_size (bw HB.out))); have n1_ := u2 HB hb; clear HB; have HO271 := n0_; have HB := n1_; clear n0_ n1_; clear hb ho3))
 go_loopg [3, 4] k (fun kq v3 v4 w' => ∃ (x3_1 : List Int) (x4_1 : Int), v4 = .int .i64 x4_1 ∧ Aside0 (zelligeref03_Of.l0 kq l0 x3_1 x4_1 = some r) ∧ Aside0 (kq ≤ k) ∧ Aside0 (Kd.R (Kd.int .i64) 3 w' w.heap.size (fun _ => True) v3 x3_1) ∧ Aside0 (Below w.heap.size w w'))
 case atStart => exact ⟨(y269), (0), (by first | rfl | (simp; done) | (simp [*]; done)), H', ⟨Nat.le_refl _⟩, ⟨by (with_reducible repeat (first | apply Kd.R_alloc | apply Kd.R_drewN | apply Kd.R_drew)); exact HO271.out⟩, ⟨bw HB.out⟩⟩
 case round =>
  clear H'
  try clear p2
  try clear c3
  obtain ⟨x3_1, x4_1, rfl, HA, HK1, HO_3, HB⟩ := hrel
  cases gk with
  | zero => exact absurd HA.out (by simp [zelligeref03_Of.l0])
  | succ k1 =>
   have H := HA.out
   clear HA
   simp only [zelligeref03_Of.l0] at H
   by_cases c4 : x4_1 < (l0.length : Int)
   ·rw [if_pos c4] at H
    have c4b0 : decide (x4_1 < (l0.length : Int)) = true := decide_eq_true c4
    clear c4
    by_cases c5 : 0 ≤ x4_1
    ·rw [if_pos c5] at H
     have c5b0 : decide (0 ≤ x4_1) = true := decide_eq_true c5
     clear c5
     obtain ⟨y274, hy274⟩ : ∃ y_ : List Int, y_ = (([wrap64 (Int.tmod (rd l0 x4_1) 65536), wrap64 (IntKind.u32.wrap (Int.tdiv (rd l0 x4_1) 65536))] : List Int)) := ⟨_, rfl⟩
     replace H : (if x3_1.length + y274.length < 17592186044416 then (zelligeref03_Of.l0 k1 l0 (x3_1 ++ y274) (wrap64 (x4_1 + 1))) else (none)) = some r := by first | (rw [hy274]; with_reducible exact H) | (have H2_ := (Option.bind_some _ _).symm.trans H; rw [hy274]; with_reducible exact H2_) | (have H2_ := (Option.bind_some _ _).symm.trans H; with_reducible exact H2_) | with_reducible exact H | (rw [hy274]; exact H) | exact H
     have Ny274 := Aside0.mk hy274
     clear hy274
     by_cases c6 : x3_1.length + y274.length < 17592186044416
     ·rw [if_pos c6] at H
      have LMc6 := Aside0.mk c6
      clear c6
      obtain ⟨y277, hy277⟩ : ∃ y_ : List Int, y_ = (x3_1 ++ y274) := ⟨_, rfl⟩
      replace H : (zelligeref03_Of.l0 k1 l0 y277 (wrap64 (x4_1 + 1))) = some r := by first | (rw [hy277]; with_reducible exact H) | (have H2_ := (Option.bind_some _ _).symm.trans H; rw [hy277]; with_reducible exact H2_) | (have H2_ := (Option.bind_some _ _).symm.trans H; with_reducible exact H2_) | with_reducible exact H | (rw [hy277]; exact H) | exact H
      have Ny277 := Aside0.mk hy277
      clear hy277
      have H' := Aside0.mk H
      clear H
      try go_wp2
      have n0_ := Aside0.mk (Kd.R_drew HO_3.out)
      have n1_ := Aside0.mk (below_drew1 HB.out)
      clear HO_3
      clear HB
      have HO_3 := n0_
      have HB := n1_
      clear n0_ n1_
      have p272 : 0 ≤ (x4_1 : Int) := dt_
      have q272 : x4_1 < (l0.length : Int) := dt_
      obtain ⟨ad272, e272, hx272_0⟩ := Kd.at_int HR0.out x4_1 p272 q272
      have hw272_0 := hx272_0
      cases e272
      replace hx272_0 := (HB.out.cell (World.block_lt_of_cell? w _ hx272_0)).trans hx272_0
      replace p272 := eq_true p272
      replace q272 := eq_true q272
      have p273 : 0 ≤ (x4_1 : Int) := dt_
      have q273 : x4_1 < (l0.length : Int) := dt_
      obtain ⟨ad273, e273, hx273_0⟩ := Kd.at_int HR0.out x4_1 p273 q273
      have hw273_0 := hx273_0
      obtain rfl : ad272 = ad273 := (by injection e273)
      replace hx273_0 := (HB.out.cell (World.block_lt_of_cell? w _ hx273_0)).trans hx273_0
      replace p273 := eq_true p273
      replace q273 := eq_true q273
      refine start_ (n := 16) (S := fun w' => w'.cell? (ad272.add (x4_1).toNat) = some (.int .u32 (rd l0 x4_1)) ∧ w'.cell? (ad272.add (x4_1).toNat) = some (.int .u32 (rd l0 x4_1))) (ds := []) #[F_,F_,F_,F_,F_,F_,F_,F_,F_,F_,F_,F_,F_,F_,F_,F_] (by kernel_rfl) rfl rfl ⟨((HB.out.cell (World.block_lt_of_cell? w _ hw272_0)).trans hw272_0), ((HB.out.cell (World.block_lt_of_cell? w _ hw273_0)).trans hw273_0)⟩ (fun hHeld => ?_); refine with_tabW zelligeref03_Of.tab5 zelligeref03_Of.bits5 (fun HT_ HW_ => ?_)
      generalize wr.drew = w7 at HO_3 HB hx272_0 hx273_0 hHeld ⊢
      refine pA (i := 0) (N := some 12) (v := ?_) (a' := ?_) #[T_,F_,F_,F_,F_,F_,F_,F_,F_,F_,F_,F_,F_,F_,F_,F_] rfl rfl HT_ (Or.inl ⟨by rfl, ?_⟩) ?_ ?_
      rotate_left
      ·intro w'
       go_simp
       with_reducible rfl
      rotate_left
      ·simp only [Act.put, s1, s2, s3, i64_w, i32_w]
       rfl
      refine pA (i := 1) (N := some 13) (v := ?_) (a' := ?_) #[T_,T_,F_,F_,F_,F_,F_,F_,F_,F_,F_,F_,F_,F_,F_,F_] rfl rfl HT_ (Or.inl ⟨by rfl, ?_⟩) ?_ ?_
      rotate_left
      ·intro w'
       go_simp
       with_reducible rfl
      rotate_left
      ·simp only [Act.put, s1, s2, s3, i64_w, i32_w]
       rfl
      refine pA (i := 2) (N := some 14) (v := ?_) (a' := ?_) #[T_,T_,T_,F_,F_,F_,F_,F_,F_,F_,F_,F_,F_,F_,F_,F_] rfl rfl HT_ (Or.inl ⟨by rfl, ?_⟩) ?_ ?_
      rotate_left
      ·intro w'
       go_simp
       with_reducible rfl
      rotate_left
      ·simp only [Act.put, s1, s2, s3, i64_w, i32_w]
       rfl
      refine pA (i := 3) (N := some 15) (v := ?_) (a' := ?_) #[T_,T_,T_,T_,F_,F_,F_,F_,F_,F_,F_,F_,F_,F_,F_,F_] rfl rfl HT_ (Or.inl ⟨by rfl, ?_⟩) ?_ ?_
      rotate_left
      ·intro w'
       go_simp
       with_reducible rfl
      rotate_left
      ·simp only [Act.put, s1, s2, s3, i64_w, i32_w]
       rfl
      refine pA (i := 7) (N := some 19) (v := ?_) (a' := ?_) #[T_,T_,T_,T_,F_,F_,F_,T_,F_,F_,F_,F_,F_,F_,F_,F_] rfl rfl HT_ (Or.inl ⟨by rfl, ?_⟩) ?_ ?_
      rotate_left
      ·intro w'
       go_simp
       with_reducible rfl
      rotate_left
      ·simp only [Act.put, s1, s2, s3, i64_w, i32_w]
       rfl
      refine pA (i := 8) (N := some 20) (v := ?_) (a' := ?_) #[T_,T_,T_,T_,F_,F_,F_,T_,T_,F_,F_,F_,F_,F_,F_,F_] rfl rfl HT_ (Or.inl ⟨by rfl, ?_⟩) ?_ ?_
      rotate_left
      ·intro w'
       go_simp
       with_reducible rfl
      rotate_left
      ·simp only [Act.put, s1, s2, s3, i64_w, i32_w]
       rfl
      refine pA (i := 9) (N := some 21) (v := ?_) (a' := ?_) #[T_,T_,T_,T_,F_,F_,F_,T_,T_,T_,F_,F_,F_,F_,F_,F_] rfl rfl HT_ (Or.inl ⟨by rfl, ?_⟩) ?_ ?_
      rotate_left
      ·intro w'
       go_simp
       with_reducible rfl
      rotate_left
      ·simp only [Act.put, s1, s2, s3, i64_w, i32_w]
       rfl
      refine tA (i := 4) (N := some 16) (v := ?_) (a' := ?_) #[T_,T_,T_,T_,T_,F_,F_,T_,T_,T_,F_,F_,F_,F_,F_,F_] rfl rfl HT_ HW_ (Or.inl ⟨by rfl, ?_⟩) hHeld ?_ ?_
      rotate_left
      ·rintro w' ⟨s0, s1⟩
       go_simp
       with_reducible rfl
      rotate_left
      ·simp only [Act.put, s1, s2, s3, i64_w, i32_w]
       rfl
      refine pA (i := 5) (N := some 17) (v := ?_) (a' := ?_) #[T_,T_,T_,T_,T_,T_,F_,T_,T_,T_,F_,F_,F_,F_,F_,F_] rfl rfl HT_ (Or.inl ⟨by rfl, ?_⟩) ?_ ?_
      rotate_left
      ·intro w'
       go_simp
       with_reducible rfl
      rotate_left
      ·simp only [Act.put, s1, s2, s3, i64_w, i32_w]
       rfl
      refine pA (i := 6) (N := some 18) (v := ?_) (a' := ?_) #[T_,T_,T_,T_,T_,T_,T_,T_,T_,T_,F_,F_,F_,F_,F_,F_] rfl rfl HT_ (Or.inl ⟨by rfl, ?_⟩) ?_ ?_
      rotate_left
      ·intro w'
       go_simp
       with_reducible rfl
      rotate_left
      ·simp only [Act.put, s1, s2, s3, i64_w, i32_w]
       rfl
      refine tA (i := 10) (N := some 22) (v := ?_) (a' := ?_) #[T_,T_,T_,T_,T_,T_,T_,T_,T_,T_,T_,F_,F_,F_,F_,F_] rfl rfl HT_ HW_ (Or.inl ⟨by rfl, ?_⟩) hHeld ?_ ?_
      rotate_left
      ·rintro w' ⟨s0, s1⟩
       go_simp
       with_reducible rfl
      rotate_left
      ·simp only [Act.put, s1, s2, s3, i64_w, i32_w]
       rfl
      refine pA (i := 11) (N := some 23) (v := ?_) (a' := ?_) #[T_,T_,T_,T_,T_,T_,T_,T_,T_,T_,T_,T_,F_,F_,F_,F_] rfl rfl HT_ (Or.inl ⟨by rfl, ?_⟩) ?_ ?_
      rotate_left
      ·intro w'
       go_simp
       with_reducible rfl
      rotate_left
      ·simp only [Act.put, s1, s2, s3, i64_w, i32_w]
       rfl
      refine pA (i := 12) (N := some 24) (v := ?_) (a' := ?_) #[T_,T_,T_,T_,T_,T_,T_,T_,T_,T_,T_,T_,T_,F_,F_,F_] rfl rfl HT_ (Or.inl ⟨by rfl, ?_⟩) ?_ ?_
      rotate_left
      ·intro w'
       go_simp
       with_reducible rfl
      rotate_left
      ·simp only [Act.put, s1, s2, s3, i64_w, i32_w]
       rfl
      refine one_ (i := 13) (N := some 25) #[T_,T_,T_,T_,T_,T_,T_,T_,T_,T_,T_,T_,T_,T_,F_,F_] rfl rfl (one_of HT_.out (by kernel_rfl)) (by decide) (fun K hK => ?_)
      refine Kd.R_lit_step (Kd.int .i64) _ 3 ?hg (N := 25) ?hd (xs := ([wrap64 (Int.tmod (rd l0 x4_1) 65536), wrap64 (IntKind.u32.wrap (Int.tdiv (rd l0 x4_1) 65536))] : List Int)) (inner := [.int .i64 (wrap64 (Int.tmod (rd l0 x4_1) 65536)), .int .i64 (wrap64 (IntKind.u32.wrap (Int.tdiv (rd l0 x4_1) 65536)))]) (ok := fun _ => True) (okp := fun _ => True) ?hr ?hp (fun _ hk => hk) trivial (Below.refl _ _) (Nat.le_refl _) (by simp) ?_; (case hd => rfl); (case hg => rfl); (case hr => first | (go_simp; done) | (go_simp; rfl)); (case hp => exact (Reps.one (show Kd.M (Kd.int .i64) _ _ _ (wrap64 (Int.tmod (rd l0 x4_1) 65536)) [.int .i64 (wrap64 (Int.tmod (rd l0 x4_1) 65536))] from rfl) (Reps.one (show Kd.M (Kd.int .i64) _ _ _ (wrap64 (IntKind.u32.wrap (Int.tdiv (rd l0 x4_1) 65536))) [.int .i64 (wrap64 (IntKind.u32.wrap (Int.tdiv (rd l0 x4_1) 65536)))] from rfl) (Reps.none _ _))))
      intro v275 w8 ho9 hb hg_ hnew_
      clear hg_ hnew_
      (first | rw [← Ny274.out] at ho9 | (simp only [Int.reduceToNat] at ho9; rw [← Ny274.out] at ho9))
      have n0_ := Aside0.mk (Kd.R_elder' (by (with_reducible repeat (first | apply Kd.R_alloc | apply Kd.R_drewN | apply Kd.R_drew)); exact HO_3.out) (Kd.R_base ho9) hb)
      have n1_ := Aside0.mk (Kd.R_lower (Kd.R_new' ho9 (Kd.R_lt (by (with_reducible repeat (first | apply Kd.R_alloc | apply Kd.R_drewN | apply Kd.R_drew)); exact HO_3.out))) (below_size (bw HB.out)))
      have n2_ := Aside0.mk (below_step (bw HB.out) hb)
      clear HO_3
      clear HB
      have HO_3 := n0_
      have HO276 := n1_
      have HB := n2_
      clear n0_ n1_ n2_
      clear hb ho9
      obtain ⟨Ao11, co11, eo11⟩ := Kd.R_slice HO276.out
      (first | subst eo11 | (injection eo11 with f1_ f2_ f3_; have f4_ := f1_.symm; have f5_ := f3_.symm; clear f1_ f2_ f3_; subst f4_; subst f5_))
      refine hK.out _ _ ⟨((HB.out.cell (World.block_lt_of_cell? w _ hw272_0)).trans hw272_0), ((HB.out.cell (World.block_lt_of_cell? w _ hw273_0)).trans hw273_0)⟩ (fun hHeld => ?_)
      clear hK K
      refine norm_ (a' := ?_) ?_ ?_
      rotate_left
      ·show Act.put _ (some 25) _ = _
       simp only [Act.put, s1, s2, s3, i64_w, i32_w]
       rfl
      refine one_ (i := 14) (N := some 26) #[T_,T_,T_,T_,T_,T_,T_,T_,T_,T_,T_,T_,T_,T_,T_,F_] rfl rfl (one_of HT_.out (by kernel_rfl)) (by decide) (fun K hK => ?_)
      refine Kd.R_append_rows_step (Kd.int .i64) (w0 := w) w.heap.size (by rfl) (.tmp 12) (.tmp 25) 39 3 (.int .i64 0) 8 rfl Try.underlying39 info3 rfl (by decide) (by omega) u3 x3_1 y274 _ _ _ (fun k_ => some k_ ≠ (.slice Ao11 y274.length co11 : Value).ownBlock) (fun _ => False) rfl rfl ?aO ?aR (fun _ _ h => h) (fun _ h => h.elim) ?aF ?aB ?aS ?aL ?_
      (case aR => repeat (first | exact (Kd.R_reads' HO276.out).2.2 | (with_reducible refine Kd.C_alloc ?_ _) | (with_reducible refine Kd.C_drewN ?_ _) | (with_reducible refine Kd.C_drew ?_)))
      (case aB => exact (bw HB.out))
      (case aF => exact (fun k_ hk => Kd.fresh' (Kd.R_lt (by (with_reducible repeat (first | apply Kd.R_alloc | apply Kd.R_drewN | apply Kd.R_drew)); exact HO276.out)) k_ hk))
      (case aO => exact (by (with_reducible repeat (first | apply Kd.R_alloc | apply Kd.R_drewN | apply Kd.R_drew)); exact Kd.R_mono HO_3.out (fun _ hk => hk.2)))
      (case aS => exact (below_size (bw HB.out)))
      (case aL => have := LMc6.out; omega)
      intro v278 w10 ho hb hg hat
      rw [← Ny277.out] at ho
      have n0_ := Aside0.mk (Kd.R_after (ok := (fun _ => True)) (by (with_reducible repeat (first | apply Kd.R_alloc | apply Kd.R_drewN | apply Kd.R_drew)); exact HO276.out) hg hat)
      have n1_ := Aside0.mk (hb)
      have n2_ := Aside0.mk (ho)
      clear HO276
      clear HB
      clear HO_3
      have HO276 := n0_
      have HB := n1_
      have HO279 := n2_
      clear n0_ n1_ n2_
      clear ho hb hg hat
      refine hK.out _ _ ⟨((HB.out.cell (World.block_lt_of_cell? w _ hw272_0)).trans hw272_0), ((HB.out.cell (World.block_lt_of_cell? w _ hw273_0)).trans hw273_0)⟩ (fun hHeld => ?_)
      clear hK K
      refine norm_ (a' := ?_) ?_ ?_
      rotate_left
      ·show Act.put _ (some 26) _ = _
       simp only [Act.put, s1, s2, s3, i64_w, i32_w]
       rfl
      refine pA (i := 15) (N := some 3) (v := ?_) (a' := ?_) #[T_,T_,T_,T_,T_,T_,T_,T_,T_,T_,T_,T_,T_,T_,T_,T_] rfl rfl HT_ (Or.inl ⟨by rfl, ?_⟩) ?_ ?_
      rotate_left
      ·intro w'
       go_simp
       with_reducible rfl
      rotate_left
      ·simp only [Act.put, s1, s2, s3, i64_w, i32_w]
       rfl
      refine done_ (done_of HT_.out (by kernel_rfl)) ?_
      try go_wp2
      go_roundg k1
      case measure => have := HK1.out; omega
      case rel => exact ⟨(y277), (wrap64 (x4_1 + 1)), (by first | rfl | (simp; done) | (simp [*]; done)), H', ⟨by have := HK1.out; omega⟩, ⟨by (with_reducible repeat (first | apply Kd.R_alloc | apply Kd.R_drewN | apply Kd.R_drew)); exact Kd.R_mono HO279.out (fun _ hk => trivial)⟩, ⟨bw HB.out⟩⟩
     ·rw [if_neg c6] at H
      exact absurd H (by simp)
    ·rw [if_neg c5] at H
     exact absurd H (by simp)
   ·rw [if_neg c4] at H
    have c4b0 : decide (x4_1 < (l0.length : Int)) = false := decide_eq_false c4
    clear c4
    replace H := Option.bind_eq_some_iff.mp H
    obtain ⟨t280, A120, H⟩ := H
    try dsimp only at H
    have A12 := Aside0.mk A120
    clear A120
    obtain rfl := Option.some.inj H
    obtain ⟨Ao13, co13, eo13⟩ := Kd.R_slice HO_3.out
    subst eo13
    go_wp2_with (first | ((with_reducible refine gate_callee (f := 55) rfl ?_); refine gL (some 28) Try.func55 #[.slice Ao13 x3_1.length co13] rfl ?_; (with_reducible refine (zelligeref03_Trim.calls k1 (fun k_ => some k_ = (.slice Ao13 x3_1.length co13 : Value).ownBlock) (.slice Ao13 x3_1.length co13) x3_1 t280 w _ ?side1 ?side2 A12.out).mono ?_); (case side1 => repeat (first | (with_reducible first | exact HB.out | apply below_alloc | apply pw_below_drewN | apply below_drew1) | exact HB.out)); (case side2 => exact Kd.R_tight rfl HO_3.out); rintro e w14 ⟨v281, rfl, ho0, hb, hkp⟩; refine ⟨_, rfl, ?_⟩; have n0_ := Aside0.mk (Kd.R_mono (ok' := fun k_ => True) ho0 (fun k_ hk_ => trivial)); have n1_ := Aside0.mk (hb); clear HB; clear HO_3; have HO282 := n0_; have HB := n1_; clear n0_ n1_; (try clear hb); (try clear hkp); (try clear ho0)))
    go_ret
    exact ⟨_, by first | rfl | (simp [*, errW_none, errW_some] <;> rfl), by (with_reducible repeat (first | apply Kd.R_alloc | apply Kd.R_drewN | apply Kd.R_drew)); exact HO282.out, bw HB.out⟩
end Go.Proofs.Ytlkngfidohiepaa.F
end
section
namespace Go.Proofs.Ytlkngfidohiepaa.F
end Go.Proofs.Ytlkngfidohiepaa.F
end
section
namespace Go.Proofs.Ytlkngfidohiepaa.Dig
open Go RowKit YtlkngfidohiepaaW.PrintWords Ytlkngfidohiepaa.F
attribute [local irreducible] val P
theorem rd_nat (l : List Int) (n : Nat) : rd l (n : Int) = l.getD n 0 := by unfold rd; simp
theorem trim_l0 {l : List Int} (hl : Dg l) (hn : l.length ≤ 1000000) : ∀ (n k : Nat), n ≤ l.length → n < k → val (l.drop n) = 0 →
  ∃ r, zelligeref03_Trim.l0 k l (n : Int) = some r ∧ Cn r ∧ val r = val l := by
 intro n
 induction n with
 | zero =>
  intro k _ hk hz
  obtain ⟨k, rfl⟩ : ∃ m, k = m + 1 := ⟨k - 1, by omega⟩
  refine ⟨[], ?_, Cn_nil, ?_⟩
  ·rw [zelligeref03_Trim.l0, if_neg (by omega), if_pos (by omega), if_pos (by omega)]; simp
  ·rw [List.drop_zero] at hz; rw [hz, val]
 | succ n ih =>
  intro k hle hk hz
  obtain ⟨k, rfl⟩ : ∃ m, k = m + 1 := ⟨k - 1, by omega⟩
  have e1 : wrap64 (((n + 1 : Nat) : Int) - 1) = (n : Int) := by rw [w64 (by omega) (by omega)]; omega
  rw [zelligeref03_Trim.l0, if_pos (by omega), e1, if_pos (by omega), if_pos (by omega), rd_nat]
  have e2 := val_drop (l := l) (i := n) (by omega)
  by_cases h0 : l.getD n 0 = 0
  ·rw [if_pos h0]
   exact ih k (by omega) (by omega) (by omega)
  ·rw [if_neg h0, if_pos (by omega), if_pos (by omega)]
   refine ⟨_, rfl, ⟨Dg_take hl _, .inr ?_⟩, ?_⟩
   ·rw [List.length_take, show ((n + 1 : Nat) : Int).toNat = n + 1 from by omega, Nat.min_eq_left hle, take_succ' (by omega), List.getD_eq_getElem?_getD, List.getElem?_append_right (by rw [List.length_take]; omega)]
    rw [List.length_take, Nat.min_eq_left (by omega)]
    simpa using h0
   ·have e3 := val_take_drop l (n + 1) hle
    rw [hz, Int.mul_zero, Int.add_zero] at e3
    rw [show ((n + 1 : Nat) : Int).toNat = n + 1 from by omega, ← e3]
theorem trim_f {l : List Int} (hl : Dg l) (hn : l.length ≤ 1000000) {k : Nat} (hk : l.length < k) : ∃ r, zelligeref03_Trim.f k l = some r ∧ Cn r ∧ val r = val l :=
 trim_l0 hl hn l.length k (Nat.le_refl _) hk (val_drop_all (Nat.le_refl _))
theorem add_l0 {a b : List Int} (ha : Dg a) (hb : Dg b) (na : a.length ≤ 10000) (nb : b.length ≤ 10000) : ∀ (d k i : Nat) (out : List Int) (c T : Int), max a.length b.length - i = d → i ≤ max a.length b.length →
  2 * d + max a.length b.length + 4 < k → out.length = i → Dg out → 0 ≤ c → c ≤ 1 → val out + P i * (c + val (a.drop i) + val (b.drop i)) = T →
  ∃ r, zelligeref03_Add.l0 k a b out c (i : Int) = some r ∧ Cn r ∧ val r = T := by
 intro d
 induction d with
 | zero =>
  intro k i out c T hd hi hk ho hD c0 c1 hT
  obtain ⟨k, rfl⟩ : ∃ m, k = m + 2 := ⟨k - 2, by omega⟩
  rw [zelligeref03_Add.l0, if_neg (by omega), zelligeref03_Add.j1, show decide ((i : Int) < (b.length : Int)) = false from decide_eq_false (by omega), if_neg (by decide), if_pos (by omega)]
  rw [val_drop_all (by omega), val_drop_all (by omega)] at hT
  obtain ⟨r, hr, h1, h2⟩ := trim_f (l := out ++ [c]) (Dg_app.2 ⟨hD, Dg_one c0 (by omega)⟩) (by rw [List.length_append]; simp; omega) (k := k) (by rw [List.length_append]; simp; omega)
  refine ⟨r, by rw [hr]; rfl, h1, ?_⟩
  rw [h2, val_snoc, ho]
  simpa using hT
 | succ d ih =>
  intro k i out c T hd hi hk ho hD c0 c1 hT
  obtain ⟨k, rfl⟩ : ∃ m, k = m + 2 := ⟨k - 2, by omega⟩
  have ei : wrap64 ((i : Int) + 1) = ((i + 1 : Nat) : Int) := by rw [w64 (by omega) (by omega)]; omega
  have gA := Dg_get ha i
  have gB := Dg_get hb i
  have f1 : max a.length b.length - (i + 1) = d := by clear hT; omega
  have f2 : i + 1 ≤ max a.length b.length := by clear hT; omega
  have f3 : 2 * d + max a.length b.length + 4 < k := by clear hT; omega
  have step : ∀ s, 0 ≤ s → s ≤ 131072 → (s = c + a.getD i 0 + b.getD i 0) → (val (a.drop i) = a.getD i 0 + 65536 * val (a.drop (i + 1))) → (val (b.drop i) = b.getD i 0 + 65536 * val (b.drop (i + 1))) →
    ∃ r, zelligeref03_Add.l0 k a b (out ++ [Int.tmod s 65536]) (wrap64 (Int.tdiv s 65536)) ((i + 1 : Nat) : Int) = some r ∧ Cn r ∧ val r = T := by
   intro s s0 s1 es eA eB
   rw [Int.tmod_eq_emod_of_nonneg s0, Int.tdiv_eq_ediv_of_nonneg s0, w64 (x := s / 65536) (by clear hT eA eB; omega) (by clear hT eA eB; omega)]
   have g1 : 0 ≤ s % 65536 := by clear hT eA eB; omega
   have g2 : s % 65536 < 65536 := by clear hT eA eB; omega
   have g3 : 0 ≤ s / 65536 := by clear hT eA eB; omega
   have g4 : s / 65536 ≤ 1 := by clear hT eA eB; omega
   have g5 : (out ++ [s % 65536]).length = i + 1 := by rw [List.length_append, ho]; rfl
   refine ih k (i + 1) _ _ T f1 f2 f3 g5 (Dg_app.2 ⟨hD, Dg_one g1 g2⟩) g3 g4 ?_
   rw [val_snoc, ho, P]
   have e : s = s % 65536 + 65536 * (s / 65536) := by omega
   rw [eA, eB] at hT
   generalize s % 65536 = m at *
   generalize s / 65536 = q at *
   generalize P i = p at *
   grind
  clear hT
  have eA : val (a.drop i) = a.getD i 0 + 65536 * val (a.drop (i + 1)) := by
   by_cases h : i < a.length
   ·exact val_drop h
   ·rw [val_drop_all (by omega), val_drop_all (by omega), List.getD_eq_getElem?_getD, List.getElem?_eq_none (by omega)]; rfl
  have eB : val (b.drop i) = b.getD i 0 + 65536 * val (b.drop (i + 1)) := by
   by_cases h : i < b.length
   ·exact val_drop h
   ·rw [val_drop_all (by omega), val_drop_all (by omega), List.getD_eq_getElem?_getD, List.getElem?_eq_none (by omega)]; rfl
  by_cases h1 : i < a.length
  ·rw [zelligeref03_Add.l0, if_pos (by omega), zelligeref03_Add.j1, if_pos rfl, if_pos (by omega), if_pos (by omega), rd_nat, rd_nat, ei]
   by_cases h2 : i < b.length
   ·rw [if_pos (by omega), if_pos (by omega), w64 (x := c + a.getD i 0) (by omega) (by omega), w64 (x := c + a.getD i 0 + b.getD i 0) (by omega) (by omega)]
    exact step _ (by omega) (by omega) rfl eA eB
   ·have z : b.getD i 0 = 0 := by rw [List.getD_eq_getElem?_getD, List.getElem?_eq_none (by omega)]; rfl
    rw [if_neg (by omega), if_pos (by omega), w64 (x := c + a.getD i 0) (by omega) (by omega)]
    exact step _ (by omega) (by omega) (by omega) eA eB
  ·have z : a.getD i 0 = 0 := by rw [List.getD_eq_getElem?_getD, List.getElem?_eq_none (by omega)]; rfl
   have h2 : i < b.length := by omega
   rw [zelligeref03_Add.l0, if_neg (by omega), show decide ((i : Int) < (b.length : Int)) = true from decide_eq_true (by omega), zelligeref03_Add.j1, if_pos rfl, if_neg (by omega), if_pos (by omega), if_pos (by omega), if_pos (by omega), rd_nat, ei, w64 (x := c + b.getD i 0) (by omega) (by omega)]
   exact step _ (by omega) (by omega) (by omega) eA eB
theorem add_f (a b : Nat) (na : (dig a).length ≤ 10000) (nb : (dig b).length ≤ 10000) {k : Nat} (hk : 40000 < k) : zelligeref03_Add.f k (dig a) (dig b) = some (dig (a + b)) := by
 obtain ⟨r, hr, h1, h2⟩ := add_l0 (dig_Dg a) (dig_Dg b) na nb _ k 0 [] 0 _ rfl (by omega) (by omega) rfl Dg_nil (by omega) (by omega) rfl
 unfold zelligeref03_Add.f
 rw [show zelligeref03_Add.l0 k (dig a) (dig b) [] 0 0 = some r from hr]
 congr 1
 refine eq_dig_of h1 ?_
 rw [h2]
 simp only [val, P, List.drop_zero, dig_val]
 omega
theorem cmp_l0 {a b : List Int} (ha : Dg a) (hb : Dg b) (hl : a.length = b.length) (na : a.length ≤ 10000) : ∀ (n k : Nat), n ≤ a.length → n + 1 < k → val (a.drop n) = val (b.drop n) →
  zelligeref03_Cmp.l0 k a b ((n : Int) - 1) = some (if val a < val b then -1 else if val a > val b then 1 else 0) := by
 intro n
 induction n with
 | zero =>
  intro k _ hk he
  obtain ⟨k, rfl⟩ : ∃ m, k = m + 1 := ⟨k - 1, by omega⟩
  rw [zelligeref03_Cmp.l0, if_neg (by omega)]
  rw [List.drop_zero, List.drop_zero] at he
  rw [if_neg (by omega), if_neg (by omega)]
 | succ n ih =>
  intro k hn hk he
  obtain ⟨k, rfl⟩ : ∃ m, k = m + 1 := ⟨k - 1, by omega⟩
  have e0 : (((n + 1 : Nat) : Int) - 1) = (n : Int) := by omega
  rw [e0, zelligeref03_Cmp.l0, if_pos (by omega), if_pos (by omega), if_pos (by omega), if_pos (by omega), rd_nat, rd_nat, w64 (x := (n : Int) - 1) (by omega) (by omega)]
  have gA := Dg_get ha n
  have gB := Dg_get hb n
  have eA := val_drop (l := a) (i := n) (by omega)
  have eB := val_drop (l := b) (i := n) (by omega)
  have tA := val_take_drop a n (by omega)
  have tB := val_take_drop b n (by omega)
  have lA := val_lt (Dg_take ha n)
  have lB := val_lt (Dg_take hb n)
  rw [List.length_take, Nat.min_eq_left (by omega)] at lA lB
  have zA := val_nonneg (Dg_take ha n)
  have zB := val_nonneg (Dg_take hb n)
  have hP := P_pos n
  by_cases h1 : a.getD n 0 < b.getD n 0
  ·rw [if_pos h1]
   have h3 : P n * (val (b.drop n) - val (a.drop n)) ≥ P n * 1 := Int.mul_le_mul_of_nonneg_left (by omega) (by omega)
   rw [Int.mul_sub] at h3
   rw [if_pos (by omega)]
  ·rw [if_neg h1]
   by_cases h2 : a.getD n 0 > b.getD n 0
   ·rw [if_pos h2]
    have h3 : P n * (val (a.drop n) - val (b.drop n)) ≥ P n * 1 := Int.mul_le_mul_of_nonneg_left (by omega) (by omega)
    rw [Int.mul_sub] at h3
    rw [if_neg (by omega), if_pos (by omega)]
   ·rw [if_neg h2]
    exact ih k (by omega) (by omega) (by omega)
theorem cmp_f (a b : Nat) (na : (dig a).length ≤ 10000) {k : Nat} (hk : 40000 < k) : zelligeref03_Cmp.f k (dig a) (dig b) = some (if a < b then -1 else if a > b then 1 else 0) := by
 unfold zelligeref03_Cmp.f
 by_cases h1 : (dig a).length < (dig b).length
 ·rw [if_pos (by omega)]
  have := Cn_longer (dig_Dg a) (dig_Cn b) h1
  rw [dig_val, dig_val] at this
  rw [if_pos (by omega)]
 ·rw [if_neg (by omega)]
  by_cases h2 : (dig b).length < (dig a).length
  ·rw [if_pos (by omega)]
   have := Cn_longer (dig_Dg b) (dig_Cn a) h2
   rw [dig_val, dig_val] at this
   rw [if_neg (by omega), if_pos (by omega)]
  ·rw [if_neg (by omega), w64 (by omega) (by omega), cmp_l0 (dig_Dg a) (dig_Dg b) (by omega) na (dig a).length k (Nat.le_refl _) (by omega) (by rw [val_drop_all (Nat.le_refl _), val_drop_all (by omega)]), dig_val, dig_val]
   congr 1
   by_cases h3 : a < b
   ·rw [if_pos h3, if_pos (by omega)]
   ·rw [if_neg h3, if_neg (by omega)]
    by_cases h4 : a > b
    ·rw [if_pos h4, if_pos (by omega)]
    ·rw [if_neg h4, if_neg (by omega)]
theorem sub_l0 {a b : List Int} (ha : Dg a) (hb : Dg b) (na : a.length ≤ 10000) (nb : b.length ≤ a.length) : ∀ (d k i : Nat) (out : List Int) (c T : Int), a.length - i = d → i ≤ a.length →
  d + a.length + 4 < k → out.length = i → Dg out → 0 ≤ c → c ≤ 1 → val out + P i * (val (a.drop i) - val (b.drop i) - c) = T → 0 ≤ T →
  ∃ r, zelligeref03_Sub.l0 k a b out c (i : Int) = some r ∧ Cn r ∧ val r = T := by
 intro d
 induction d with
 | zero =>
  intro k i out c T hd hi hk ho hD c0 c1 hT hT0
  obtain ⟨k, rfl⟩ : ∃ m, k = m + 1 := ⟨k - 1, by omega⟩
  rw [zelligeref03_Sub.l0, if_neg (by omega)]
  rw [val_drop_all (by omega), val_drop_all (by omega)] at hT
  obtain ⟨r, hr, h1, h2⟩ := trim_f (l := out) hD (by omega) (k := k) (by omega)
  refine ⟨r, by rw [hr]; rfl, h1, ?_⟩
  rw [h2]
  have hc : c = 0 := by
   by_cases h : c = 0
   ·exact h
   ·have hv := val_lt hD
    rw [ho] at hv
    have : c = 1 := by omega
    subst this
    omega
  subst hc
  omega
 | succ d ih =>
  intro k i out c T hd hi hk ho hD c0 c1 hT hT0
  obtain ⟨k, rfl⟩ : ∃ m, k = m + 1 := ⟨k - 1, by omega⟩
  have ei : wrap64 ((i : Int) + 1) = ((i + 1 : Nat) : Int) := by rw [w64 (by omega) (by omega)]; omega
  have gA := Dg_get ha i
  have gB := Dg_get hb i
  have f0 : i < a.length := by clear hT; omega
  have f1 : a.length - (i + 1) = d := by clear hT; omega
  have f3 : d + a.length + 4 < k := by clear hT; omega
  have eA := val_drop (l := a) (i := i) f0
  have eB : val (b.drop i) = b.getD i 0 + 65536 * val (b.drop (i + 1)) := by
   clear hT eA
   by_cases h : i < b.length
   ·exact val_drop h
   ·rw [val_drop_all (by omega), val_drop_all (by omega), List.getD_eq_getElem?_getD, List.getElem?_eq_none (by omega)]; rfl
  have step : ∀ m q, 0 ≤ m → m < 65536 → 0 ≤ q → q ≤ 1 → a.getD i 0 - c - b.getD i 0 = m - 65536 * q → ∃ r, zelligeref03_Sub.l0 k a b (out ++ [m]) q ((i + 1 : Nat) : Int) = some r ∧ Cn r ∧ val r = T := by
   intro m q m0 m1 q0 q1 e
   have g5 : (out ++ [m]).length = i + 1 := by rw [List.length_append, ho]; rfl
   refine ih k (i + 1) _ _ T f1 f0 f3 g5 (Dg_app.2 ⟨hD, Dg_one m0 m1⟩) q0 q1 ?_ hT0
   rw [val_snoc, ho, P]
   rw [eA, eB] at hT
   generalize P i = p at *
   grind
  clear hT eA eB
  rw [zelligeref03_Sub.l0, if_pos (show (i : Int) < (a.length : Int) by omega), if_pos (by omega), rd_nat, rd_nat, ei, w64 (x := a.getD i 0 - c) (by omega) (by omega)]
  by_cases h2 : i < b.length
  ·rw [if_pos (by omega), w64 (x := a.getD i 0 - c - b.getD i 0) (by omega) (by omega)]
   by_cases h3 : a.getD i 0 - c - b.getD i 0 < 0
   ·rw [if_pos h3, if_pos (by omega), w64 (by omega) (by omega)]
    exact step _ _ (by omega) (by omega) (by omega) (by omega) (by omega)
   ·rw [if_neg h3, if_pos (by omega)]
    exact step _ _ (by omega) (by omega) (by omega) (by omega) (by omega)
  ·have z : b.getD i 0 = 0 := by rw [List.getD_eq_getElem?_getD, List.getElem?_eq_none (by omega)]; rfl
   rw [if_neg (by omega)]
   by_cases h3 : a.getD i 0 - c < 0
   ·rw [if_pos h3, if_pos (by omega), w64 (by omega) (by omega)]
    exact step _ _ (by omega) (by omega) (by omega) (by omega) (by omega)
   ·rw [if_neg h3, if_pos (by omega)]
    exact step _ _ (by omega) (by omega) (by omega) (by omega) (by omega)
theorem sub_f (a b : Nat) (h : b ≤ a) (na : (dig a).length ≤ 10000) {k : Nat} (hk : 40000 < k) : zelligeref03_Sub.f k (dig a) (dig b) = some (dig (a - b)) := by
 obtain ⟨r, hr, h1, h2⟩ := sub_l0 (dig_Dg a) (dig_Dg b) na (dig_len_mono h) _ k 0 [] 0 _ rfl (by omega) (by omega) rfl Dg_nil (by omega) (by omega) rfl (by simp only [val, P, List.drop_zero, dig_val]; omega)
 unfold zelligeref03_Sub.f
 rw [show zelligeref03_Sub.l0 k (dig a) (dig b) [] 0 0 = some r from hr]
 congr 1
 refine eq_dig_of h1 ?_
 rw [h2]
 simp only [val, P, List.drop_zero, dig_val]
 omega
theorem of_two (x y : Int) (x0 : 0 ≤ x) (x1 : x < 4294967296) (y0 : 0 ≤ y) (y1 : y < 4294967296) {k : Nat} (hk : 20 < k) : zelligeref03_Of.f k [x, y] = some (dig (x + 4294967296 * y).toNat) := by
 obtain ⟨k, rfl⟩ : ∃ m, k = m + 3 := ⟨k - 3, by omega⟩
 unfold zelligeref03_Of.f
 have t1 : ∀ z : Int, 0 ≤ z → z < 4294967296 → wrap64 (Int.tmod z 65536) = z % 65536 ∧ wrap64 (IntKind.u32.wrap (Int.tdiv z 65536)) = z / 65536 := by
  intro z z0 z1
  rw [Int.tmod_eq_emod_of_nonneg z0, Int.tdiv_eq_ediv_of_nonneg z0]
  refine ⟨w64 (by omega) (by omega), ?_⟩
  have : IntKind.u32.wrap (z / 65536) = z / 65536 := by simp [IntKind.wrap, IntKind.bits, IntKind.signed]; omega
  rw [this, w64 (by omega) (by omega)]
 have r0 : rd [x, y] 0 = x := rfl
 have r1 : rd [x, y] 1 = y := rfl
 have e0 : wrap64 ((0 : Int) + 1) = 1 := w64 (by omega) (by omega)
 have e1 : wrap64 ((1 : Int) + 1) = 2 := w64 (by omega) (by omega)
 rw [zelligeref03_Of.l0, if_pos (by simp), if_pos (by omega), r0, (t1 x x0 x1).1, (t1 x x0 x1).2, e0]
 simp only [Option.bind_some]
 rw [if_pos (by simp), zelligeref03_Of.l0, if_pos (by simp), if_pos (by omega), r1, (t1 y y0 y1).1, (t1 y y0 y1).2, e1]
 simp only [Option.bind_some]
 rw [if_pos (by simp), zelligeref03_Of.l0, if_neg (by simp)]
 obtain ⟨r, hr, h1, h2⟩ := trim_f (l := ([] ++ [x % 65536, x / 65536]) ++ [y % 65536, y / 65536]) (by
  intro d hd
  simp at hd
  rcases hd with rfl | rfl | rfl | rfl <;> omega) (by simp) (k := k) (by simp; omega)
 rw [hr]
 simp only [Option.bind_some]
 congr 1
 refine eq_dig_of h1 ?_
 rw [h2]
 simp only [List.nil_append, List.cons_append, val]
 omega
end Go.Proofs.Ytlkngfidohiepaa.Dig
end
