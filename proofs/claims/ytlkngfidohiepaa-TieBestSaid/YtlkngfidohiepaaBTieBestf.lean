/- TieBest: own texts in one (part 6 of 6): contracts of the functions that the law reaches. -/
import Derived.Test.YtlkngfidohiepaaBTieBeste

section
namespace Go.Proofs.Ytlkngfidohiepaa.F
open RowKit YtlkngfidohiepaaW.PrintWords YtlkngfidohiepaaW.PrintLast YtlkngfidohiepaaW.PrintMore
set_option linter.unusedVariables false
set_option linter.unusedSimpArgs false
mutual
def zelligelaw08_TieBest.l0 : Nat → List (S23) → Int → Bool → Int → Int → Int → Int → Int → Option (Bool)
 | 0, _, _, _, _, _, _, _, _ => none
 | k + 1, x2, x7, x8, x9, x591000, x591001, x592000, x592001 => if x9 < (x2.length : Int) then (if x8 = true then (zelligelaw08_TieBest.l0 k x2 x7 true (wrap64 (x9 + 1)) x591000 x591001 x592000 x592001) else (if 0 ≤ x9 then ((zelligeref08_Left.f x591000 x591001 x592000 x592001 ((rd_T23 x2 x9).f0) ((rd_T23 x2 x9).f1)).bind fun t610 => (zelligelaw08_TieBest.l0 k x2 x7 t610 (wrap64 (x9 + 1)) x591000 x591001 x592000 x592001)) else (none))) else ((zelligeref08_Best.f k x591000 x591001 x592000 x592001 x2).bind fun t611 => (if x7 = t611 then (if ((decide (x7 ≥ 0)) == x8) = true then ((zelligelaw08_lives.f k).bind fun t612 => (some t612)) else (some false)) else (some false)))
def zelligelaw08_TieBest.l1 : Nat → List (S23) → Int → Bool → Int → Int → Int → Int → Int → Option (Bool)
 | 0, _, _, _, _, _, _, _, _ => none
 | k + 1, x2, x7, x8, x9, x591000, x591001, x592000, x592001 => if x9 < (x2.length : Int) then (if x8 = true then (zelligelaw08_TieBest.l1 k x2 x7 true (wrap64 (x9 + 1)) x591000 x591001 x592000 x592001) else (if 0 ≤ x9 then ((zelligeref08_Left.f x591000 x591001 x592000 x592001 ((rd_T23 x2 x9).f0) ((rd_T23 x2 x9).f1)).bind fun t627 => (zelligelaw08_TieBest.l1 k x2 x7 t627 (wrap64 (x9 + 1)) x591000 x591001 x592000 x592001)) else (none))) else ((zelligeref08_Best.f k x591000 x591001 x592000 x592001 x2).bind fun t628 => (if x7 = t628 then (if ((decide (x7 ≥ 0)) == x8) = true then ((zelligelaw08_lives.f k).bind fun t629 => (some t629)) else (some false)) else (some false)))
end
def zelligelaw08_TieBest.f (k : Nat) (a0_0 : Int) (a0_1 : Int) (a1_0 : Int) (a1_1 : Int) (l2 : List (S23)) : Option (Bool) := if (l2.length : Int) > 12 then (if 12 ≤ (l2.length : Int) then ((some (l2.take 12 : List (S23))).bind fun y592 => ((some (([] : List (S23)) : List (S23))).bind fun y596 => (if y596.length + y592.length < 8796093022208 then ((some (y596 ++ y592 : List (S23))).bind fun y599 => ((some (([] : List (S23)) : List (S23))).bind fun y602 => (if y602.length + y599.length < 8796093022208 then ((tie_Best.f k a0_0 a0_1 a1_0 a1_1 (y602 ++ y599)).bind fun t608 => (zelligelaw08_TieBest.l0 k y599 t608 false 0 a0_0 a0_1 a1_0 a1_1)) else (none)))) else (none)))) else (none)) else ((some (([] : List (S23)) : List (S23))).bind fun y613 => (if y613.length + l2.length < 8796093022208 then ((some (y613 ++ l2 : List (S23))).bind fun y616 => ((some (([] : List (S23)) : List (S23))).bind fun y619 => (if y619.length + y616.length < 8796093022208 then ((tie_Best.f k a0_0 a0_1 a1_0 a1_1 (y619 ++ y616)).bind fun t625 => (zelligelaw08_TieBest.l1 k y616 t625 false 0 a0_0 a0_1 a1_0 a1_1)) else (none)))) else (none)))
theorem zelligelaw08_TieBest.mono_l : ∀ k, (∀ y0 y1 y2 y3 y4 y5 y6 y7, LeO (zelligelaw08_TieBest.l0 k y0 y1 y2 y3 y4 y5 y6 y7) (zelligelaw08_TieBest.l0 (k + 1) y0 y1 y2 y3 y4 y5 y6 y7)) ∧ (∀ y0 y1 y2 y3 y4 y5 y6 y7, LeO (zelligelaw08_TieBest.l1 k y0 y1 y2 y3 y4 y5 y6 y7) (zelligelaw08_TieBest.l1 (k + 1) y0 y1 y2 y3 y4 y5 y6 y7))
 | 0 => ⟨fun _ _ _ _ _ _ _ _ r h => by simp [zelligelaw08_TieBest.l0] at h, fun _ _ _ _ _ _ _ _ r h => by simp [zelligelaw08_TieBest.l1] at h⟩
 | k + 1 => by
  obtain ⟨ih0, ih1⟩ := zelligelaw08_TieBest.mono_l k
  refine ⟨?_, ?_⟩
  ·intro y0 y1 y2 y3 y4 y5 y6 y7
   unfold zelligelaw08_TieBest.l0
   repeat' first
   | (with_reducible exact ih0 _ _ _ _ _ _ _ _)
   | (with_reducible exact ih1 _ _ _ _ _ _ _ _)
   | (with_reducible exact tie_Best.mono _ _ _ _ _ _)
   | (with_reducible exact zelligelaw08_lives.mono _)
   | (with_reducible exact zelligeref08_Best.mono _ _ _ _ _ _)
   | (with_reducible exact LeO.refl _)
   | (with_reducible exact LeO.none _)
   | (with_reducible refine LeO.ite ?_ ?_)
   | (with_reducible refine LeO.bind ?_ (fun _ => ?_))
   | exact ih0 _ _ _ _ _ _ _ _
   | exact ih1 _ _ _ _ _ _ _ _
   | exact tie_Best.mono _ _ _ _ _ _
   | exact zelligelaw08_lives.mono _
   | exact zelligeref08_Best.mono _ _ _ _ _ _
   | exact LeO.none _
   | refine LeO.ite ?_ ?_
   | refine LeO.bind ?_ (fun _ => ?_)
  ·intro y0 y1 y2 y3 y4 y5 y6 y7
   unfold zelligelaw08_TieBest.l1
   repeat' first
   | (with_reducible exact ih0 _ _ _ _ _ _ _ _)
   | (with_reducible exact ih1 _ _ _ _ _ _ _ _)
   | (with_reducible exact tie_Best.mono _ _ _ _ _ _)
   | (with_reducible exact zelligelaw08_lives.mono _)
   | (with_reducible exact zelligeref08_Best.mono _ _ _ _ _ _)
   | (with_reducible exact LeO.refl _)
   | (with_reducible exact LeO.none _)
   | (with_reducible refine LeO.ite ?_ ?_)
   | (with_reducible refine LeO.bind ?_ (fun _ => ?_))
   | exact ih0 _ _ _ _ _ _ _ _
   | exact ih1 _ _ _ _ _ _ _ _
   | exact tie_Best.mono _ _ _ _ _ _
   | exact zelligelaw08_lives.mono _
   | exact zelligeref08_Best.mono _ _ _ _ _ _
   | exact LeO.none _
   | refine LeO.ite ?_ ?_
   | refine LeO.bind ?_ (fun _ => ?_)
theorem zelligelaw08_TieBest.mono : ∀ a0 a1 a2 a3 a4 k, LeO (zelligelaw08_TieBest.f k a0 a1 a2 a3 a4) (zelligelaw08_TieBest.f (k + 1) a0 a1 a2 a3 a4) := by
 intro a0 a1 a2 a3 a4 k
 obtain ⟨ih0, ih1⟩ := zelligelaw08_TieBest.mono_l k
 unfold zelligelaw08_TieBest.f
 repeat' first
   | (with_reducible exact ih0 _ _ _ _ _ _ _ _)
   | (with_reducible exact ih1 _ _ _ _ _ _ _ _)
   | (with_reducible exact tie_Best.mono _ _ _ _ _ _)
   | (with_reducible exact zelligelaw08_lives.mono _)
   | (with_reducible exact zelligeref08_Best.mono _ _ _ _ _ _)
   | (with_reducible exact LeO.refl _)
   | (with_reducible exact LeO.none _)
   | (with_reducible refine LeO.ite ?_ ?_)
   | (with_reducible refine LeO.bind ?_ (fun _ => ?_))
   | exact ih0 _ _ _ _ _ _ _ _
   | exact ih1 _ _ _ _ _ _ _ _
   | exact tie_Best.mono _ _ _ _ _ _
   | exact zelligelaw08_lives.mono _
   | exact zelligeref08_Best.mono _ _ _ _ _ _
   | exact LeO.none _
   | refine LeO.ite ?_ ?_
   | refine LeO.bind ?_ (fun _ => ?_)
def zelligelaw08_TieBest.T9 : Bool × List (List Nat × List Nat) := (true, [([], []), ([0], [0]), ([1], [1]), ([1], [1]), ([1], [1]), ([1], [1]), ([4, 5, 1], [1, 4, 5]), ([6, 1], [1, 6]), ([2, 3, 7, 1, 1], [1, 2, 3, 7]), ([1, 8], [1, 8]), ([9, 8, 0, 1, 2, 3, 4, 5, 6, 7, 8, 9], [0, 9])])
def zelligelaw08_TieBest.B9 : List Nat := [0, 1, 3, 3, 3, 3, 51, 115, 255, 511, 1023]
theorem zelligelaw08_TieBest.tab9 : rtab .any (opsOf Try.f7 9) = zelligelaw08_TieBest.T9 := by kernel_rfl
theorem zelligelaw08_TieBest.bits9 : waitsOk zelligelaw08_TieBest.T9.2 zelligelaw08_TieBest.B9 = true := by kernel_rfl
set_option maxHeartbeats 8000000 in
set_option maxRecDepth 100000 in
theorem zelligelaw08_TieBest.calls (k : Nat) (a0_0 : Int) (a0_1 : Int) (a1_0 : Int) (a1_1 : Int) (A2 : Option Addr) (c2 : Nat) (l2 : List (S23)) (w : World) (hr2 : Kd.C k23 w A2 l2.length l2) (hc2 : l2.length ≤ c2) (h : zelligelaw08_TieBest.f k a0_0 a0_1 a1_0 a1_1 l2 = some true) :
  Calls Try.prog 7 #[.agg #[.int .i64 a0_0, .int .i64 a0_1], .agg #[.int .i64 a1_0, .int .i64 a1_1], .slice A2 l2.length c2] w fun e w' => e = .returned (.bool true) ∧ Below w.heap.size w w' := by
 have hu23 := Try.underlying23
 have HR2 := Aside0.mk hr2
 have HC2 := Aside0.mk hc2
 clear hr2 hc2
 have HB := Aside0.mk (Below.refl w.heap.size w)
 have H : (if (l2.length : Int) > 12 then (if 12 ≤ (l2.length : Int) then ((some (l2.take 12 : List (S23))).bind fun y592 => ((some (([] : List (S23)) : List (S23))).bind fun y596 => (if y596.length + y592.length < 8796093022208 then ((some (y596 ++ y592 : List (S23))).bind fun y599 => ((some (([] : List (S23)) : List (S23))).bind fun y602 => (if y602.length + y599.length < 8796093022208 then ((tie_Best.f k a0_0 a0_1 a1_0 a1_1 (y602 ++ y599)).bind fun t608 => (zelligelaw08_TieBest.l0 k y599 t608 false 0 a0_0 a0_1 a1_0 a1_1)) else (none)))) else (none)))) else (none)) else ((some (([] : List (S23)) : List (S23))).bind fun y613 => (if y613.length + l2.length < 8796093022208 then ((some (y613 ++ l2 : List (S23))).bind fun y616 => ((some (([] : List (S23)) : List (S23))).bind fun y619 => (if y619.length + y616.length < 8796093022208 then ((tie_Best.f k a0_0 a0_1 a1_0 a1_1 (y619 ++ y616)).bind fun t625 => (zelligelaw08_TieBest.l1 k y616 t625 false 0 a0_0 a0_1 a1_0 a1_1)) else (none)))) else (none)))) = some true := h
 clear h
 by_cases c4 : (l2.length : Int) > 12
 ·rw [if_pos c4] at H
  have c4b0 : decide (12 < (l2.length : Int)) = true := decide_eq_true c4
  have c4b1 : decide (12 < l2.length) = true := decide_eq_true (by omega)
  clear c4
  by_cases c5 : 12 ≤ (l2.length : Int)
  ·rw [if_pos c5] at H
   have c5b0 := eq_true c5
   have c5b1 : decide (12 ≤ (l2.length : Int)) = true := decide_eq_true c5
   clear c5
   obtain ⟨y592, hy592⟩ : ∃ y_ : List (S23), y_ = (l2.take 12) := ⟨_, rfl⟩
   replace H : ((some (([] : List (S23)) : List (S23))).bind fun y596 => (if y596.length + y592.length < 8796093022208 then ((some (y596 ++ y592 : List (S23))).bind fun y599 => ((some (([] : List (S23)) : List (S23))).bind fun y602 => (if y602.length + y599.length < 8796093022208 then ((tie_Best.f k a0_0 a0_1 a1_0 a1_1 (y602 ++ y599)).bind fun t608 => (zelligelaw08_TieBest.l0 k y599 t608 false 0 a0_0 a0_1 a1_0 a1_1)) else (none)))) else (none))) = some true := by first | (rw [hy592]; with_reducible exact H) | (have H2_ := (Option.bind_some _ _).symm.trans H; rw [hy592]; with_reducible exact H2_) | (have H2_ := (Option.bind_some _ _).symm.trans H; with_reducible exact H2_) | with_reducible exact H | (rw [hy592]; exact H) | exact H
   have Ny592 := Aside0.mk hy592
   clear hy592
   obtain ⟨y596, hy596⟩ : ∃ y_ : List (S23), y_ = (([] : List (S23))) := ⟨_, rfl⟩
   replace H : (if y596.length + y592.length < 8796093022208 then ((some (y596 ++ y592 : List (S23))).bind fun y599 => ((some (([] : List (S23)) : List (S23))).bind fun y602 => (if y602.length + y599.length < 8796093022208 then ((tie_Best.f k a0_0 a0_1 a1_0 a1_1 (y602 ++ y599)).bind fun t608 => (zelligelaw08_TieBest.l0 k y599 t608 false 0 a0_0 a0_1 a1_0 a1_1)) else (none)))) else (none)) = some true := by first | (rw [hy596]; with_reducible exact H) | (have H2_ := (Option.bind_some _ _).symm.trans H; rw [hy596]; with_reducible exact H2_) | (have H2_ := (Option.bind_some _ _).symm.trans H; with_reducible exact H2_) | with_reducible exact H | (rw [hy596]; exact H) | exact H
   have Ny596 := Aside0.mk hy596
   clear hy596
   by_cases c6 : y596.length + y592.length < 8796093022208
   ·rw [if_pos c6] at H
    have LMc6 := Aside0.mk c6
    clear c6
    obtain ⟨y599, hy599⟩ : ∃ y_ : List (S23), y_ = (y596 ++ y592) := ⟨_, rfl⟩
    replace H : ((some (([] : List (S23)) : List (S23))).bind fun y602 => (if y602.length + y599.length < 8796093022208 then ((tie_Best.f k a0_0 a0_1 a1_0 a1_1 (y602 ++ y599)).bind fun t608 => (zelligelaw08_TieBest.l0 k y599 t608 false 0 a0_0 a0_1 a1_0 a1_1)) else (none))) = some true := by first | (rw [hy599]; with_reducible exact H) | (have H2_ := (Option.bind_some _ _).symm.trans H; rw [hy599]; with_reducible exact H2_) | (have H2_ := (Option.bind_some _ _).symm.trans H; with_reducible exact H2_) | with_reducible exact H | (rw [hy599]; exact H) | exact H
    have Ny599 := Aside0.mk hy599
    clear hy599
    obtain ⟨y602, hy602⟩ : ∃ y_ : List (S23), y_ = (([] : List (S23))) := ⟨_, rfl⟩
    replace H : (if y602.length + y599.length < 8796093022208 then ((tie_Best.f k a0_0 a0_1 a1_0 a1_1 (y602 ++ y599)).bind fun t608 => (zelligelaw08_TieBest.l0 k y599 t608 false 0 a0_0 a0_1 a1_0 a1_1)) else (none)) = some true := by first | (rw [hy602]; with_reducible exact H) | (have H2_ := (Option.bind_some _ _).symm.trans H; rw [hy602]; with_reducible exact H2_) | (have H2_ := (Option.bind_some _ _).symm.trans H; with_reducible exact H2_) | with_reducible exact H | (rw [hy602]; exact H) | exact H
    have Ny602 := Aside0.mk hy602
    clear hy602
    by_cases c7 : y602.length + y599.length < 8796093022208
    ·rw [if_pos c7] at H
     have LMc7 := Aside0.mk c7
     clear c7
     obtain ⟨y605, hy605⟩ : ∃ y_ : List (S23), y_ = (y602 ++ y599) := ⟨_, rfl⟩
     replace H : ((tie_Best.f k a0_0 a0_1 a1_0 a1_1 y605).bind fun t608 => (zelligelaw08_TieBest.l0 k y599 t608 false 0 a0_0 a0_1 a1_0 a1_1)) = some true := by first | (rw [hy605]; with_reducible exact H) | (have H2_ := (Option.bind_some _ _).symm.trans H; rw [hy605]; with_reducible exact H2_) | (have H2_ := (Option.bind_some _ _).symm.trans H; with_reducible exact H2_) | with_reducible exact H | (rw [hy605]; exact H) | exact H
     have Ny605 := Aside0.mk hy605
     clear hy605
     replace H := Option.bind_eq_some_iff.mp H
     obtain ⟨t608, A80, H⟩ := H
     try dsimp only at H
     have A8 := Aside0.mk A80
     clear A80
     have H' := Aside0.mk H
     clear H
     go_enter Try.func7, Try.ntmps7
     try go_wp2_with (first | ((with_reducible refine gate_dst (N := 3) rfl ?_); refine bx 3 #[.int .i64 a0_0, .int .i64 a0_1] 23 ?_; intro gb590 hg w9 hbox hb; have BK590 := Aside0.mk hbox; have GW590 := u3 hg HB; have GE590 := u3 hg HB; replace HB := u2 HB hb; clear hb hbox hg) | ((with_reducible refine gate_dst (N := 4) rfl ?_); refine bx 4 #[.int .i64 a1_0, .int .i64 a1_1] 23 ?_; intro gb591 hg w10 hbox hb; have BK591 := Aside0.mk hbox; have GW591 := u3 hg HB; have GE591 := u3 hg HB; have NB590_591 := u4 hg BK590; have NB591_590 := u5 hg BK590; replace BK590 := u1 BK590 hb; replace HB := u2 HB hb; clear hb hbox hg; have q11 : (12 : Int) ≤ ((l2.length : Int) : Int) := dt_; obtain ⟨i011, hi011, _, hsz11, _⟩ := info_parts info23; have hroom11 : l2.length ≤ c2 := HC2.out; have hC11 : Kd.C k23 _ A2 l2.length l2 := HR2.out; have hcut11 := cut_to (P := Try.prog) 32 23 .i64 Try.underlying32 hi011 A2 l2.length c2 12 (by omega) q11 hroom11; have hr11 := Kd.C_take (m := 12) hC11 (by omega); have hy11 : y592.length = (12 : Int).toNat := (by rw [Ny592.out, List.length_take]; omega); rw [← Ny592.out] at hr11; rw [← hy11] at hcut11; have HR595 := Aside0.mk hr11; have HC595 := Aside0.mk (show y592.length ≤ c2 from by omega); clear hr11 hC11 hroom11 hi011 hsz11; have KY11 := Aside0.mk hy11; clear hy11; replace q11 := eq_true q11) | ((with_reducible refine gate_dst (N := 15) rfl ?_); refine Kd.R_lit k23 _ 23 ?hg (N := 15) ?hd (xs := ([] : List (S23))) (inner := []) (ok := fun _ => True) (okp := fun _ => True) ?hr ?hp (fun _ hk => hk) trivial (Below.refl _ _) (Nat.le_refl _) (by simp) ?_; (case hd => rfl); (case hg => rfl); (case hr => first | (go_simp; done) | (go_simp; rfl)); (case hp => exact (Reps.none _ _)); intro v597 w12 ho13 hb hg_ hnew_; clear hg_ hnew_; (first | rw [← Ny596.out] at ho13 | (simp only [Int.reduceToNat] at ho13; rw [← Ny596.out] at ho13)); have n0_ := Aside0.mk (Kd.R_lower (Kd.R_newB (Kd.R_newB ho13 (bk BK590.out)) (bk BK591.out)) (below_size (bw HB.out))); have n1_ := u1 BK590 hb; have n2_ := u1 BK591 hb; have n3_ := u2 HB hb; clear BK590; clear BK591; clear HB; have HO598 := n0_; have BK590 := n1_; have BK591 := n2_; have HB := n3_; clear n0_ n1_ n2_ n3_; clear hb ho13) | ((with_reducible refine gate_builtin (b := .append) (xs := #[.tmp 15, .tmp 16]) rfl ?_); at_builtin; refine Kd.R_append_rows k23 (w0 := w) w.heap.size rfl (.tmp 15) (.tmp 16) 32 23 (.agg #[(.int .i64 0), (.int .i64 0)]) 16 rfl Try.underlying32 info23 rfl (by decide) (by omega) v597 y596 y592 _ _ _ (fun k_ => k_ ≠ gb590 ∧ k_ ≠ gb591) (fun _ => False) rfl rfl ?aO ?aR (fun _ _ h => h) (fun _ h => h.elim) ?aF ?aB ?aS ?aL ?_; (case aR => repeat (first | exact (Kd.C_below HR595.out HB.out) | (with_reducible refine Kd.C_alloc ?_ _) | (with_reducible refine Kd.C_drewN ?_ _) | (with_reducible refine Kd.C_drew ?_))); (case aB => exact (bw HB.out)); (case aF => exact (fun k_ hk => ⟨Kd.freshB (bk BK590.out) k_ hk, Kd.freshB (bk BK591.out) k_ hk⟩)); (case aO => exact (by (with_reducible repeat (first | apply Kd.R_alloc | apply Kd.R_drewN | apply Kd.R_drew)); exact Kd.R_mono HO598.out (fun _ hk => ⟨hk.1.2, hk.2⟩))); (case aS => exact (below_size (bw HB.out))); (case aL => have := LMc6.out; omega); intro v600 w14 ho hb hg hat; rw [← Ny599.out] at ho; have n0_ := Aside0.mk (blk_grown (bk BK590.out) hg (Kd.R_away HO598.out (fun _ hk => hk.1.2))); have n1_ := Aside0.mk (blk_grown (bk BK591.out) hg (Kd.R_away HO598.out (fun _ hk => hk.2))); have n2_ := Aside0.mk (hb); have n3_ := Aside0.mk (ho); clear BK590; clear BK591; clear HB; clear HO598; have BK590 := n0_; have BK591 := n1_; have HB := n2_; have HO601 := n3_; clear n0_ n1_ n2_ n3_; clear ho hb hg hat))
     have n0_ := Aside0.mk (Kd.R_drew HO601.out)
     have n1_ := Aside0.mk (blk_drew BK590.out)
     have n2_ := Aside0.mk (blk_drew BK591.out)
     have n3_ := Aside0.mk (below_drew1 HB.out)
     clear HO601
     clear BK590
     clear BK591
     clear HB
     have HO601 := n0_
     have BK590 := n1_
     have BK591 := n2_
     have HB := n3_
     clear n0_ n1_ n2_ n3_
     refine start_ (n := 7) (S := fun w' => w'.cell? ⟨gb590, 0, none⟩ = some (.int .i64 a0_0) ∧ w'.cell? ⟨gb590, 1, none⟩ = some (.int .i64 a0_1) ∧ w'.cell? ⟨gb591, 0, none⟩ = some (.int .i64 a1_0) ∧ w'.cell? ⟨gb591, 1, none⟩ = some (.int .i64 a1_1)) (ds := []) #[F_,F_,F_,F_,F_,F_,F_] (by kernel_rfl) rfl rfl ⟨(blk_cell BK590.out 0).trans rfl, (blk_cell BK590.out 1).trans rfl, (blk_cell BK591.out 0).trans rfl, (blk_cell BK591.out 1).trans rfl⟩ (fun hHeld => ?_)
     generalize w14.drew = w15 at HO601 BK590 BK591 HB hHeld ⊢
     refine pure_ (i := 3) (N := some 21) (v := ?_) (a' := ?_) #[F_,F_,F_,T_,F_,F_,F_] rfl rfl (by kernel_rfl) (fun _ _ _ h => h) (Or.inl ⟨by rfl, ?_⟩) ?_ ?_
     rotate_left
     ·intro w'
      go_simp
      with_reducible rfl
     rotate_left
     ·simp only [Act.put, s1, s2, s3, i64_w, i32_w]
      rfl
     refine take_ (i := 0) (N := some 18) (v := ?_) (a' := ?_) #[T_,F_,F_,T_,F_,F_,F_] rfl rfl (by kernel_rfl) (fun _ _ _ h => h) (Or.inl ⟨by rfl, ?_⟩) hHeld ?_ ?_
     rotate_left
     ·rintro w' ⟨s0, s1, s2, s3⟩
      go_simp
      with_reducible rfl
     rotate_left
     ·simp only [Act.put, s1, s2, s3, i64_w, i32_w]
      rfl
     refine take_ (i := 1) (N := some 19) (v := ?_) (a' := ?_) #[T_,T_,F_,T_,F_,F_,F_] rfl rfl (by kernel_rfl) (fun _ _ _ h => h) (Or.inl ⟨by rfl, ?_⟩) hHeld ?_ ?_
     rotate_left
     ·rintro w' ⟨s0, s1, s2, s3⟩
      go_simp
      with_reducible rfl
     rotate_left
     ·simp only [Act.put, s1, s2, s3, i64_w, i32_w]
      rfl
     refine one_ (i := 2) (N := some 20) #[T_,T_,T_,T_,F_,F_,F_] rfl rfl (by kernel_rfl) (by decide) (fun K hK => ?_)
     refine Kd.R_lit_step k23 _ 23 ?hg (N := 20) ?hd (xs := ([] : List (S23))) (inner := []) (ok := fun _ => True) (okp := fun _ => True) ?hr ?hp (fun _ hk => hk) trivial (Below.refl _ _) (Nat.le_refl _) (by simp) ?_; (case hd => rfl); (case hg => rfl); (case hr => first | (go_simp; done) | (go_simp; rfl)); (case hp => exact (Reps.none _ _))
     intro v603 w16 ho17 hb hg_ hnew_
     clear hg_ hnew_
     (first | rw [← Ny602.out] at ho17 | (simp only [Int.reduceToNat] at ho17; rw [← Ny602.out] at ho17))
     have n0_ := Aside0.mk (Kd.R_elder' (by (with_reducible repeat (first | apply Kd.R_alloc | apply Kd.R_drewN | apply Kd.R_drew)); exact HO601.out) (Kd.R_base ho17) hb)
     have n1_ := Aside0.mk (Kd.R_lower (Kd.R_newB (Kd.R_newB (Kd.R_new' ho17 (Kd.R_lt (by (with_reducible repeat (first | apply Kd.R_alloc | apply Kd.R_drewN | apply Kd.R_drew)); exact HO601.out))) (bk BK590.out)) (bk BK591.out)) (below_size (bw HB.out)))
     have n2_ := u1 BK590 hb
     have n3_ := u1 BK591 hb
     have n4_ := Aside0.mk (below_step (bw HB.out) hb)
     clear HO601
     clear BK590
     clear BK591
     clear HB
     have HO601 := n0_
     have HO604 := n1_
     have BK590 := n2_
     have BK591 := n3_
     have HB := n4_
     clear n0_ n1_ n2_ n3_ n4_
     clear hb ho17
     obtain ⟨Ao19, co19, eo19⟩ := Kd.R_slice HO601.out
     (first | subst eo19 | (injection eo19 with f1_ f2_ f3_; have f4_ := f1_.symm; have f5_ := f3_.symm; clear f1_ f2_ f3_; subst f4_; subst f5_))
     refine hK.out _ _ ⟨(blk_cell BK590.out 0).trans rfl, (blk_cell BK590.out 1).trans rfl, (blk_cell BK591.out 0).trans rfl, (blk_cell BK591.out 1).trans rfl⟩ (fun hHeld => ?_)
     clear hK K
     refine norm_ (a' := ?_) ?_ ?_
     rotate_left
     ·show Act.put _ (some 20) _ = _
      simp only [Act.put, s1, s2, s3, i64_w, i32_w]
      rfl
     refine one_ (i := 4) (N := some 22) #[T_,T_,T_,T_,T_,F_,F_] rfl rfl (by kernel_rfl) (by decide) (fun K hK => ?_)
     refine Kd.R_append_rows_step k23 (w0 := w) w.heap.size (by rfl) (.tmp 20) (.tmp 21) 32 23 (.agg #[(.int .i64 0), (.int .i64 0)]) 16 rfl Try.underlying32 info23 rfl (by decide) (by omega) v603 y602 y599 _ _ _ (fun k_ => some k_ ≠ (.slice Ao19 y599.length co19 : Value).ownBlock ∧ k_ ≠ gb590 ∧ k_ ≠ gb591) (fun _ => False) rfl rfl ?aO ?aR (fun _ _ h => h) (fun _ h => h.elim) ?aF ?aB ?aS ?aL ?_
     (case aR => repeat (first | exact (Kd.R_reads' HO601.out).2.2 | (with_reducible refine Kd.C_alloc ?_ _) | (with_reducible refine Kd.C_drewN ?_ _) | (with_reducible refine Kd.C_drew ?_)))
     (case aB => exact (bw HB.out))
     (case aF => exact (fun k_ hk => ⟨Kd.fresh' (Kd.R_lt (by (with_reducible repeat (first | apply Kd.R_alloc | apply Kd.R_drewN | apply Kd.R_drew)); exact HO601.out)) k_ hk, Kd.freshB (bk BK590.out) k_ hk, Kd.freshB (bk BK591.out) k_ hk⟩))
     (case aO => exact (by (with_reducible repeat (first | apply Kd.R_alloc | apply Kd.R_drewN | apply Kd.R_drew)); exact Kd.R_mono HO604.out (fun _ hk => ⟨hk.1.1.2, ⟨hk.1.2, hk.2⟩⟩)))
     (case aS => exact (below_size (bw HB.out)))
     (case aL => have := LMc7.out; omega)
     intro v606 w18 ho hb hg hat
     rw [← Ny605.out] at ho
     have n0_ := Aside0.mk (blk_grown (bk BK590.out) hg (Kd.R_away HO604.out (fun _ hk => hk.1.2)))
     have n1_ := Aside0.mk (blk_grown (bk BK591.out) hg (Kd.R_away HO604.out (fun _ hk => hk.2)))
     have n2_ := Aside0.mk (Kd.R_after (ok := (fun k_ => k_ ≠ gb590 ∧ k_ ≠ gb591)) (by (with_reducible repeat (first | apply Kd.R_alloc | apply Kd.R_drewN | apply Kd.R_drew)); exact HO601.out) hg hat)
     have n3_ := Aside0.mk (hb)
     have n4_ := Aside0.mk (ho)
     clear BK590
     clear BK591
     clear HO601
     clear HB
     clear HO604
     have BK590 := n0_
     have BK591 := n1_
     have HO601 := n2_
     have HB := n3_
     have HO607 := n4_
     clear n0_ n1_ n2_ n3_ n4_
     clear ho hb hg hat
     obtain ⟨Ao20, co20, eo20⟩ := Kd.R_slice HO607.out
     (first | subst eo20 | (injection eo20 with f1_ f2_ f3_; have f4_ := f1_.symm; have f5_ := f3_.symm; clear f1_ f2_ f3_; subst f4_; subst f5_))
     refine hK.out _ _ ⟨(blk_cell BK590.out 0).trans rfl, (blk_cell BK590.out 1).trans rfl, (blk_cell BK591.out 0).trans rfl, (blk_cell BK591.out 1).trans rfl⟩ (fun hHeld => ?_)
     clear hK K
     refine norm_ (a' := ?_) ?_ ?_
     rotate_left
     ·show Act.put _ (some 22) _ = _
      simp only [Act.put, s1, s2, s3, i64_w, i32_w]
      rfl
     refine one_ (i := 5) (N := some 23) #[T_,T_,T_,T_,T_,T_,F_] rfl rfl (by kernel_rfl) (by decide) (fun K hK => ?_)
     refine goes_ Try.func14 (by kernel_rfl) rfl #[.agg #[.int .i64 a0_0, .int .i64 a0_1], .agg #[.int .i64 a1_0, .int .i64 a1_1], .slice Ao20 y605.length co20] (by rfl) rfl rfl (by (try simp only [List.map_toArray, List.map_cons, List.map_nil]); first | done | rfl | (simp only [List.length_drop, List.length_take]; rfl)) ?_
     with_reducible refine (tie_Best.calls k a0_0 a0_1 a1_0 a1_1 _ _ y605 t608 _ ?side1 ?side2 A8.out).mono ?_
     (case side1 => repeat (first | exact (Kd.R_reads' HO607.out).2.2 | (with_reducible refine Kd.C_alloc ?_ _) | (with_reducible refine Kd.C_drewN ?_ _) | (with_reducible refine Kd.C_drew ?_)))
     (case side2 => exact (Kd.R_reads' HO607.out).2.1)
     rintro e w21 ⟨rfl, hb⟩
     refine ⟨_, rfl, ?_⟩
     have n0_ := Aside0.mk (Kd.R_below (by (with_reducible repeat (first | apply Kd.R_alloc | apply Kd.R_drewN | apply Kd.R_drew)); exact HO601.out) hb)
     have n1_ := Aside0.mk (Kd.R_below (by (with_reducible repeat (first | apply Kd.R_alloc | apply Kd.R_drewN | apply Kd.R_drew)); exact HO607.out) hb)
     have n2_ := u1 BK590 hb
     have n3_ := u1 BK591 hb
     have n4_ := Aside0.mk (below_step (bw HB.out) hb)
     clear HO601
     clear HO607
     clear BK590
     clear BK591
     clear HB
     have HO601 := n0_
     have HO607 := n1_
     have BK590 := n2_
     have BK591 := n3_
     have HB := n4_
     clear n0_ n1_ n2_ n3_ n4_
     (try clear hb)
     (try clear hb2)
     (try clear hk)
     (try clear hi)
     refine hK.out _ _ ⟨(blk_cell BK590.out 0).trans rfl, (blk_cell BK590.out 1).trans rfl, (blk_cell BK591.out 0).trans rfl, (blk_cell BK591.out 1).trans rfl⟩ (fun hHeld => ?_)
     clear hK K
     refine norm_ (a' := ?_) ?_ ?_
     rotate_left
     ·show Act.put _ (some 23) _ = _
      simp only [Act.put, s1, s2, s3, i64_w, i32_w]
      rfl
     refine pure_ (i := 6) (N := some 7) (v := ?_) (a' := ?_) #[T_,T_,T_,T_,T_,T_,T_] rfl rfl (by kernel_rfl) (fun _ _ _ h => h) (Or.inl ⟨by rfl, ?_⟩) ?_ ?_
     rotate_left
     ·intro w'
      go_simp
      with_reducible rfl
     rotate_left
     ·simp only [Act.put, s1, s2, s3, i64_w, i32_w]
      rfl
     refine done_ (by kernel_rfl) ?_
     try go_wp2
     go_loopg [8, 9] k (fun kq v8 v9 w' => ∃ (x8_1 : Bool) (x9_1 : Int), v8 = .bool x8_1 ∧ v9 = .int .i64 x9_1 ∧ Aside0 (zelligelaw08_TieBest.l0 kq y599 t608 x8_1 x9_1 a0_0 a0_1 a1_0 a1_1 = some true) ∧ Aside0 (kq ≤ k) ∧ Aside0 (Kd.R k23 23 w' w.heap.size (fun k_ => k_ ≠ gb590 ∧ k_ ≠ gb591) (.slice Ao19 y599.length co19) y599) ∧ Aside0 (w'.heap[gb590]? = some (.cells #[.int .i64 a0_0, .int .i64 a0_1] 23 (0, 0))) ∧ Aside0 (w'.heap[gb591]? = some (.cells #[.int .i64 a1_0, .int .i64 a1_1] 23 (0, 0))) ∧ Aside0 (Below w.heap.size w w'))
     case atStart => exact ⟨(false), (0), (by first | rfl | (simp; done) | (simp [*]; done)), (by first | rfl | (simp; done) | (simp [*]; done)), H', ⟨Nat.le_refl _⟩, ⟨by (with_reducible repeat (first | apply Kd.R_alloc | apply Kd.R_drewN | apply Kd.R_drew)); exact Kd.R_mono HO601.out (fun _ hk => ⟨hk.1.1, hk.1.2⟩)⟩, ⟨bk BK590.out⟩, ⟨bk BK591.out⟩, ⟨bw HB.out⟩⟩
     case round =>
      clear H'
      try clear c1
      try clear q1
      try clear c2
      try clear p2
      try clear c4
      try clear c4b0
      try clear c4b1
      try clear c5
      try clear c5b0
      try clear c5b1
      try clear c6
      try clear c7
      try clear q11
      try clear c14
      try clear q11
      obtain ⟨x8_1, x9_1, rfl, rfl, HA, HK1, HO_2, BK590, BK591, HB⟩ := hrel
      cases gk with
      | zero => exact absurd HA.out (by simp [zelligelaw08_TieBest.l0])
      | succ k1 =>
       have H := HA.out
       clear HA
       simp only [zelligelaw08_TieBest.l0] at H
       by_cases c22 : x9_1 < (y599.length : Int)
       ·rw [if_pos c22] at H
        have c22b0 : decide (x9_1 < (y599.length : Int)) = true := decide_eq_true c22
        clear c22
        by_cases c23 : x8_1 = true
        ·subst c23
         rw [if_pos rfl] at H
         have H' := Aside0.mk H
         clear H
         try go_wp2
         have n0_ := Aside0.mk (Kd.R_drew HO_2.out)
         have n1_ := Aside0.mk (blk_drew BK590.out)
         have n2_ := Aside0.mk (blk_drew BK591.out)
         have n3_ := Aside0.mk (below_drew1 HB.out)
         clear HO_2
         clear BK590
         clear BK591
         clear HB
         have HO_2 := n0_
         have BK590 := n1_
         have BK591 := n2_
         have HB := n3_
         clear n0_ n1_ n2_ n3_
         refine start_ (n := 11) (S := fun w' => True) (ds := []) #[F_,F_,F_,F_,F_,F_,F_,F_,F_,F_,F_] (by kernel_rfl) rfl rfl trivial (fun hHeld => ?_); refine with_tabW zelligelaw08_TieBest.tab9 zelligelaw08_TieBest.bits9 (fun HT_ HW_ => ?_)
         generalize wr.drew = w24 at HO_2 BK590 BK591 HB hHeld ⊢
         refine pA (i := 0) (N := some 30) (v := ?_) (a' := ?_) #[T_,F_,F_,F_,F_,F_,F_,F_,F_,F_,F_] rfl rfl HT_ (Or.inl ⟨by rfl, ?_⟩) ?_ ?_
         rotate_left
         ·intro w'
          go_simp
          with_reducible rfl
         rotate_left
         ·simp only [Act.put, s1, s2, s3, i64_w, i32_w]
          rfl
         refine pA (i := 1) (N := some 31) (v := ?_) (a' := ?_) #[T_,T_,F_,F_,F_,F_,F_,F_,F_,F_,F_] rfl rfl HT_ (Or.inl ⟨by rfl, ?_⟩) ?_ ?_
         rotate_left
         ·intro w'
          go_simp
          with_reducible rfl
         rotate_left
         ·simp only [Act.put, s1, s2, s3, i64_w, i32_w]
          rfl
         refine pA (i := 2) (N := some 32) (v := undef) (a' := ?_) #[T_,T_,T_,F_,F_,F_,F_,F_,F_,F_,F_] rfl rfl HT_ (Or.inr ⟨by rfl, rfl⟩) ?_ ?_
         rotate_left
         ·simp only [Act.put, s1, s2, s3, i64_w, i32_w]
          rfl
         refine pA (i := 3) (N := some 33) (v := undef) (a' := ?_) #[T_,T_,T_,T_,F_,F_,F_,F_,F_,F_,F_] rfl rfl HT_ (Or.inr ⟨by rfl, rfl⟩) ?_ ?_
         rotate_left
         ·simp only [Act.put, s1, s2, s3, i64_w, i32_w]
          rfl
         refine pA (i := 4) (N := some 34) (v := undef) (a' := ?_) #[T_,T_,T_,T_,T_,F_,F_,F_,F_,F_,F_] rfl rfl HT_ (Or.inr ⟨by rfl, rfl⟩) ?_ ?_
         rotate_left
         ·simp only [Act.put, s1, s2, s3, i64_w, i32_w]
          rfl
         refine pA (i := 5) (N := some 35) (v := undef) (a' := ?_) #[T_,T_,T_,T_,T_,T_,F_,F_,F_,F_,F_] rfl rfl HT_ (Or.inr ⟨by rfl, rfl⟩) ?_ ?_
         rotate_left
         ·simp only [Act.put, s1, s2, s3, i64_w, i32_w]
          rfl
         refine pA (i := 6) (N := some 36) (v := undef) (a' := ?_) #[T_,T_,T_,T_,T_,T_,T_,F_,F_,F_,F_] rfl rfl HT_ (Or.inr ⟨by rfl, rfl⟩) ?_ ?_
         rotate_left
         ·simp only [Act.put, s1, s2, s3, i64_w, i32_w]
          rfl
         refine pA (i := 7) (N := some 37) (v := undef) (a' := ?_) #[T_,T_,T_,T_,T_,T_,T_,T_,F_,F_,F_] rfl rfl HT_ (Or.inr ⟨by rfl, rfl⟩) ?_ ?_
         rotate_left
         ·simp only [Act.put, s1, s2, s3, i64_w, i32_w]
          rfl
         refine pA (i := 8) (N := some 38) (v := undef) (a' := ?_) #[T_,T_,T_,T_,T_,T_,T_,T_,T_,F_,F_] rfl rfl HT_ (Or.inr ⟨by rfl, rfl⟩) ?_ ?_
         rotate_left
         ·simp only [Act.put, s1, s2, s3, i64_w, i32_w]
          rfl
         refine pA (i := 9) (N := some 39) (v := ?_) (a' := ?_) #[T_,T_,T_,T_,T_,T_,T_,T_,T_,T_,F_] rfl rfl HT_ (Or.inl ⟨by rfl, ?_⟩) ?_ ?_
         rotate_left
         ·intro w'
          go_simp
          with_reducible rfl
         rotate_left
         ·simp only [Act.put, s1, s2, s3, i64_w, i32_w]
          rfl
         refine pA (i := 10) (N := some 8) (v := ?_) (a' := ?_) #[T_,T_,T_,T_,T_,T_,T_,T_,T_,T_,T_] rfl rfl HT_ (Or.inl ⟨by rfl, ?_⟩) ?_ ?_
         rotate_left
         ·intro w'
          go_simp
          with_reducible rfl
         rotate_left
         ·simp only [Act.put, s1, s2, s3, i64_w, i32_w]
          rfl
         refine done_ (done_of HT_.out (by kernel_rfl)) ?_
         try go_wp2
         go_roundg k1
         case measure => have := HK1.out; omega
         case rel => exact ⟨(true), (wrap64 (x9_1 + 1)), (by first | rfl | (simp; done) | (simp [*]; done)), (by first | rfl | (simp; done) | (simp [*]; done)), H', ⟨by have := HK1.out; omega⟩, ⟨by (with_reducible repeat (first | apply Kd.R_alloc | apply Kd.R_drewN | apply Kd.R_drew)); exact HO_2.out⟩, ⟨bk BK590.out⟩, ⟨bk BK591.out⟩, ⟨bw HB.out⟩⟩
        ·replace c23 := Bool.eq_false_iff.mpr c23
         subst c23
         rw [if_neg (show ¬ (false = true) by decide)] at H
         by_cases c25 : 0 ≤ x9_1
         ·rw [if_pos c25] at H
          have c25b0 : decide (0 ≤ x9_1) = true := decide_eq_true c25
          clear c25
          replace H := Option.bind_eq_some_iff.mp H
          obtain ⟨t610, A260, H⟩ := H
          try dsimp only at H
          have A26 := Aside0.mk A260
          clear A260
          have H' := Aside0.mk H
          clear H
          try go_wp2
          have n0_ := Aside0.mk (Kd.R_drew HO_2.out)
          have n1_ := Aside0.mk (blk_drew BK590.out)
          have n2_ := Aside0.mk (blk_drew BK591.out)
          have n3_ := Aside0.mk (below_drew1 HB.out)
          clear HO_2
          clear BK590
          clear BK591
          clear HB
          have HO_2 := n0_
          have BK590 := n1_
          have BK591 := n2_
          have HB := n3_
          clear n0_ n1_ n2_ n3_
          have p609 : 0 ≤ (x9_1 : Int) := dt_
          have q609 : x9_1 < (y599.length : Int) := dt_
          obtain ⟨ad609, e609, hx609_0, hx609_1⟩ := at_T23 (Kd.R_reads' HO_2.out).2.2 x9_1 p609 q609
          cases e609
          replace p609 := eq_true p609
          replace q609 := eq_true q609
          refine start_ (n := 11) (S := fun w' => w'.cell? ⟨gb590, 0, none⟩ = some (.int .i64 a0_0) ∧ w'.cell? ⟨gb590, 1, none⟩ = some (.int .i64 a0_1) ∧ w'.cell? ⟨gb591, 0, none⟩ = some (.int .i64 a1_0) ∧ w'.cell? ⟨gb591, 1, none⟩ = some (.int .i64 a1_1) ∧ w'.cell? (ad609.add ((x9_1).toNat * 2)) = some (.int .i64 ((rd_T23 y599 x9_1).f0)) ∧ w'.cell? ⟨(ad609.add ((x9_1).toNat * 2)).block, (ad609.add ((x9_1).toNat * 2)).off + 1, none⟩ = some (.int .i64 ((rd_T23 y599 x9_1).f1))) (ds := []) #[F_,F_,F_,F_,F_,F_,F_,F_,F_,F_,F_] (by kernel_rfl) rfl rfl ⟨(blk_cell BK590.out 0).trans rfl, (blk_cell BK590.out 1).trans rfl, (blk_cell BK591.out 0).trans rfl, (blk_cell BK591.out 1).trans rfl, hx609_0, hx609_1⟩ (fun hHeld => ?_); refine with_tabW zelligelaw08_TieBest.tab9 zelligelaw08_TieBest.bits9 (fun HT_ HW_ => ?_)
          generalize wr.drew = w27 at HO_2 BK590 BK591 HB hx609_0 hx609_1 hHeld ⊢
          refine pA (i := 0) (N := some 30) (v := ?_) (a' := ?_) #[T_,F_,F_,F_,F_,F_,F_,F_,F_,F_,F_] rfl rfl HT_ (Or.inl ⟨by rfl, ?_⟩) ?_ ?_
          rotate_left
          ·intro w'
           go_simp
           with_reducible rfl
          rotate_left
          ·simp only [Act.put, s1, s2, s3, i64_w, i32_w]
           rfl
          refine pA (i := 1) (N := some 31) (v := ?_) (a' := ?_) #[T_,T_,F_,F_,F_,F_,F_,F_,F_,F_,F_] rfl rfl HT_ (Or.inl ⟨by rfl, ?_⟩) ?_ ?_
          rotate_left
          ·intro w'
           go_simp
           with_reducible rfl
          rotate_left
          ·simp only [Act.put, s1, s2, s3, i64_w, i32_w]
           rfl
          refine pA (i := 4) (N := some 34) (v := ?_) (a' := ?_) #[T_,T_,F_,F_,T_,F_,F_,F_,F_,F_,F_] rfl rfl HT_ (Or.inl ⟨by rfl, ?_⟩) ?_ ?_
          rotate_left
          ·intro w'
           go_simp
           with_reducible rfl
          rotate_left
          ·simp only [Act.put, s1, s2, s3, i64_w, i32_w]
           rfl
          refine pA (i := 5) (N := some 35) (v := ?_) (a' := ?_) #[T_,T_,F_,F_,T_,T_,F_,F_,F_,F_,F_] rfl rfl HT_ (Or.inl ⟨by rfl, ?_⟩) ?_ ?_
          rotate_left
          ·intro w'
           go_simp
           with_reducible rfl
          rotate_left
          ·simp only [Act.put, s1, s2, s3, i64_w, i32_w]
           rfl
          refine pA (i := 6) (N := some 36) (v := ?_) (a' := ?_) #[T_,T_,F_,F_,T_,T_,T_,F_,F_,F_,F_] rfl rfl HT_ (Or.inl ⟨by rfl, ?_⟩) ?_ ?_
          rotate_left
          ·intro w'
           go_simp
           with_reducible rfl
          rotate_left
          ·simp only [Act.put, s1, s2, s3, i64_w, i32_w]
           rfl
          refine tA (i := 2) (N := some 32) (v := ?_) (a' := ?_) #[T_,T_,T_,F_,T_,T_,T_,F_,F_,F_,F_] rfl rfl HT_ HW_ (Or.inl ⟨by rfl, ?_⟩) hHeld ?_ ?_
          rotate_left
          ·rintro w' ⟨s0, s1, s2, s3, s4, s5⟩
           go_simp
           with_reducible rfl
          rotate_left
          ·simp only [Act.put, s1, s2, s3, i64_w, i32_w]
           rfl
          refine tA (i := 3) (N := some 33) (v := ?_) (a' := ?_) #[T_,T_,T_,T_,T_,T_,T_,F_,F_,F_,F_] rfl rfl HT_ HW_ (Or.inl ⟨by rfl, ?_⟩) hHeld ?_ ?_
          rotate_left
          ·rintro w' ⟨s0, s1, s2, s3, s4, s5⟩
           go_simp
           with_reducible rfl
          rotate_left
          ·simp only [Act.put, s1, s2, s3, i64_w, i32_w]
           rfl
          refine tA (i := 7) (N := some 37) (v := ?_) (a' := ?_) #[T_,T_,T_,T_,T_,T_,T_,T_,F_,F_,F_] rfl rfl HT_ HW_ (Or.inl ⟨by rfl, ?_⟩) hHeld ?_ ?_
          rotate_left
          ·rintro w' ⟨s0, s1, s2, s3, s4, s5⟩
           go_simp
           with_reducible rfl
          rotate_left
          ·simp only [Act.put, s1, s2, s3, i64_w, i32_w]
           rfl
          refine one_ (i := 8) (N := some 38) #[T_,T_,T_,T_,T_,T_,T_,T_,T_,F_,F_] rfl rfl (one_of HT_.out (by kernel_rfl)) (by decide) (fun K hK => ?_)
          refine goes_ Try.func15 (by kernel_rfl) rfl #[.agg #[.int .i64 a0_0, .int .i64 a0_1], .agg #[.int .i64 a1_0, .int .i64 a1_1], .agg #[.int .i64 ((rd_T23 y599 x9_1).f0), .int .i64 ((rd_T23 y599 x9_1).f1)]] (by rfl) rfl rfl (by (try simp only [List.map_toArray, List.map_cons, List.map_nil]); first | done | rfl | (simp only [List.length_drop, List.length_take]; rfl)) ?_
          with_reducible refine (zelligeref08_Left.calls a0_0 a0_1 a1_0 a1_1 ((rd_T23 y599 x9_1).f0) ((rd_T23 y599 x9_1).f1) t610 _ A26.out).mono ?_
          rintro e w28 ⟨rfl, hb⟩
          have HS4_ := (hb.cell (World.block_lt_of_cell? _ _ (hHeld.2.2.2.2.1))).trans (hHeld.2.2.2.2.1)
          have HS5_ := (hb.cell (World.block_lt_of_cell? _ _ (hHeld.2.2.2.2.2))).trans (hHeld.2.2.2.2.2)
          refine ⟨_, rfl, ?_⟩
          have n0_ := Aside0.mk (Kd.R_below (by (with_reducible repeat (first | apply Kd.R_alloc | apply Kd.R_drewN | apply Kd.R_drew)); exact HO_2.out) hb)
          have n1_ := u1 BK590 hb
          have n2_ := u1 BK591 hb
          have n3_ := Aside0.mk (below_step (bw HB.out) hb)
          clear HO_2
          clear BK590
          clear BK591
          clear HB
          have HO_2 := n0_
          have BK590 := n1_
          have BK591 := n2_
          have HB := n3_
          clear n0_ n1_ n2_ n3_
          (try clear hb)
          (try clear hb2)
          (try clear hk)
          (try clear hi)
          refine hK.out _ _ ⟨(blk_cell BK590.out 0).trans rfl, (blk_cell BK590.out 1).trans rfl, (blk_cell BK591.out 0).trans rfl, (blk_cell BK591.out 1).trans rfl, HS4_, HS5_⟩ (fun hHeld => ?_)
          clear hK K
          refine norm_ (a' := ?_) ?_ ?_
          rotate_left
          ·show Act.put _ (some 38) _ = _
           simp only [Act.put, s1, s2, s3, i64_w, i32_w]
           rfl
          refine pA (i := 9) (N := some 39) (v := ?_) (a' := ?_) #[T_,T_,T_,T_,T_,T_,T_,T_,T_,T_,F_] rfl rfl HT_ (Or.inl ⟨by rfl, ?_⟩) ?_ ?_
          rotate_left
          ·intro w'
           go_simp
           with_reducible rfl
          rotate_left
          ·simp only [Act.put, s1, s2, s3, i64_w, i32_w]
           rfl
          refine pA (i := 10) (N := some 8) (v := ?_) (a' := ?_) #[T_,T_,T_,T_,T_,T_,T_,T_,T_,T_,T_] rfl rfl HT_ (Or.inl ⟨by rfl, ?_⟩) ?_ ?_
          rotate_left
          ·intro w'
           go_simp
           with_reducible rfl
          rotate_left
          ·simp only [Act.put, s1, s2, s3, i64_w, i32_w]
           rfl
          refine done_ (done_of HT_.out (by kernel_rfl)) ?_
          try go_wp2
          go_roundg k1
          case measure => have := HK1.out; omega
          case rel => exact ⟨(t610), (wrap64 (x9_1 + 1)), (by first | rfl | (simp; done) | (simp [*]; done)), (by first | rfl | (simp; done) | (simp [*]; done)), H', ⟨by have := HK1.out; omega⟩, ⟨by (with_reducible repeat (first | apply Kd.R_alloc | apply Kd.R_drewN | apply Kd.R_drew)); exact HO_2.out⟩, ⟨bk BK590.out⟩, ⟨bk BK591.out⟩, ⟨bw HB.out⟩⟩
         ·rw [if_neg c25] at H
          exact absurd H (by simp)
       ·rw [if_neg c22] at H
        have c22b0 : decide (x9_1 < (y599.length : Int)) = false := decide_eq_false c22
        clear c22
        replace H := Option.bind_eq_some_iff.mp H
        obtain ⟨t611, A290, H⟩ := H
        try dsimp only at H
        have A29 := Aside0.mk A290
        clear A290
        by_cases c30 : t608 = t611
        ·rw [if_pos c30] at H
         have c30b0 : (t608 == t611) = true := beq_iff_eq.mpr c30
         have c30b1 : (t608 != t611) = false := bne_eq_false_iff_eq.mpr c30
         clear c30
         by_cases c31 : ((decide (t608 ≥ 0)) == x8_1) = true
         ·rw [if_pos c31] at H
          have c31b0 : ((decide (t608 ≥ 0)) == x8_1) = true := c31
          (try (have c31b1 : decide ((decide (t608 ≥ 0)) = x8_1) = true := by simpa using c31))
          (try (have c31b2 : ((decide (t608 ≥ 0)) == x8_1) = true := by simpa using c31))
          clear c31
          replace H := Option.bind_eq_some_iff.mp H
          obtain ⟨t612, A320, H⟩ := H
          try dsimp only at H
          have A32 := Aside0.mk A320
          clear A320
          obtain rfl := Option.some.inj H
          have hnb33 := NB590_591.out
          have hnc33 := NB591_590.out
          obtain ⟨hcz34_0, hcz34_1, hfz34_0, hfz34_1⟩ := p2 BK590
          obtain ⟨hcz35_0, hcz35_1, hfz35_0, hfz35_1⟩ := p2 BK591
          go_wp2_with (first | ((with_reducible refine gate_callee (f := 16) rfl ?_); refine gL (some 44) Try.func16 #[.agg #[.int .i64 a0_0, .int .i64 a0_1], .agg #[.int .i64 a1_0, .int .i64 a1_1], .slice Ao19 y599.length co19] rfl ?_; (with_reducible refine (zelligeref08_Best.calls k1 a0_0 a0_1 a1_0 a1_1 _ _ y599 t611 _ ?side1 ?side2 A29.out).mono ?_); (case side1 => repeat (first | exact (Kd.R_reads' HO_2.out).2.2 | (with_reducible refine Kd.C_alloc ?_ _) | (with_reducible refine Kd.C_drewN ?_ _) | (with_reducible refine Kd.C_drew ?_))); (case side2 => exact (Kd.R_reads' HO_2.out).2.1); rintro e w36 ⟨rfl, hb⟩; refine ⟨_, rfl, ?_⟩; have n0_ := Aside0.mk (Kd.R_below (by (with_reducible repeat (first | apply Kd.R_alloc | apply Kd.R_drewN | apply Kd.R_drew)); exact HO_2.out) hb); have n1_ := u1 BK590 hb; have n2_ := u1 BK591 hb; have n3_ := u2 HB hb; clear HO_2; clear BK590; clear BK591; clear HB; have HO_2 := n0_; have BK590 := n1_; have BK591 := n2_; have HB := n3_; clear n0_ n1_ n2_ n3_; clear hb) | (go_at_call 10; (with_reducible refine (zelligelaw08_lives.calls k1  true _ A32.out).mono ?_); rintro e w37 ⟨rfl, hb⟩; have n0_ := Aside0.mk (Kd.R_below (by (with_reducible repeat (first | apply Kd.R_alloc | apply Kd.R_drewN | apply Kd.R_drew)); exact HO_2.out) hb); have n1_ := u1 BK590 hb; have n2_ := u1 BK591 hb; have n3_ := u2 HB hb; clear HO_2; clear BK590; clear BK591; clear HB; have HO_2 := n0_; have BK590 := n1_; have BK591 := n2_; have HB := n3_; clear n0_ n1_ n2_ n3_; clear hb))
          go_ret
          exact ⟨by first | rfl | (simp [*, errW_none, errW_some] <;> rfl), bw HB.out⟩
         ·rw [if_neg c31] at H
          have c31b0 : ((decide (t608 ≥ 0)) == x8_1) = false := by simpa using c31
          (try (have c31b1 : decide ((decide (t608 ≥ 0)) = x8_1) = false := by simpa using c31))
          (try (have c31b2 : ((decide (t608 ≥ 0)) == x8_1) = false := by simpa using c31))
          (try (have c31b3 : ¬ ((decide (t608 ≥ 0)) = x8_1) := by simpa using c31))
          clear c31
          exact absurd (Option.some.inj H) (by decide)
        ·rw [if_neg c30] at H
         have c30b0 : (t608 == t611) = false := beq_eq_false_iff_ne.mpr c30
         have c30b1 : (t608 != t611) = true := bne_iff_ne.mpr c30
         exact absurd (Option.some.inj H) (by decide)
    ·rw [if_neg c7] at H
     exact absurd H (by simp)
   ·rw [if_neg c6] at H
    exact absurd H (by simp)
  ·rw [if_neg c5] at H
   exact absurd H (by simp)
 ·rw [if_neg c4] at H
  have c4b0 : decide (12 < (l2.length : Int)) = false := decide_eq_false c4
  have c4b1 : decide (12 < l2.length) = false := decide_eq_false (by omega)
  clear c4
  obtain ⟨y613, hy613⟩ : ∃ y_ : List (S23), y_ = (([] : List (S23))) := ⟨_, rfl⟩
  replace H : (if y613.length + l2.length < 8796093022208 then ((some (y613 ++ l2 : List (S23))).bind fun y616 => ((some (([] : List (S23)) : List (S23))).bind fun y619 => (if y619.length + y616.length < 8796093022208 then ((tie_Best.f k a0_0 a0_1 a1_0 a1_1 (y619 ++ y616)).bind fun t625 => (zelligelaw08_TieBest.l1 k y616 t625 false 0 a0_0 a0_1 a1_0 a1_1)) else (none)))) else (none)) = some true := by first | (rw [hy613]; with_reducible exact H) | (have H2_ := (Option.bind_some _ _).symm.trans H; rw [hy613]; with_reducible exact H2_) | (have H2_ := (Option.bind_some _ _).symm.trans H; with_reducible exact H2_) | with_reducible exact H | (rw [hy613]; exact H) | exact H
  have Ny613 := Aside0.mk hy613
  clear hy613
  by_cases c46 : y613.length + l2.length < 8796093022208
  ·rw [if_pos c46] at H
   have LMc46 := Aside0.mk c46
   clear c46
   obtain ⟨y616, hy616⟩ : ∃ y_ : List (S23), y_ = (y613 ++ l2) := ⟨_, rfl⟩
   replace H : ((some (([] : List (S23)) : List (S23))).bind fun y619 => (if y619.length + y616.length < 8796093022208 then ((tie_Best.f k a0_0 a0_1 a1_0 a1_1 (y619 ++ y616)).bind fun t625 => (zelligelaw08_TieBest.l1 k y616 t625 false 0 a0_0 a0_1 a1_0 a1_1)) else (none))) = some true := by first | (rw [hy616]; with_reducible exact H) | (have H2_ := (Option.bind_some _ _).symm.trans H; rw [hy616]; with_reducible exact H2_) | (have H2_ := (Option.bind_some _ _).symm.trans H; with_reducible exact H2_) | with_reducible exact H | (rw [hy616]; exact H) | exact H
   have Ny616 := Aside0.mk hy616
   clear hy616
   obtain ⟨y619, hy619⟩ : ∃ y_ : List (S23), y_ = (([] : List (S23))) := ⟨_, rfl⟩
   replace H : (if y619.length + y616.length < 8796093022208 then ((tie_Best.f k a0_0 a0_1 a1_0 a1_1 (y619 ++ y616)).bind fun t625 => (zelligelaw08_TieBest.l1 k y616 t625 false 0 a0_0 a0_1 a1_0 a1_1)) else (none)) = some true := by first | (rw [hy619]; with_reducible exact H) | (have H2_ := (Option.bind_some _ _).symm.trans H; rw [hy619]; with_reducible exact H2_) | (have H2_ := (Option.bind_some _ _).symm.trans H; with_reducible exact H2_) | with_reducible exact H | (rw [hy619]; exact H) | exact H
   have Ny619 := Aside0.mk hy619
   clear hy619
   by_cases c47 : y619.length + y616.length < 8796093022208
   ·rw [if_pos c47] at H
    have LMc47 := Aside0.mk c47
    clear c47
    obtain ⟨y622, hy622⟩ : ∃ y_ : List (S23), y_ = (y619 ++ y616) := ⟨_, rfl⟩
    replace H : ((tie_Best.f k a0_0 a0_1 a1_0 a1_1 y622).bind fun t625 => (zelligelaw08_TieBest.l1 k y616 t625 false 0 a0_0 a0_1 a1_0 a1_1)) = some true := by first | (rw [hy622]; with_reducible exact H) | (have H2_ := (Option.bind_some _ _).symm.trans H; rw [hy622]; with_reducible exact H2_) | (have H2_ := (Option.bind_some _ _).symm.trans H; with_reducible exact H2_) | with_reducible exact H | (rw [hy622]; exact H) | exact H
    have Ny622 := Aside0.mk hy622
    clear hy622
    replace H := Option.bind_eq_some_iff.mp H
    obtain ⟨t625, A480, H⟩ := H
    try dsimp only at H
    have A48 := Aside0.mk A480
    clear A480
    have H' := Aside0.mk H
    clear H
    go_enter Try.func7, Try.ntmps7
    try go_wp2_with (first | ((with_reducible refine gate_dst (N := 3) rfl ?_); refine bx 3 #[.int .i64 a0_0, .int .i64 a0_1] 23 ?_; intro gb590 hg w49 hbox hb; have BK590 := Aside0.mk hbox; have GW590 := u3 hg HB; have GE590 := u3 hg HB; replace HB := u2 HB hb; clear hb hbox hg) | ((with_reducible refine gate_dst (N := 4) rfl ?_); refine bx 4 #[.int .i64 a1_0, .int .i64 a1_1] 23 ?_; intro gb591 hg w50 hbox hb; have BK591 := Aside0.mk hbox; have GW591 := u3 hg HB; have GE591 := u3 hg HB; have NB590_591 := u4 hg BK590; have NB591_590 := u5 hg BK590; replace BK590 := u1 BK590 hb; replace HB := u2 HB hb; clear hb hbox hg) | ((with_reducible refine gate_dst (N := 15) rfl ?_); refine Kd.R_lit k23 _ 23 ?hg (N := 15) ?hd (xs := ([] : List (S23))) (inner := []) (ok := fun _ => True) (okp := fun _ => True) ?hr ?hp (fun _ hk => hk) trivial (Below.refl _ _) (Nat.le_refl _) (by simp) ?_; (case hd => rfl); (case hg => rfl); (case hr => first | (go_simp; done) | (go_simp; rfl)); (case hp => exact (Reps.none _ _)); intro v614 w51 ho52 hb hg_ hnew_; clear hg_ hnew_; (first | rw [← Ny613.out] at ho52 | (simp only [Int.reduceToNat] at ho52; rw [← Ny613.out] at ho52)); have n0_ := Aside0.mk (Kd.R_lower (Kd.R_newB (Kd.R_newB ho52 (bk BK590.out)) (bk BK591.out)) (below_size (bw HB.out))); have n1_ := u1 BK590 hb; have n2_ := u1 BK591 hb; have n3_ := u2 HB hb; clear BK590; clear BK591; clear HB; have HO615 := n0_; have BK590 := n1_; have BK591 := n2_; have HB := n3_; clear n0_ n1_ n2_ n3_; clear hb ho52) | ((with_reducible refine gate_builtin (b := .append) (xs := #[.tmp 15, .tmp 16]) rfl ?_); at_builtin; refine Kd.R_append_rows k23 (w0 := w) w.heap.size rfl (.tmp 15) (.tmp 16) 32 23 (.agg #[(.int .i64 0), (.int .i64 0)]) 16 rfl Try.underlying32 info23 rfl (by decide) (by omega) v614 y613 l2 _ _ _ (fun k_ => k_ ≠ gb590 ∧ k_ ≠ gb591) (fun _ => False) rfl rfl ?aO ?aR (fun _ _ h => h) (fun _ h => h.elim) ?aF ?aB ?aS ?aL ?_; (case aR => repeat (first | exact (Kd.C_below HR2.out HB.out) | (with_reducible refine Kd.C_alloc ?_ _) | (with_reducible refine Kd.C_drewN ?_ _) | (with_reducible refine Kd.C_drew ?_))); (case aB => exact (bw HB.out)); (case aF => exact (fun k_ hk => ⟨Kd.freshB (bk BK590.out) k_ hk, Kd.freshB (bk BK591.out) k_ hk⟩)); (case aO => exact (by (with_reducible repeat (first | apply Kd.R_alloc | apply Kd.R_drewN | apply Kd.R_drew)); exact Kd.R_mono HO615.out (fun _ hk => ⟨hk.1.2, hk.2⟩))); (case aS => exact (below_size (bw HB.out))); (case aL => have := LMc46.out; omega); intro v617 w53 ho hb hg hat; rw [← Ny616.out] at ho; have n0_ := Aside0.mk (blk_grown (bk BK590.out) hg (Kd.R_away HO615.out (fun _ hk => hk.1.2))); have n1_ := Aside0.mk (blk_grown (bk BK591.out) hg (Kd.R_away HO615.out (fun _ hk => hk.2))); have n2_ := Aside0.mk (hb); have n3_ := Aside0.mk (ho); clear BK590; clear BK591; clear HB; clear HO615; have BK590 := n0_; have BK591 := n1_; have HB := n2_; have HO618 := n3_; clear n0_ n1_ n2_ n3_; clear ho hb hg hat))
    have n0_ := Aside0.mk (Kd.R_drew HO618.out)
    have n1_ := Aside0.mk (blk_drew BK590.out)
    have n2_ := Aside0.mk (blk_drew BK591.out)
    have n3_ := Aside0.mk (below_drew1 HB.out)
    clear HO618
    clear BK590
    clear BK591
    clear HB
    have HO618 := n0_
    have BK590 := n1_
    have BK591 := n2_
    have HB := n3_
    clear n0_ n1_ n2_ n3_
    refine start_ (n := 7) (S := fun w' => w'.cell? ⟨gb590, 0, none⟩ = some (.int .i64 a0_0) ∧ w'.cell? ⟨gb590, 1, none⟩ = some (.int .i64 a0_1) ∧ w'.cell? ⟨gb591, 0, none⟩ = some (.int .i64 a1_0) ∧ w'.cell? ⟨gb591, 1, none⟩ = some (.int .i64 a1_1)) (ds := []) #[F_,F_,F_,F_,F_,F_,F_] (by kernel_rfl) rfl rfl ⟨(blk_cell BK590.out 0).trans rfl, (blk_cell BK590.out 1).trans rfl, (blk_cell BK591.out 0).trans rfl, (blk_cell BK591.out 1).trans rfl⟩ (fun hHeld => ?_)
    generalize w53.drew = w54 at HO618 BK590 BK591 HB hHeld ⊢
    refine pure_ (i := 3) (N := some 21) (v := ?_) (a' := ?_) #[F_,F_,F_,T_,F_,F_,F_] rfl rfl (by kernel_rfl) (fun _ _ _ h => h) (Or.inl ⟨by rfl, ?_⟩) ?_ ?_
    rotate_left
    ·intro w'
     go_simp
     with_reducible rfl
    rotate_left
    ·simp only [Act.put, s1, s2, s3, i64_w, i32_w]
     rfl
    refine take_ (i := 0) (N := some 18) (v := ?_) (a' := ?_) #[T_,F_,F_,T_,F_,F_,F_] rfl rfl (by kernel_rfl) (fun _ _ _ h => h) (Or.inl ⟨by rfl, ?_⟩) hHeld ?_ ?_
    rotate_left
    ·rintro w' ⟨s0, s1, s2, s3⟩
     go_simp
     with_reducible rfl
    rotate_left
    ·simp only [Act.put, s1, s2, s3, i64_w, i32_w]
     rfl
    refine take_ (i := 1) (N := some 19) (v := ?_) (a' := ?_) #[T_,T_,F_,T_,F_,F_,F_] rfl rfl (by kernel_rfl) (fun _ _ _ h => h) (Or.inl ⟨by rfl, ?_⟩) hHeld ?_ ?_
    rotate_left
    ·rintro w' ⟨s0, s1, s2, s3⟩
     go_simp
     with_reducible rfl
    rotate_left
    ·simp only [Act.put, s1, s2, s3, i64_w, i32_w]
     rfl
    refine one_ (i := 2) (N := some 20) #[T_,T_,T_,T_,F_,F_,F_] rfl rfl (by kernel_rfl) (by decide) (fun K hK => ?_)
    refine Kd.R_lit_step k23 _ 23 ?hg (N := 20) ?hd (xs := ([] : List (S23))) (inner := []) (ok := fun _ => True) (okp := fun _ => True) ?hr ?hp (fun _ hk => hk) trivial (Below.refl _ _) (Nat.le_refl _) (by simp) ?_; (case hd => rfl); (case hg => rfl); (case hr => first | (go_simp; done) | (go_simp; rfl)); (case hp => exact (Reps.none _ _))
    intro v620 w55 ho56 hb hg_ hnew_
    clear hg_ hnew_
    (first | rw [← Ny619.out] at ho56 | (simp only [Int.reduceToNat] at ho56; rw [← Ny619.out] at ho56))
    have n0_ := Aside0.mk (Kd.R_elder' (by (with_reducible repeat (first | apply Kd.R_alloc | apply Kd.R_drewN | apply Kd.R_drew)); exact HO618.out) (Kd.R_base ho56) hb)
    have n1_ := Aside0.mk (Kd.R_lower (Kd.R_newB (Kd.R_newB (Kd.R_new' ho56 (Kd.R_lt (by (with_reducible repeat (first | apply Kd.R_alloc | apply Kd.R_drewN | apply Kd.R_drew)); exact HO618.out))) (bk BK590.out)) (bk BK591.out)) (below_size (bw HB.out)))
    have n2_ := u1 BK590 hb
    have n3_ := u1 BK591 hb
    have n4_ := Aside0.mk (below_step (bw HB.out) hb)
    clear HO618
    clear BK590
    clear BK591
    clear HB
    have HO618 := n0_
    have HO621 := n1_
    have BK590 := n2_
    have BK591 := n3_
    have HB := n4_
    clear n0_ n1_ n2_ n3_ n4_
    clear hb ho56
    obtain ⟨Ao58, co58, eo58⟩ := Kd.R_slice HO618.out
    (first | subst eo58 | (injection eo58 with f1_ f2_ f3_; have f4_ := f1_.symm; have f5_ := f3_.symm; clear f1_ f2_ f3_; subst f4_; subst f5_))
    refine hK.out _ _ ⟨(blk_cell BK590.out 0).trans rfl, (blk_cell BK590.out 1).trans rfl, (blk_cell BK591.out 0).trans rfl, (blk_cell BK591.out 1).trans rfl⟩ (fun hHeld => ?_)
    clear hK K
    refine norm_ (a' := ?_) ?_ ?_
    rotate_left
    ·show Act.put _ (some 20) _ = _
     simp only [Act.put, s1, s2, s3, i64_w, i32_w]
     rfl
    refine one_ (i := 4) (N := some 22) #[T_,T_,T_,T_,T_,F_,F_] rfl rfl (by kernel_rfl) (by decide) (fun K hK => ?_)
    refine Kd.R_append_rows_step k23 (w0 := w) w.heap.size (by rfl) (.tmp 20) (.tmp 21) 32 23 (.agg #[(.int .i64 0), (.int .i64 0)]) 16 rfl Try.underlying32 info23 rfl (by decide) (by omega) v620 y619 y616 _ _ _ (fun k_ => some k_ ≠ (.slice Ao58 y616.length co58 : Value).ownBlock ∧ k_ ≠ gb590 ∧ k_ ≠ gb591) (fun _ => False) rfl rfl ?aO ?aR (fun _ _ h => h) (fun _ h => h.elim) ?aF ?aB ?aS ?aL ?_
    (case aR => repeat (first | exact (Kd.R_reads' HO618.out).2.2 | (with_reducible refine Kd.C_alloc ?_ _) | (with_reducible refine Kd.C_drewN ?_ _) | (with_reducible refine Kd.C_drew ?_)))
    (case aB => exact (bw HB.out))
    (case aF => exact (fun k_ hk => ⟨Kd.fresh' (Kd.R_lt (by (with_reducible repeat (first | apply Kd.R_alloc | apply Kd.R_drewN | apply Kd.R_drew)); exact HO618.out)) k_ hk, Kd.freshB (bk BK590.out) k_ hk, Kd.freshB (bk BK591.out) k_ hk⟩))
    (case aO => exact (by (with_reducible repeat (first | apply Kd.R_alloc | apply Kd.R_drewN | apply Kd.R_drew)); exact Kd.R_mono HO621.out (fun _ hk => ⟨hk.1.1.2, ⟨hk.1.2, hk.2⟩⟩)))
    (case aS => exact (below_size (bw HB.out)))
    (case aL => have := LMc47.out; omega)
    intro v623 w57 ho hb hg hat
    rw [← Ny622.out] at ho
    have n0_ := Aside0.mk (blk_grown (bk BK590.out) hg (Kd.R_away HO621.out (fun _ hk => hk.1.2)))
    have n1_ := Aside0.mk (blk_grown (bk BK591.out) hg (Kd.R_away HO621.out (fun _ hk => hk.2)))
    have n2_ := Aside0.mk (Kd.R_after (ok := (fun k_ => k_ ≠ gb590 ∧ k_ ≠ gb591)) (by (with_reducible repeat (first | apply Kd.R_alloc | apply Kd.R_drewN | apply Kd.R_drew)); exact HO618.out) hg hat)
    have n3_ := Aside0.mk (hb)
    have n4_ := Aside0.mk (ho)
    clear BK590
    clear BK591
    clear HO618
    clear HB
    clear HO621
    have BK590 := n0_
    have BK591 := n1_
    have HO618 := n2_
    have HB := n3_
    have HO624 := n4_
    clear n0_ n1_ n2_ n3_ n4_
    clear ho hb hg hat
    obtain ⟨Ao59, co59, eo59⟩ := Kd.R_slice HO624.out
    (first | subst eo59 | (injection eo59 with f1_ f2_ f3_; have f4_ := f1_.symm; have f5_ := f3_.symm; clear f1_ f2_ f3_; subst f4_; subst f5_))
    refine hK.out _ _ ⟨(blk_cell BK590.out 0).trans rfl, (blk_cell BK590.out 1).trans rfl, (blk_cell BK591.out 0).trans rfl, (blk_cell BK591.out 1).trans rfl⟩ (fun hHeld => ?_)
    clear hK K
    refine norm_ (a' := ?_) ?_ ?_
    rotate_left
    ·show Act.put _ (some 22) _ = _
     simp only [Act.put, s1, s2, s3, i64_w, i32_w]
     rfl
    refine one_ (i := 5) (N := some 23) #[T_,T_,T_,T_,T_,T_,F_] rfl rfl (by kernel_rfl) (by decide) (fun K hK => ?_)
    refine goes_ Try.func14 (by kernel_rfl) rfl #[.agg #[.int .i64 a0_0, .int .i64 a0_1], .agg #[.int .i64 a1_0, .int .i64 a1_1], .slice Ao59 y622.length co59] (by rfl) rfl rfl (by (try simp only [List.map_toArray, List.map_cons, List.map_nil]); first | done | rfl | (simp only [List.length_drop, List.length_take]; rfl)) ?_
    with_reducible refine (tie_Best.calls k a0_0 a0_1 a1_0 a1_1 _ _ y622 t625 _ ?side1 ?side2 A48.out).mono ?_
    (case side1 => repeat (first | exact (Kd.R_reads' HO624.out).2.2 | (with_reducible refine Kd.C_alloc ?_ _) | (with_reducible refine Kd.C_drewN ?_ _) | (with_reducible refine Kd.C_drew ?_)))
    (case side2 => exact (Kd.R_reads' HO624.out).2.1)
    rintro e w60 ⟨rfl, hb⟩
    refine ⟨_, rfl, ?_⟩
    have n0_ := Aside0.mk (Kd.R_below (by (with_reducible repeat (first | apply Kd.R_alloc | apply Kd.R_drewN | apply Kd.R_drew)); exact HO618.out) hb)
    have n1_ := Aside0.mk (Kd.R_below (by (with_reducible repeat (first | apply Kd.R_alloc | apply Kd.R_drewN | apply Kd.R_drew)); exact HO624.out) hb)
    have n2_ := u1 BK590 hb
    have n3_ := u1 BK591 hb
    have n4_ := Aside0.mk (below_step (bw HB.out) hb)
    clear HO618
    clear HO624
    clear BK590
    clear BK591
    clear HB
    have HO618 := n0_
    have HO624 := n1_
    have BK590 := n2_
    have BK591 := n3_
    have HB := n4_
    clear n0_ n1_ n2_ n3_ n4_
    (try clear hb)
    (try clear hb2)
    (try clear hk)
    (try clear hi)
    refine hK.out _ _ ⟨(blk_cell BK590.out 0).trans rfl, (blk_cell BK590.out 1).trans rfl, (blk_cell BK591.out 0).trans rfl, (blk_cell BK591.out 1).trans rfl⟩ (fun hHeld => ?_)
    clear hK K
    refine norm_ (a' := ?_) ?_ ?_
    rotate_left
    ·show Act.put _ (some 23) _ = _
     simp only [Act.put, s1, s2, s3, i64_w, i32_w]
     rfl
    refine pure_ (i := 6) (N := some 7) (v := ?_) (a' := ?_) #[T_,T_,T_,T_,T_,T_,T_] rfl rfl (by kernel_rfl) (fun _ _ _ h => h) (Or.inl ⟨by rfl, ?_⟩) ?_ ?_
    rotate_left
    ·intro w'
     go_simp
     with_reducible rfl
    rotate_left
    ·simp only [Act.put, s1, s2, s3, i64_w, i32_w]
     rfl
    refine done_ (by kernel_rfl) ?_
    try go_wp2
    go_loopg [8, 9] k (fun kq v8 v9 w' => ∃ (x8_1 : Bool) (x9_1 : Int), v8 = .bool x8_1 ∧ v9 = .int .i64 x9_1 ∧ Aside0 (zelligelaw08_TieBest.l1 kq y616 t625 x8_1 x9_1 a0_0 a0_1 a1_0 a1_1 = some true) ∧ Aside0 (kq ≤ k) ∧ Aside0 (Kd.R k23 23 w' w.heap.size (fun k_ => k_ ≠ gb590 ∧ k_ ≠ gb591) (.slice Ao58 y616.length co58) y616) ∧ Aside0 (w'.heap[gb590]? = some (.cells #[.int .i64 a0_0, .int .i64 a0_1] 23 (0, 0))) ∧ Aside0 (w'.heap[gb591]? = some (.cells #[.int .i64 a1_0, .int .i64 a1_1] 23 (0, 0))) ∧ Aside0 (Below w.heap.size w w'))
    case atStart => exact ⟨(false), (0), (by first | rfl | (simp; done) | (simp [*]; done)), (by first | rfl | (simp; done) | (simp [*]; done)), H', ⟨Nat.le_refl _⟩, ⟨by (with_reducible repeat (first | apply Kd.R_alloc | apply Kd.R_drewN | apply Kd.R_drew)); exact Kd.R_mono HO618.out (fun _ hk => ⟨hk.1.1, hk.1.2⟩)⟩, ⟨bk BK590.out⟩, ⟨bk BK591.out⟩, ⟨bw HB.out⟩⟩
    case round =>
     clear H'
     try clear c1
     try clear q1
     try clear c2
     try clear p2
     try clear c3
     try clear c4
     try clear c4b0
     try clear c4b1
     try clear c5
     try clear c5b0
     try clear c5b1
     try clear c6
     try clear p6
     try clear q6
     try clear hx6
     try clear c7
     try clear q11
     try clear c14
     try clear c15
     try clear c16
     try clear c22
     try clear c22b0
     try clear c23
     try clear c25
     try clear c25b0
     try clear c30
     try clear c30b0
     try clear c30b1
     try clear c31
     try clear c31b0
     try clear c31b1
     try clear c31b2
     try clear c33
     try clear c38
     try clear c42
     try clear c46
     try clear c47
     try clear p60
     try clear q60
     try clear hx60
     try clear hcz34_0
     try clear hcz34_1
     try clear hcz35_0
     try clear hcz35_1
     try clear hcz39_0
     try clear hcz39_1
     try clear hcz40_0
     try clear hcz40_1
     try clear hcz43_0
     try clear hcz43_1
     try clear hcz44_0
     try clear hcz44_1
     try clear hfz34_0
     try clear hfz34_1
     try clear hfz35_0
     try clear hfz35_1
     try clear hfz39_0
     try clear hfz39_1
     try clear hfz40_0
     try clear hfz40_1
     try clear hfz43_0
     try clear hfz43_1
     try clear hfz44_0
     try clear hfz44_1
     try clear hx609_0
     try clear hx609_1
     try clear p2
     try clear p609
     try clear q1
     try clear q11
     try clear q609
     obtain ⟨x8_1, x9_1, rfl, rfl, HA, HK1, HO_2, BK590, BK591, HB⟩ := hrel
     cases gk with
     | zero => exact absurd HA.out (by simp [zelligelaw08_TieBest.l1])
     | succ k1 =>
      have H := HA.out
      clear HA
      simp only [zelligelaw08_TieBest.l1] at H
      by_cases c61 : x9_1 < (y616.length : Int)
      ·rw [if_pos c61] at H
       have c61b0 : decide (x9_1 < (y616.length : Int)) = true := decide_eq_true c61
       clear c61
       by_cases c62 : x8_1 = true
       ·subst c62
        rw [if_pos rfl] at H
        have H' := Aside0.mk H
        clear H
        try go_wp2
        have n0_ := Aside0.mk (Kd.R_drew HO_2.out)
        have n1_ := Aside0.mk (blk_drew BK590.out)
        have n2_ := Aside0.mk (blk_drew BK591.out)
        have n3_ := Aside0.mk (below_drew1 HB.out)
        clear HO_2
        clear BK590
        clear BK591
        clear HB
        have HO_2 := n0_
        have BK590 := n1_
        have BK591 := n2_
        have HB := n3_
        clear n0_ n1_ n2_ n3_
        refine start_ (n := 11) (S := fun w' => True) (ds := []) #[F_,F_,F_,F_,F_,F_,F_,F_,F_,F_,F_] (by kernel_rfl) rfl rfl trivial (fun hHeld => ?_); refine with_tabW zelligelaw08_TieBest.tab9 zelligelaw08_TieBest.bits9 (fun HT_ HW_ => ?_)
        generalize wr.drew = w63 at HO_2 BK590 BK591 HB hHeld ⊢
        refine pA (i := 0) (N := some 30) (v := ?_) (a' := ?_) #[T_,F_,F_,F_,F_,F_,F_,F_,F_,F_,F_] rfl rfl HT_ (Or.inl ⟨by rfl, ?_⟩) ?_ ?_
        rotate_left
        ·intro w'
         go_simp
         with_reducible rfl
        rotate_left
        ·simp only [Act.put, s1, s2, s3, i64_w, i32_w]
         rfl
        refine pA (i := 1) (N := some 31) (v := ?_) (a' := ?_) #[T_,T_,F_,F_,F_,F_,F_,F_,F_,F_,F_] rfl rfl HT_ (Or.inl ⟨by rfl, ?_⟩) ?_ ?_
        rotate_left
        ·intro w'
         go_simp
         with_reducible rfl
        rotate_left
        ·simp only [Act.put, s1, s2, s3, i64_w, i32_w]
         rfl
        refine pA (i := 2) (N := some 32) (v := undef) (a' := ?_) #[T_,T_,T_,F_,F_,F_,F_,F_,F_,F_,F_] rfl rfl HT_ (Or.inr ⟨by rfl, rfl⟩) ?_ ?_
        rotate_left
        ·simp only [Act.put, s1, s2, s3, i64_w, i32_w]
         rfl
        refine pA (i := 3) (N := some 33) (v := undef) (a' := ?_) #[T_,T_,T_,T_,F_,F_,F_,F_,F_,F_,F_] rfl rfl HT_ (Or.inr ⟨by rfl, rfl⟩) ?_ ?_
        rotate_left
        ·simp only [Act.put, s1, s2, s3, i64_w, i32_w]
         rfl
        refine pA (i := 4) (N := some 34) (v := undef) (a' := ?_) #[T_,T_,T_,T_,T_,F_,F_,F_,F_,F_,F_] rfl rfl HT_ (Or.inr ⟨by rfl, rfl⟩) ?_ ?_
        rotate_left
        ·simp only [Act.put, s1, s2, s3, i64_w, i32_w]
         rfl
        refine pA (i := 5) (N := some 35) (v := undef) (a' := ?_) #[T_,T_,T_,T_,T_,T_,F_,F_,F_,F_,F_] rfl rfl HT_ (Or.inr ⟨by rfl, rfl⟩) ?_ ?_
        rotate_left
        ·simp only [Act.put, s1, s2, s3, i64_w, i32_w]
         rfl
        refine pA (i := 6) (N := some 36) (v := undef) (a' := ?_) #[T_,T_,T_,T_,T_,T_,T_,F_,F_,F_,F_] rfl rfl HT_ (Or.inr ⟨by rfl, rfl⟩) ?_ ?_
        rotate_left
        ·simp only [Act.put, s1, s2, s3, i64_w, i32_w]
         rfl
        refine pA (i := 7) (N := some 37) (v := undef) (a' := ?_) #[T_,T_,T_,T_,T_,T_,T_,T_,F_,F_,F_] rfl rfl HT_ (Or.inr ⟨by rfl, rfl⟩) ?_ ?_
        rotate_left
        ·simp only [Act.put, s1, s2, s3, i64_w, i32_w]
         rfl
        refine pA (i := 8) (N := some 38) (v := undef) (a' := ?_) #[T_,T_,T_,T_,T_,T_,T_,T_,T_,F_,F_] rfl rfl HT_ (Or.inr ⟨by rfl, rfl⟩) ?_ ?_
        rotate_left
        ·simp only [Act.put, s1, s2, s3, i64_w, i32_w]
         rfl
        refine pA (i := 9) (N := some 39) (v := ?_) (a' := ?_) #[T_,T_,T_,T_,T_,T_,T_,T_,T_,T_,F_] rfl rfl HT_ (Or.inl ⟨by rfl, ?_⟩) ?_ ?_
        rotate_left
        ·intro w'
         go_simp
         with_reducible rfl
        rotate_left
        ·simp only [Act.put, s1, s2, s3, i64_w, i32_w]
         rfl
        refine pA (i := 10) (N := some 8) (v := ?_) (a' := ?_) #[T_,T_,T_,T_,T_,T_,T_,T_,T_,T_,T_] rfl rfl HT_ (Or.inl ⟨by rfl, ?_⟩) ?_ ?_
        rotate_left
        ·intro w'
         go_simp
         with_reducible rfl
        rotate_left
        ·simp only [Act.put, s1, s2, s3, i64_w, i32_w]
         rfl
        refine done_ (done_of HT_.out (by kernel_rfl)) ?_
        try go_wp2
        go_roundg k1
        case measure => have := HK1.out; omega
        case rel => exact ⟨(true), (wrap64 (x9_1 + 1)), (by first | rfl | (simp; done) | (simp [*]; done)), (by first | rfl | (simp; done) | (simp [*]; done)), H', ⟨by have := HK1.out; omega⟩, ⟨by (with_reducible repeat (first | apply Kd.R_alloc | apply Kd.R_drewN | apply Kd.R_drew)); exact HO_2.out⟩, ⟨bk BK590.out⟩, ⟨bk BK591.out⟩, ⟨bw HB.out⟩⟩
       ·replace c62 := Bool.eq_false_iff.mpr c62
        subst c62
        rw [if_neg (show ¬ (false = true) by decide)] at H
        by_cases c64 : 0 ≤ x9_1
        ·rw [if_pos c64] at H
         have c64b0 : decide (0 ≤ x9_1) = true := decide_eq_true c64
         clear c64
         replace H := Option.bind_eq_some_iff.mp H
         obtain ⟨t627, A650, H⟩ := H
         try dsimp only at H
         have A65 := Aside0.mk A650
         clear A650
         have H' := Aside0.mk H
         clear H
         try go_wp2
         have n0_ := Aside0.mk (Kd.R_drew HO_2.out)
         have n1_ := Aside0.mk (blk_drew BK590.out)
         have n2_ := Aside0.mk (blk_drew BK591.out)
         have n3_ := Aside0.mk (below_drew1 HB.out)
         clear HO_2
         clear BK590
         clear BK591
         clear HB
         have HO_2 := n0_
         have BK590 := n1_
         have BK591 := n2_
         have HB := n3_
         clear n0_ n1_ n2_ n3_
         have p626 : 0 ≤ (x9_1 : Int) := dt_
         have q626 : x9_1 < (y616.length : Int) := dt_
         obtain ⟨ad626, e626, hx626_0, hx626_1⟩ := at_T23 (Kd.R_reads' HO_2.out).2.2 x9_1 p626 q626
         cases e626
         replace p626 := eq_true p626
         replace q626 := eq_true q626
         refine start_ (n := 11) (S := fun w' => w'.cell? ⟨gb590, 0, none⟩ = some (.int .i64 a0_0) ∧ w'.cell? ⟨gb590, 1, none⟩ = some (.int .i64 a0_1) ∧ w'.cell? ⟨gb591, 0, none⟩ = some (.int .i64 a1_0) ∧ w'.cell? ⟨gb591, 1, none⟩ = some (.int .i64 a1_1) ∧ w'.cell? (ad626.add ((x9_1).toNat * 2)) = some (.int .i64 ((rd_T23 y616 x9_1).f0)) ∧ w'.cell? ⟨(ad626.add ((x9_1).toNat * 2)).block, (ad626.add ((x9_1).toNat * 2)).off + 1, none⟩ = some (.int .i64 ((rd_T23 y616 x9_1).f1))) (ds := []) #[F_,F_,F_,F_,F_,F_,F_,F_,F_,F_,F_] (by kernel_rfl) rfl rfl ⟨(blk_cell BK590.out 0).trans rfl, (blk_cell BK590.out 1).trans rfl, (blk_cell BK591.out 0).trans rfl, (blk_cell BK591.out 1).trans rfl, hx626_0, hx626_1⟩ (fun hHeld => ?_); refine with_tabW zelligelaw08_TieBest.tab9 zelligelaw08_TieBest.bits9 (fun HT_ HW_ => ?_)
         generalize wr.drew = w66 at HO_2 BK590 BK591 HB hx626_0 hx626_1 hHeld ⊢
         refine pA (i := 0) (N := some 30) (v := ?_) (a' := ?_) #[T_,F_,F_,F_,F_,F_,F_,F_,F_,F_,F_] rfl rfl HT_ (Or.inl ⟨by rfl, ?_⟩) ?_ ?_
         rotate_left
         ·intro w'
          go_simp
          with_reducible rfl
         rotate_left
         ·simp only [Act.put, s1, s2, s3, i64_w, i32_w]
          rfl
         refine pA (i := 1) (N := some 31) (v := ?_) (a' := ?_) #[T_,T_,F_,F_,F_,F_,F_,F_,F_,F_,F_] rfl rfl HT_ (Or.inl ⟨by rfl, ?_⟩) ?_ ?_
         rotate_left
         ·intro w'
          go_simp
          with_reducible rfl
         rotate_left
         ·simp only [Act.put, s1, s2, s3, i64_w, i32_w]
          rfl
         refine pA (i := 4) (N := some 34) (v := ?_) (a' := ?_) #[T_,T_,F_,F_,T_,F_,F_,F_,F_,F_,F_] rfl rfl HT_ (Or.inl ⟨by rfl, ?_⟩) ?_ ?_
         rotate_left
         ·intro w'
          go_simp
          with_reducible rfl
         rotate_left
         ·simp only [Act.put, s1, s2, s3, i64_w, i32_w]
          rfl
         refine pA (i := 5) (N := some 35) (v := ?_) (a' := ?_) #[T_,T_,F_,F_,T_,T_,F_,F_,F_,F_,F_] rfl rfl HT_ (Or.inl ⟨by rfl, ?_⟩) ?_ ?_
         rotate_left
         ·intro w'
          go_simp
          with_reducible rfl
         rotate_left
         ·simp only [Act.put, s1, s2, s3, i64_w, i32_w]
          rfl
         refine pA (i := 6) (N := some 36) (v := ?_) (a' := ?_) #[T_,T_,F_,F_,T_,T_,T_,F_,F_,F_,F_] rfl rfl HT_ (Or.inl ⟨by rfl, ?_⟩) ?_ ?_
         rotate_left
         ·intro w'
          go_simp
          with_reducible rfl
         rotate_left
         ·simp only [Act.put, s1, s2, s3, i64_w, i32_w]
          rfl
         refine tA (i := 2) (N := some 32) (v := ?_) (a' := ?_) #[T_,T_,T_,F_,T_,T_,T_,F_,F_,F_,F_] rfl rfl HT_ HW_ (Or.inl ⟨by rfl, ?_⟩) hHeld ?_ ?_
         rotate_left
         ·rintro w' ⟨s0, s1, s2, s3, s4, s5⟩
          go_simp
          with_reducible rfl
         rotate_left
         ·simp only [Act.put, s1, s2, s3, i64_w, i32_w]
          rfl
         refine tA (i := 3) (N := some 33) (v := ?_) (a' := ?_) #[T_,T_,T_,T_,T_,T_,T_,F_,F_,F_,F_] rfl rfl HT_ HW_ (Or.inl ⟨by rfl, ?_⟩) hHeld ?_ ?_
         rotate_left
         ·rintro w' ⟨s0, s1, s2, s3, s4, s5⟩
          go_simp
          with_reducible rfl
         rotate_left
         ·simp only [Act.put, s1, s2, s3, i64_w, i32_w]
          rfl
         refine tA (i := 7) (N := some 37) (v := ?_) (a' := ?_) #[T_,T_,T_,T_,T_,T_,T_,T_,F_,F_,F_] rfl rfl HT_ HW_ (Or.inl ⟨by rfl, ?_⟩) hHeld ?_ ?_
         rotate_left
         ·rintro w' ⟨s0, s1, s2, s3, s4, s5⟩
          go_simp
          with_reducible rfl
         rotate_left
         ·simp only [Act.put, s1, s2, s3, i64_w, i32_w]
          rfl
         refine one_ (i := 8) (N := some 38) #[T_,T_,T_,T_,T_,T_,T_,T_,T_,F_,F_] rfl rfl (one_of HT_.out (by kernel_rfl)) (by decide) (fun K hK => ?_)
         refine goes_ Try.func15 (by kernel_rfl) rfl #[.agg #[.int .i64 a0_0, .int .i64 a0_1], .agg #[.int .i64 a1_0, .int .i64 a1_1], .agg #[.int .i64 ((rd_T23 y616 x9_1).f0), .int .i64 ((rd_T23 y616 x9_1).f1)]] (by rfl) rfl rfl (by (try simp only [List.map_toArray, List.map_cons, List.map_nil]); first | done | rfl | (simp only [List.length_drop, List.length_take]; rfl)) ?_
         with_reducible refine (zelligeref08_Left.calls a0_0 a0_1 a1_0 a1_1 ((rd_T23 y616 x9_1).f0) ((rd_T23 y616 x9_1).f1) t627 _ A65.out).mono ?_
         rintro e w67 ⟨rfl, hb⟩
         have HS4_ := (hb.cell (World.block_lt_of_cell? _ _ (hHeld.2.2.2.2.1))).trans (hHeld.2.2.2.2.1)
         have HS5_ := (hb.cell (World.block_lt_of_cell? _ _ (hHeld.2.2.2.2.2))).trans (hHeld.2.2.2.2.2)
         refine ⟨_, rfl, ?_⟩
         have n0_ := Aside0.mk (Kd.R_below (by (with_reducible repeat (first | apply Kd.R_alloc | apply Kd.R_drewN | apply Kd.R_drew)); exact HO_2.out) hb)
         have n1_ := u1 BK590 hb
         have n2_ := u1 BK591 hb
         have n3_ := Aside0.mk (below_step (bw HB.out) hb)
         clear HO_2
         clear BK590
         clear BK591
         clear HB
         have HO_2 := n0_
         have BK590 := n1_
         have BK591 := n2_
         have HB := n3_
         clear n0_ n1_ n2_ n3_
         (try clear hb)
         (try clear hb2)
         (try clear hk)
         (try clear hi)
         refine hK.out _ _ ⟨(blk_cell BK590.out 0).trans rfl, (blk_cell BK590.out 1).trans rfl, (blk_cell BK591.out 0).trans rfl, (blk_cell BK591.out 1).trans rfl, HS4_, HS5_⟩ (fun hHeld => ?_)
         clear hK K
         refine norm_ (a' := ?_) ?_ ?_
         rotate_left
         ·show Act.put _ (some 38) _ = _
          simp only [Act.put, s1, s2, s3, i64_w, i32_w]
          rfl
         refine pA (i := 9) (N := some 39) (v := ?_) (a' := ?_) #[T_,T_,T_,T_,T_,T_,T_,T_,T_,T_,F_] rfl rfl HT_ (Or.inl ⟨by rfl, ?_⟩) ?_ ?_
         rotate_left
         ·intro w'
          go_simp
          with_reducible rfl
         rotate_left
         ·simp only [Act.put, s1, s2, s3, i64_w, i32_w]
          rfl
         refine pA (i := 10) (N := some 8) (v := ?_) (a' := ?_) #[T_,T_,T_,T_,T_,T_,T_,T_,T_,T_,T_] rfl rfl HT_ (Or.inl ⟨by rfl, ?_⟩) ?_ ?_
         rotate_left
         ·intro w'
          go_simp
          with_reducible rfl
         rotate_left
         ·simp only [Act.put, s1, s2, s3, i64_w, i32_w]
          rfl
         refine done_ (done_of HT_.out (by kernel_rfl)) ?_
         try go_wp2
         go_roundg k1
         case measure => have := HK1.out; omega
         case rel => exact ⟨(t627), (wrap64 (x9_1 + 1)), (by first | rfl | (simp; done) | (simp [*]; done)), (by first | rfl | (simp; done) | (simp [*]; done)), H', ⟨by have := HK1.out; omega⟩, ⟨by (with_reducible repeat (first | apply Kd.R_alloc | apply Kd.R_drewN | apply Kd.R_drew)); exact HO_2.out⟩, ⟨bk BK590.out⟩, ⟨bk BK591.out⟩, ⟨bw HB.out⟩⟩
        ·rw [if_neg c64] at H
         exact absurd H (by simp)
      ·rw [if_neg c61] at H
       have c61b0 : decide (x9_1 < (y616.length : Int)) = false := decide_eq_false c61
       clear c61
       replace H := Option.bind_eq_some_iff.mp H
       obtain ⟨t628, A680, H⟩ := H
       try dsimp only at H
       have A68 := Aside0.mk A680
       clear A680
       by_cases c69 : t625 = t628
       ·rw [if_pos c69] at H
        have c69b0 : (t625 == t628) = true := beq_iff_eq.mpr c69
        have c69b1 : (t625 != t628) = false := bne_eq_false_iff_eq.mpr c69
        clear c69
        by_cases c70 : ((decide (t625 ≥ 0)) == x8_1) = true
        ·rw [if_pos c70] at H
         have c70b0 : ((decide (t625 ≥ 0)) == x8_1) = true := c70
         (try (have c70b1 : decide ((decide (t625 ≥ 0)) = x8_1) = true := by simpa using c70))
         (try (have c70b2 : ((decide (t625 ≥ 0)) == x8_1) = true := by simpa using c70))
         clear c70
         replace H := Option.bind_eq_some_iff.mp H
         obtain ⟨t629, A710, H⟩ := H
         try dsimp only at H
         have A71 := Aside0.mk A710
         clear A710
         obtain rfl := Option.some.inj H
         have hnb72 := NB590_591.out
         have hnc72 := NB591_590.out
         obtain ⟨_, _, _, _⟩ := p2 BK590
         obtain ⟨_, _, _, _⟩ := p2 BK591
         go_wp2_with (first | ((with_reducible refine gate_callee (f := 16) rfl ?_); refine gL (some 44) Try.func16 #[.agg #[.int .i64 a0_0, .int .i64 a0_1], .agg #[.int .i64 a1_0, .int .i64 a1_1], .slice Ao58 y616.length co58] rfl ?_; (with_reducible refine (zelligeref08_Best.calls k1 a0_0 a0_1 a1_0 a1_1 _ _ y616 t628 _ ?side1 ?side2 A68.out).mono ?_); (case side1 => repeat (first | exact (Kd.R_reads' HO_2.out).2.2 | (with_reducible refine Kd.C_alloc ?_ _) | (with_reducible refine Kd.C_drewN ?_ _) | (with_reducible refine Kd.C_drew ?_))); (case side2 => exact (Kd.R_reads' HO_2.out).2.1); rintro e w75 ⟨rfl, hb⟩; refine ⟨_, rfl, ?_⟩; have n0_ := Aside0.mk (Kd.R_below (by (with_reducible repeat (first | apply Kd.R_alloc | apply Kd.R_drewN | apply Kd.R_drew)); exact HO_2.out) hb); have n1_ := u1 BK590 hb; have n2_ := u1 BK591 hb; have n3_ := u2 HB hb; clear HO_2; clear BK590; clear BK591; clear HB; have HO_2 := n0_; have BK590 := n1_; have BK591 := n2_; have HB := n3_; clear n0_ n1_ n2_ n3_; clear hb) | (go_at_call 10; (with_reducible refine (zelligelaw08_lives.calls k1  true _ A71.out).mono ?_); rintro e w76 ⟨rfl, hb⟩; have n0_ := Aside0.mk (Kd.R_below (by (with_reducible repeat (first | apply Kd.R_alloc | apply Kd.R_drewN | apply Kd.R_drew)); exact HO_2.out) hb); have n1_ := u1 BK590 hb; have n2_ := u1 BK591 hb; have n3_ := u2 HB hb; clear HO_2; clear BK590; clear BK591; clear HB; have HO_2 := n0_; have BK590 := n1_; have BK591 := n2_; have HB := n3_; clear n0_ n1_ n2_ n3_; clear hb))
         go_ret
         exact ⟨by first | rfl | (simp [*, errW_none, errW_some] <;> rfl), bw HB.out⟩
        ·rw [if_neg c70] at H
         have c70b0 : ((decide (t625 ≥ 0)) == x8_1) = false := by simpa using c70
         (try (have c70b1 : decide ((decide (t625 ≥ 0)) = x8_1) = false := by simpa using c70))
         (try (have c70b2 : ((decide (t625 ≥ 0)) == x8_1) = false := by simpa using c70))
         (try (have c70b3 : ¬ ((decide (t625 ≥ 0)) = x8_1) := by simpa using c70))
         clear c70
         exact absurd (Option.some.inj H) (by decide)
       ·rw [if_neg c69] at H
        have c69b0 : (t625 == t628) = false := beq_eq_false_iff_ne.mpr c69
        have c69b1 : (t625 != t628) = true := bne_iff_ne.mpr c69
        exact absurd (Option.some.inj H) (by decide)
   ·rw [if_neg c47] at H
    exact absurd H (by simp)
  ·rw [if_neg c46] at H
   exact absurd H (by simp)
end Go.Proofs.Ytlkngfidohiepaa.F
end
section
namespace Go.Proofs.Ytlkngfidohiepaa.Tl
open Go RowKit YtlkngfidohiepaaW.PrintWords Ytlkngfidohiepaa.F Ytlkngfidohiepaa.Wd Ytlkngfidohiepaa.Pm Ytlkngfidohiepaa.Pd Ytlkngfidohiepaa.Tm
set_option linter.unusedVariables false
def Lf (a0 a1 b0 b1 : Int) (p : S23) : Prop := (CoP a0 a1 ∧ CoP b0 b1 ∧ CoP p.f0 p.f1) ∧ 0 < ar a0 a1 b0 b1 p.f0 p.f1
instance (a0 a1 b0 b1 : Int) (p : S23) : Decidable (Lf a0 a1 b0 b1 p) := by unfold Lf; infer_instance
abbrev Dz (a0 a1 b0 b1 : Int) (x z : S23) : Prop := does a0 a1 b0 b1 x.f0 x.f1 z.f0 z.f1
abbrev at_ (l : List S23) (m : Nat) : S23 := rd_T23 l (m : Int)
section
variable {a0 a1 b0 b1 : Int} {l : List S23}
theorem tie_left {x z : S23} (hx : Lf a0 a1 b0 b1 x) (hz : Lf a0 a1 b0 b1 z) : tieS a0 a1 b0 b1 x.f0 x.f1 z.f0 z.f1 = decide (Dz a0 a1 b0 b1 x z) := by
 unfold tieS
 rw [decide_eq_decide]
 refine ⟨fun q => q.2.2.2.2.2, fun q => ?_⟩
 have n := left_ne hz.2
 exact ⟨hx.1, hx.2, n.1, n.2.1, does_ne q, q⟩
theorem neg_left {x y z : S23} (hx : Lf a0 a1 b0 b1 x) (hy : Lf a0 a1 b0 b1 y) (hz : Lf a0 a1 b0 b1 z) (h : Dz a0 a1 b0 b1 x z) : Dz a0 a1 b0 b1 x y ∨ Dz a0 a1 b0 b1 y z := by
 have n := left_ne hy.2
 exact does_neg hx.2 hy.2 hz.2 (fun e => n.1 ((ky_eq hy.1.2.2.2 hy.1.1.2).1 e)) (fun e => n.2.1 ((ky_eq hy.1.2.2.2 hy.1.2.1.2).1 e)) h
def Inv (a0 a1 b0 b1 : Int) (l : List S23) (i : Nat) (r : Int) : Prop := (r = -1 ∧ ∀ m : Nat, m < i → ¬ Lf a0 a1 b0 b1 (at_ l m)) ∨
 (∃ j : Nat, r = j ∧ j < i ∧ Lf a0 a1 b0 b1 (at_ l j) ∧ (∀ m : Nat, m < i → Lf a0 a1 b0 b1 (at_ l m) → ¬ Dz a0 a1 b0 b1 (at_ l j) (at_ l m)) ∧ (∀ m : Nat, m < j → Lf a0 a1 b0 b1 (at_ l m) → Dz a0 a1 b0 b1 (at_ l m) (at_ l j)))
theorem lt_succ {m i : Nat} (h : m < i + 1) : m < i ∨ m = i := by omega
theorem inv_skip {i : Nat} {r : Int} (h : Inv a0 a1 b0 b1 l i r) (g : ¬ Lf a0 a1 b0 b1 (at_ l i)) : Inv a0 a1 b0 b1 l (i + 1) r := by
 rcases h with ⟨e, h⟩ | ⟨j, e, hj, L, h1, h2⟩
 ·refine .inl ⟨e, fun m hm => ?_⟩
  rcases lt_succ hm with q | rfl
  ·exact h m q
  ·exact g
 ·refine .inr ⟨j, e, by omega, L, fun m hm hL => ?_, h2⟩
  rcases lt_succ hm with q | rfl
  ·exact h1 m q hL
  ·exact absurd hL g
theorem inv_first {i : Nat} (h : Inv a0 a1 b0 b1 l i (-1)) (g : Lf a0 a1 b0 b1 (at_ l i)) : Inv a0 a1 b0 b1 l (i + 1) i := by
 rcases h with ⟨e, h⟩ | ⟨j, e, hj, L, h1, h2⟩
 ·refine .inr ⟨i, rfl, by omega, g, fun m hm hL => ?_, fun m hm hL => absurd hL (h m hm)⟩
  rcases lt_succ hm with q | rfl
  ·exact absurd hL (h m q)
  ·exact fun d => does_asym d d
 ·omega
theorem inv_take {i j : Nat} (h : Inv a0 a1 b0 b1 l i j) (g : Lf a0 a1 b0 b1 (at_ l i)) (d : Dz a0 a1 b0 b1 (at_ l j) (at_ l i)) : Inv a0 a1 b0 b1 l (i + 1) i := by
 rcases h with ⟨e, h⟩ | ⟨j', e, hj, L, h1, h2⟩
 ·omega
 ·obtain rfl : j' = j := by omega
  refine .inr ⟨i, rfl, by omega, g, fun m hm hL q => ?_, fun m hm hL => ?_⟩
  ·rcases lt_succ hm with p | rfl
   ·rcases neg_left g L hL q with q | q
    ·exact does_asym d q
    ·exact h1 m p hL q
   ·exact does_asym q q
  ·rcases neg_left L hL g d with q | q
   ·exact absurd q (h1 m hm hL)
   ·exact q
theorem inv_keep {i j : Nat} (h : Inv a0 a1 b0 b1 l i j) (g : Lf a0 a1 b0 b1 (at_ l i)) (d : ¬ Dz a0 a1 b0 b1 (at_ l j) (at_ l i)) : Inv a0 a1 b0 b1 l (i + 1) j := by
 rcases h with ⟨e, h⟩ | ⟨j', e, hj, L, h1, h2⟩
 ·omega
 ·obtain rfl : j' = j := by omega
  refine .inr ⟨j', rfl, by omega, L, fun m hm hL => ?_, h2⟩
  rcases lt_succ hm with p | rfl
  ·exact h1 m p hL
  ·exact d
theorem best_l0 (hl : l.length ≤ 12) : ∀ (d i : Nat) (r : Int), l.length - i = d → i ≤ l.length → Inv a0 a1 b0 b1 l i r → ∀ k, 2100 + d < k → ∃ r', tie_Best.l0 k l r l (l.length : Int) (i : Int) a0 a1 b0 b1 = some r' ∧ Inv a0 a1 b0 b1 l l.length r' := by
 intro d
 induction d with
 | zero =>
  intro i r h1 h2 h3 k hk
  obtain ⟨k, rfl⟩ : ∃ m, k = m + 1 := ⟨k - 1, by omega⟩
  obtain rfl : i = l.length := by omega
  exact ⟨r, by rw [tie_Best.l0, if_neg (by omega)], h3⟩
 | succ d ih =>
  intro i r h1 h2 h3 k hk
  obtain ⟨k, rfl⟩ : ∃ m, k = m + 1 := ⟨k - 1, by omega⟩
  have e1 := Aside0.mk (show wrap64 ((i : Int) + 1) = ((i + 1 : Nat) : Int) by rw [p64 (by omega)]; omega)
  rw [tie_Best.l0, if_pos (by omega), if_pos (by omega), if_pos (by omega), Orient_f _ _ _ _ _ _ (by omega), Option.bind_some, e1.out]
  by_cases g : Lf a0 a1 b0 b1 (at_ l i)
  ·rw [if_pos ((or_one _ _ _ _ _ _).2 g)]
   by_cases n : r < 0
   ·rw [if_pos n]
    obtain rfl : r = -1 := by rcases h3 with ⟨e, _⟩ | ⟨j, e, _⟩ <;> omega
    exact ih (i + 1) _ (by omega) (by omega) (inv_first h3 g) k (by omega)
   ·obtain ⟨j, rfl, hj, L, _⟩ : ∃ j : Nat, r = j ∧ j < i ∧ Lf a0 a1 b0 b1 (at_ l j) ∧ True := by
     rcases h3 with ⟨e, _⟩ | ⟨j, e, hj, L, _⟩
     ·omega
     ·exact ⟨j, e, hj, L, trivial⟩
    rw [if_neg n, if_pos (by omega), if_pos (by omega), conflict_f g.1.2.2 (by omega), Option.bind_some, tie_left L g]
    by_cases q : Dz a0 a1 b0 b1 (at_ l j) (at_ l i)
    ·rw [if_pos (decide_eq_true q)]
     exact ih (i + 1) _ (by omega) (by omega) (inv_take h3 g q) k (by omega)
    ·rw [if_neg (by rw [decide_eq_true_eq]; exact q)]
     exact ih (i + 1) _ (by omega) (by omega) (inv_keep h3 g q) k (by omega)
  ·rw [if_neg (fun e => g ((or_one _ _ _ _ _ _).1 e))]
   exact ih (i + 1) _ (by omega) (by omega) (inv_skip h3 g) k (by omega)
theorem left_f {p : S23} (Ha : I64 a0 ∧ I64 a1) (Hb : I64 b0 ∧ I64 b1) (Hp : I64 p.f0 ∧ I64 p.f1) : zelligeref08_Left.f a0 a1 b0 b1 p.f0 p.f1 = some (decide (Lf a0 a1 b0 b1 p)) := by
 unfold zelligeref08_Left.f
 rw [rc_f Ha, rc_f Hb, rc_f Hp, Option.bind_some, Option.bind_some, Option.bind_some]
 by_cases h1 : CoP a0 a1
 ·rw [if_pos (decide_eq_true h1)]
  by_cases h2 : CoP b0 b1
  ·rw [if_pos (decide_eq_true h2)]
   by_cases h3 : CoP p.f0 p.f1
   ·rw [if_pos (decide_eq_true h3), ro_f h1 h2 h3, Option.bind_some, one_b]
    congr 1
    rw [decide_eq_decide]
    exact ⟨fun q => ⟨⟨h1, h2, h3⟩, q⟩, fun q => q.2⟩
   ·rw [if_neg (by rw [decide_eq_true_eq]; exact h3), decide_eq_false (fun q => h3 q.1.2.2)]
  ·rw [if_neg (by rw [decide_eq_true_eq]; exact h2), decide_eq_false (fun q => h2 q.1.2.1)]
 ·rw [if_neg (by rw [decide_eq_true_eq]; exact h1), decide_eq_false (fun q => h1 q.1.1)]
variable (Ha : I64 a0 ∧ I64 a1) (Hb : I64 b0 ∧ I64 b1) (Hl : ∀ m : Nat, m < l.length → I64 (at_ l m).f0 ∧ I64 (at_ l m).f1) (hl : l.length ≤ 12)
include hl
theorem l1_false (i m k : Nat) (hi : i < l.length) : zelligeref08_Best.l1 (k + 2) l (i : Int) false (m : Int) a0 a1 b0 b1 = zelligeref08_Best.l0 k l ((i + 1 : Nat) : Int) a0 a1 b0 b1 := by
 have e1 := Aside0.mk (show wrap64 ((i : Int) + 1) = ((i + 1 : Nat) : Int) by rw [p64 (by omega)]; omega)
 rw [zelligeref08_Best.l1]
 by_cases h : (m : Int) < (l.length : Int)
 ·rw [if_pos h, zelligeref08_Best.j2, if_neg (by decide), if_neg (by decide), e1.out]
 ·rw [if_neg h, zelligeref08_Best.j2, if_neg (by decide), if_neg (by decide), e1.out]
include Ha Hb Hl
theorem l1_step (i m k : Nat) (hi : i < l.length) (L : Lf a0 a1 b0 b1 (at_ l i)) (hm : m < l.length) : zelligeref08_Best.l1 (k + 4) l (i : Int) true (m : Int) a0 a1 b0 b1 = zelligeref08_Best.l1 (k + 2) l (i : Int) (!decide (Lf a0 a1 b0 b1 (at_ l m) ∧ Dz a0 a1 b0 b1 (at_ l i) (at_ l m))) ((m + 1 : Nat) : Int) a0 a1 b0 b1 := by
 have e1 := Aside0.mk (show wrap64 ((m : Int) + 1) = ((m + 1 : Nat) : Int) by rw [p64 (by omega)]; omega)
 rw [zelligeref08_Best.l1, if_pos (by omega), zelligeref08_Best.j2, if_pos rfl, if_pos (by omega), if_pos (by omega), left_f Ha Hb (Hl m hm), Option.bind_some, e1.out]
 by_cases g : Lf a0 a1 b0 b1 (at_ l m)
 ·have e2 : coS a0 a1 b0 b1 (at_ l i).f0 (at_ l i).f1 (at_ l m).f0 (at_ l m).f1 = decide (Dz a0 a1 b0 b1 (at_ l i) (at_ l m)) := by
   unfold coS
   rw [decide_eq_true g.1.2.2, Bool.true_and, tie_left L g]
  rw [if_pos (decide_eq_true g), if_pos (by omega), if_pos (by omega), rConflict_f Ha Hb (Hl i hi) (Hl m hm), Option.bind_some, e2]
  congr 2
  rw [decide_eq_decide]
  exact ⟨fun q => ⟨g, q⟩, fun q => q.2⟩
 ·rw [if_neg (by rw [decide_eq_true_eq]; exact g), decide_eq_false (fun q => g q.1)]
  rfl
theorem in_ok (i : Nat) (hi : i < l.length) (L : Lf a0 a1 b0 b1 (at_ l i)) (h : ∀ m : Nat, m < l.length → Lf a0 a1 b0 b1 (at_ l m) → ¬ Dz a0 a1 b0 b1 (at_ l i) (at_ l m)) : ∀ (d m : Nat), l.length - m = d → m ≤ l.length → ∀ k, 2 * d + 10 < k → zelligeref08_Best.l1 k l (i : Int) true (m : Int) a0 a1 b0 b1 = some (i : Int) := by
 intro d
 induction d with
 | zero =>
  intro m h1 h2 k hk
  obtain ⟨k, rfl⟩ : ∃ m, k = m + 2 := ⟨k - 2, by omega⟩
  rw [zelligeref08_Best.l1, if_neg (by omega), zelligeref08_Best.j2, if_neg (by decide), if_pos rfl]
 | succ d ih =>
  intro m h1 h2 k hk
  obtain ⟨k, rfl⟩ : ∃ m, k = m + 4 := ⟨k - 4, by omega⟩
  rw [l1_step Ha Hb Hl hl i m k hi L (by omega), decide_eq_false (fun q => h m (by omega) q.1 q.2)]
  exact ih (m + 1) (by omega) (by omega) (k + 2) (by omega)
theorem in_no (i j : Nat) (hi : i < l.length) (L : Lf a0 a1 b0 b1 (at_ l i)) (hj : j < l.length) (Lj : Lf a0 a1 b0 b1 (at_ l j)) (D : Dz a0 a1 b0 b1 (at_ l i) (at_ l j)) : ∀ (d m : Nat), j - m = d → m ≤ j → ∀ k, 2 * d + 10 < k → ∃ k', k ≤ k' + (2 * d + 10) ∧ zelligeref08_Best.l1 k l (i : Int) true (m : Int) a0 a1 b0 b1 = zelligeref08_Best.l0 k' l ((i + 1 : Nat) : Int) a0 a1 b0 b1 := by
 intro d
 induction d with
 | zero =>
  intro m h1 h2 k hk
  obtain ⟨k, rfl⟩ : ∃ m, k = m + 4 := ⟨k - 4, by omega⟩
  obtain rfl : m = j := by omega
  refine ⟨k, by omega, ?_⟩
  rw [l1_step Ha Hb Hl hl i m k hi L (by omega), decide_eq_true ⟨Lj, D⟩]
  exact l1_false hl i (m + 1) k hi
 | succ d ih =>
  intro m h1 h2 k hk
  obtain ⟨k, rfl⟩ : ∃ m, k = m + 4 := ⟨k - 4, by omega⟩
  by_cases q : Lf a0 a1 b0 b1 (at_ l m) ∧ Dz a0 a1 b0 b1 (at_ l i) (at_ l m)
  ·refine ⟨k, by omega, ?_⟩
   rw [l1_step Ha Hb Hl hl i m k hi L (by omega), decide_eq_true q]
   exact l1_false hl i (m + 1) k hi
  ·obtain ⟨k', h3, h4⟩ := ih (m + 1) (by omega) (by omega) (k + 2) (by omega)
   refine ⟨k', by omega, ?_⟩
   rw [l1_step Ha Hb Hl hl i m k hi L (by omega), decide_eq_false q]
   exact h4
theorem rb_none (h : ∀ m : Nat, m < l.length → ¬ Lf a0 a1 b0 b1 (at_ l m)) : ∀ (d i : Nat), l.length - i = d → i ≤ l.length → ∀ k, 50 * (d + 1) < k → zelligeref08_Best.l0 k l (i : Int) a0 a1 b0 b1 = some (-1) := by
 intro d
 induction d with
 | zero =>
  intro i h1 h2 k hk
  obtain ⟨k, rfl⟩ : ∃ m, k = m + 1 := ⟨k - 1, by omega⟩
  rw [zelligeref08_Best.l0, if_neg (by omega)]
 | succ d ih =>
  intro i h1 h2 k hk
  obtain ⟨k, rfl⟩ : ∃ m, k = m + 3 := ⟨k - 3, by omega⟩
  rw [zelligeref08_Best.l0, if_pos (by omega), if_pos (by omega), left_f Ha Hb (Hl i (by omega)), Option.bind_some, decide_eq_false (h i (by omega))]
  exact (l1_false hl i 0 k (by omega)).trans (ih (i + 1) (by omega) (by omega) k (by omega))
theorem rb_some (j : Nat) (hj : j < l.length) (L : Lf a0 a1 b0 b1 (at_ l j)) (h1 : ∀ m : Nat, m < l.length → Lf a0 a1 b0 b1 (at_ l m) → ¬ Dz a0 a1 b0 b1 (at_ l j) (at_ l m)) (h2 : ∀ m : Nat, m < j → Lf a0 a1 b0 b1 (at_ l m) → Dz a0 a1 b0 b1 (at_ l m) (at_ l j)) :
  ∀ (d i : Nat), j - i = d → i ≤ j → ∀ k, 50 * (d + 1) < k → zelligeref08_Best.l0 k l (i : Int) a0 a1 b0 b1 = some (j : Int) := by
 intro d
 induction d with
 | zero =>
  intro i e1 e2 k hk
  obtain ⟨k, rfl⟩ : ∃ m, k = m + 1 := ⟨k - 1, by omega⟩
  obtain rfl : i = j := by omega
  rw [zelligeref08_Best.l0, if_pos (by omega), if_pos (by omega), left_f Ha Hb (Hl i (by omega)), Option.bind_some, decide_eq_true L]
  exact in_ok Ha Hb Hl hl i hj L h1 l.length 0 rfl (Nat.zero_le _) k (by omega)
 | succ d ih =>
  intro i e1 e2 k hk
  obtain ⟨k, rfl⟩ : ∃ m, k = m + 3 := ⟨k - 3, by omega⟩
  rw [zelligeref08_Best.l0, if_pos (by omega), if_pos (by omega), left_f Ha Hb (Hl i (by omega)), Option.bind_some]
  by_cases g : Lf a0 a1 b0 b1 (at_ l i)
  ·rw [decide_eq_true g]
   obtain ⟨k', f1, f2⟩ := in_no Ha Hb Hl hl i j (by omega) g hj L (h2 i (by omega) g) j 0 rfl (Nat.zero_le _) (k + 2) (by omega)
   exact f2.trans (ih (i + 1) (by omega) (by omega) k' (by omega))
  ·rw [decide_eq_false g]
   exact (l1_false hl i 0 k (by omega)).trans (ih (i + 1) (by omega) (by omega) k (by omega))
theorem rBest_f {r : Int} (h : Inv a0 a1 b0 b1 l l.length r) {k : Nat} (hk : 2000 ≤ k) : zelligeref08_Best.f k a0 a1 b0 b1 l = some r := by
 unfold zelligeref08_Best.f
 rcases h with ⟨rfl, h⟩ | ⟨j, rfl, hj, L, h1, h2⟩
 ·exact rb_none Ha Hb Hl hl h l.length 0 rfl (Nat.zero_le _) k (by omega)
 ·exact rb_some Ha Hb Hl hl j hj L h1 h2 j 0 rfl (Nat.zero_le _) k (by omega)
theorem end_l0 {r : Int} (h : Inv a0 a1 b0 b1 l l.length r) : ∀ (d i : Nat) (s : Bool), l.length - i = d → i ≤ l.length → (s = true ↔ ∃ m : Nat, m < i ∧ Lf a0 a1 b0 b1 (at_ l m)) → ∀ k, 3000 + d < k → zelligelaw08_TieBest.l0 k l r s (i : Int) a0 a1 b0 b1 = some true := by
 intro d
 induction d with
 | zero =>
  intro i s h1 h2 h3 k hk
  obtain ⟨k, rfl⟩ : ∃ m, k = m + 1 := ⟨k - 1, by omega⟩
  obtain rfl : i = l.length := by omega
  have e : (decide (r ≥ 0) == s) = true := by
   rw [beq_iff_eq, Bool.eq_iff_iff, decide_eq_true_eq, h3]
   rcases h with ⟨rfl, h⟩ | ⟨j, rfl, hj, L, _⟩
   ·exact ⟨(fun q => by omega), fun ⟨m, q, q'⟩ => absurd q' (h m q)⟩
   ·exact ⟨(fun q => ⟨j, hj, L⟩), fun q => by omega⟩
  rw [zelligelaw08_TieBest.l0, if_neg (by omega), rBest_f Ha Hb Hl hl h (by omega), Option.bind_some, if_pos rfl, if_pos e, lives_true (by omega)]
  rfl
 | succ d ih =>
  intro i s h1 h2 h3 k hk
  obtain ⟨k, rfl⟩ : ∃ m, k = m + 1 := ⟨k - 1, by omega⟩
  have e1 := Aside0.mk (show wrap64 ((i : Int) + 1) = ((i + 1 : Nat) : Int) by rw [p64 (by omega)]; omega)
  have t1 : l.length - (i + 1) = d := by clear h3; omega
  have t2 : i + 1 ≤ l.length := by clear h3; omega
  have t3 : 3000 + d < k := by clear h3; omega
  have t4 : i < l.length := t2
  rw [zelligelaw08_TieBest.l0, if_pos (by clear h3; omega), e1.out]
  cases s
  ·rw [if_neg (by decide), if_pos (by clear h3; omega), left_f Ha Hb (Hl i t4), Option.bind_some]
   refine ih (i + 1) _ t1 t2 ?_ k t3
   rw [decide_eq_true_eq]
   refine ⟨fun q => ⟨i, Nat.lt_succ_self i, q⟩, fun ⟨m, q, q'⟩ => ?_⟩
   rcases lt_succ q with q | rfl
   ·exact absurd (h3.2 ⟨m, q, q'⟩) (by decide)
   ·exact q'
  ·rw [if_pos rfl]
   obtain ⟨m, q, q'⟩ := h3.1 rfl
   exact ih (i + 1) true t1 t2 ⟨fun _ => ⟨m, Nat.lt_succ_of_lt q, q'⟩, fun _ => rfl⟩ k t3
theorem end_l1 {r : Int} (h : Inv a0 a1 b0 b1 l l.length r) : ∀ (d i : Nat) (s : Bool), l.length - i = d → i ≤ l.length → (s = true ↔ ∃ m : Nat, m < i ∧ Lf a0 a1 b0 b1 (at_ l m)) → ∀ k, 3000 + d < k → zelligelaw08_TieBest.l1 k l r s (i : Int) a0 a1 b0 b1 = some true := by
 intro d
 induction d with
 | zero =>
  intro i s h1 h2 h3 k hk
  obtain ⟨k, rfl⟩ : ∃ m, k = m + 1 := ⟨k - 1, by omega⟩
  obtain rfl : i = l.length := by omega
  have e : (decide (r ≥ 0) == s) = true := by
   rw [beq_iff_eq, Bool.eq_iff_iff, decide_eq_true_eq, h3]
   rcases h with ⟨rfl, h⟩ | ⟨j, rfl, hj, L, _⟩
   ·exact ⟨(fun q => by omega), fun ⟨m, q, q'⟩ => absurd q' (h m q)⟩
   ·exact ⟨(fun q => ⟨j, hj, L⟩), fun q => by omega⟩
  rw [zelligelaw08_TieBest.l1, if_neg (by omega), rBest_f Ha Hb Hl hl h (by omega), Option.bind_some, if_pos rfl, if_pos e, lives_true (by omega)]
  rfl
 | succ d ih =>
  intro i s h1 h2 h3 k hk
  obtain ⟨k, rfl⟩ : ∃ m, k = m + 1 := ⟨k - 1, by omega⟩
  have e1 := Aside0.mk (show wrap64 ((i : Int) + 1) = ((i + 1 : Nat) : Int) by rw [p64 (by omega)]; omega)
  have t1 : l.length - (i + 1) = d := by clear h3; omega
  have t2 : i + 1 ≤ l.length := by clear h3; omega
  have t3 : 3000 + d < k := by clear h3; omega
  have t4 : i < l.length := t2
  rw [zelligelaw08_TieBest.l1, if_pos (by clear h3; omega), e1.out]
  cases s
  ·rw [if_neg (by decide), if_pos (by clear h3; omega), left_f Ha Hb (Hl i t4), Option.bind_some]
   refine ih (i + 1) _ t1 t2 ?_ k t3
   rw [decide_eq_true_eq]
   refine ⟨fun q => ⟨i, Nat.lt_succ_self i, q⟩, fun ⟨m, q, q'⟩ => ?_⟩
   rcases lt_succ q with q | rfl
   ·exact absurd (h3.2 ⟨m, q, q'⟩) (by decide)
   ·exact q'
  ·rw [if_pos rfl]
   obtain ⟨m, q, q'⟩ := h3.1 rfl
   exact ih (i + 1) true t1 t2 ⟨fun _ => ⟨m, Nat.lt_succ_of_lt q, q'⟩, fun _ => rfl⟩ k t3
end
theorem inv0 (a0 a1 b0 b1 : Int) (l : List S23) : Inv a0 a1 b0 b1 l 0 (-1) := .inl ⟨rfl, fun m hm => absurd hm (Nat.not_lt_zero _)⟩
theorem at_of {l : List S23} (h : ∀ p, p ∈ l → I64 p.f0 ∧ I64 p.f1) (m : Nat) (hm : m < l.length) : I64 (at_ l m).f0 ∧ I64 (at_ l m).f1 := by
 have e : at_ l m = l[m] := by unfold at_ rd_T23; simp [List.getD_eq_getElem?_getD, hm]
 rw [e]
 exact h _ (List.getElem_mem hm)
theorem bests_f {a0 a1 b0 b1 : Int} {l : List S23} (Ha : I64 a0 ∧ I64 a1) (Hb : I64 b0 ∧ I64 b1) (H : ∀ p, p ∈ l → I64 p.f0 ∧ I64 p.f1) {k : Nat} (hk : 3100 ≤ k) : zelligelaw08_TieBest.f k a0 a1 b0 b1 l = some true := by
 unfold zelligelaw08_TieBest.f
 by_cases g : (l.length : Int) > 12
 ·have hl : (l.take 12).length ≤ 12 := by rw [List.length_take]; omega
  obtain ⟨r, e, h⟩ := best_l0 (a0 := a0) (a1 := a1) (b0 := b0) (b1 := b1) hl (l.take 12).length 0 (-1) rfl (Nat.zero_le _) (inv0 ..) k (by omega)
  have e' : tie_Best.f k a0 a1 b0 b1 (l.take 12) = some r := e
  have z := end_l0 Ha Hb (at_of (fun p hp => H p (List.mem_of_mem_take hp))) hl h (l.take 12).length 0 false rfl (Nat.zero_le _) ⟨(fun q => by cases q), fun ⟨m, q, _⟩ => absurd q (Nat.not_lt_zero _)⟩ k (by omega)
  rw [if_pos g, if_pos (by omega), Option.bind_some, Option.bind_some, if_pos (by rw [List.length_nil]; omega), Option.bind_some, Option.bind_some, if_pos (by rw [List.nil_append, List.length_nil]; omega), List.nil_append, List.nil_append, e', Option.bind_some]
  exact z
 ·have hl : l.length ≤ 12 := by omega
  obtain ⟨r, e, h⟩ := best_l0 (a0 := a0) (a1 := a1) (b0 := b0) (b1 := b1) hl l.length 0 (-1) rfl (Nat.zero_le _) (inv0 ..) k (by omega)
  have e' : tie_Best.f k a0 a1 b0 b1 l = some r := e
  have z := end_l1 Ha Hb (at_of H) hl h l.length 0 false rfl (Nat.zero_le _) ⟨(fun q => by cases q), fun ⟨m, q, _⟩ => absurd q (Nat.not_lt_zero _)⟩ k (by omega)
  rw [if_neg g, Option.bind_some, if_pos (by rw [List.length_nil]; omega), Option.bind_some, Option.bind_some, if_pos (by rw [List.nil_append, List.length_nil]; omega), List.nil_append, List.nil_append, e', Option.bind_some]
  exact z
theorem bests_calls (a0_0 a0_1 a1_0 a1_1 : Int) (A2 : Option Addr) (c2 : Nat) (l2 : List S23) (w : World) (h0_0 : (Lit.int .i64 a0_0).wf = true) (h0_1 : (Lit.int .i64 a0_1).wf = true) (h1_0 : (Lit.int .i64 a1_0).wf = true) (h1_1 : (Lit.int .i64 a1_1).wf = true) (z : l2.length ≤ c2) (hr : Kd.C k23 w A2 l2.length l2) (y : ∀ n, n ∈ l2 → (Lit.int .i64 n.f0).wf = true ∧ (Lit.int .i64 n.f1).wf = true) :
  Calls Try.prog 7 #[.agg #[.int .i64 a0_0, .int .i64 a0_1], .agg #[.int .i64 a1_0, .int .i64 a1_1], .slice A2 l2.length c2] w fun e w' => e = .returned (.bool true) ∧ Below w.heap.size w w' :=
 zelligelaw08_TieBest.calls 3100 _ _ _ _ _ _ _ w hr z (bests_f ⟨i64_of h0_0, i64_of h0_1⟩ ⟨i64_of h1_0, i64_of h1_1⟩ (fun p hp => ⟨i64_of (y p hp).1, i64_of (y p hp).2⟩) (by omega))
end Go.Proofs.Ytlkngfidohiepaa.Tl
end
section
namespace Go.Proofs.Ytlkngfidohiepaa.RK
end Go.Proofs.Ytlkngfidohiepaa.RK
end
section
namespace Go.Proofs.Ytlkngfidohiepaa.RK
open Go Go.ChangeShapes Go.WideShapes Go.ChangeAt RowKit Go.WideElems Go.Maps Go.Deep
variable {H : Type} {enc : TypeId × Value → H} {P : Program}
theorem cells_two {w : World} {sp : Nat → Bool} {held : Bool} {base fuel : Nat} {e : TypeId} {f0 f1 : Field} {k0 k1 : IntKind} {v0 v1 : Value} {x : DataW H × List MemPlace} (hs : P.underlying e = some (.struct #[f0, f1]))
  (o0 : f0.offset = 0) (o1 : f1.offset = 1) (s0 : P.cellsOf f0.type = 1) (s1 : P.cellsOf f1.type = 1) (h0 : P.underlying f0.type = some (.int k0)) (h1 : P.underlying f1.type = some (.int k1)) (h : DataW.trod enc P w base sp held fuel e [v0, v1] = some x) :
  ∃ a b : Int, v0 = .int k0 a ∧ v1 = .int k1 b ∧ (Lit.int k0 a).wf = true ∧ (Lit.int k1 b).wf = true := by
 obtain ⟨y0, y1, n, _, _, g0, g1⟩ := trod_struct2 hs h
 rw [o0, s0] at g0
 rw [o1, s1] at g1
 obtain ⟨a, ea, _, wa⟩ := DataW.trod_int h0 g0
 obtain ⟨b, eb, _, wb⟩ := DataW.trod_int h1 g1
 simp at ea eb
 exact ⟨a, b, ea, eb, wa, wb⟩
end Go.Proofs.Ytlkngfidohiepaa.RK
end
section
namespace Go.Proofs.Ytlkngfidohiepaa.RK
open Go Go.ChangeShapes Go.WideShapes Go.ChangeAt RowKit Go.WideElems Go.Maps Go.Deep YtlkngfidohiepaaW.PrintWords Ytlkngfidohiepaa.F
variable {H : Type} {enc : TypeId × Value → H} {P : Program}
set_option linter.unusedVariables false
theorem open_pts {w : World} {sp : Nat → Bool} {held : Bool} {r : Reach} {b0 base : Nat} {t e : TypeId} {f0 f1 : Field} {v : Value} {d : DataW H} {p : List MemPlace} (ht : P.underlying t = some (.slice e)) (hs : P.underlying e = some (.struct #[f0, f1]))
  (o0 : f0.offset = 0) (o1 : f1.offset = 1) (s0 : P.cellsOf f0.type = 1) (s1 : P.cellsOf f1.type = 1) (h0 : P.underlying f0.type = some (.int .i64)) (h1 : P.underlying f1.type = some (.int .i64)) (two : P.cellsOf e = 2)
  (hv : Value.okWide P w r b0 t v) (h : DataW.Trod enc P w base sp held t v d p) :
  ∃ (A : Option Addr) (c : Nat) (xs : List S23), v = .slice A xs.length c ∧ xs.length ≤ c ∧ Kd.C k23 w A xs.length xs ∧ ∀ n, n ∈ xs → (Lit.int .i64 n.f0).wf = true ∧ (Lit.int .i64 n.f1).wf = true := by
 obtain ⟨a0, len, cap, rfl⟩ := okWide_slice ht hv
 obtain ⟨fuel, hf⟩ := h
 rcases DataW.trod_slice ht hf with ⟨hcs, hx⟩ | ⟨a, len', cap', elems, rest, n, _, hcs, hx, hb, hl, hm, hlen, hel, hsp, hns⟩
 ·simp [Value.cells] at hcs
  obtain ⟨rfl, rfl, rfl⟩ := hcs
  exact ⟨none, 0, [], rfl, Nat.le_refl _, ⟨rfl, by decide, fun h => absurd h (by decide)⟩, fun n hn => by cases hn⟩
 ·simp [Value.cells] at hcs
  obtain ⟨rfl, rfl, rfl⟩ := hcs
  have each : ∀ i, i < len → ∃ x : S23, w.cell? (a.add (i * 2)) = some (.int .i64 x.f0) ∧ w.cell? (a.add (i * 2 + 1)) = some (.int .i64 x.f1) ∧ (Lit.int .i64 x.f0).wf = true ∧ (Lit.int .i64 x.f1).wf = true := by
   intro i hi
   have g := hel i hi
   rw [List.getElem?_eq_getElem (by omega), two, Option.bind_eq_some_iff] at g
   obtain ⟨cs, hcs, hy⟩ := g
   obtain ⟨_, h2, hc⟩ := World.cells?_some hcs
   match cs, h2, hc, hy with
   | [v0, v1], _, hc, hy =>
    obtain ⟨x, y, rfl, rfl, wx, wy⟩ := cells_two hs o0 o1 s0 s1 h0 h1 hy
    have c0 := hc 0 (by omega)
    have c1 := hc 1 (by omega)
    rw [Addr.add_add] at c0 c1
    exact ⟨⟨x, y⟩, c0, c1, wx, wy⟩
  obtain ⟨f, hF⟩ : ∃ f : Nat → S23, ∀ i, i < len → w.cell? (a.add (i * 2)) = some (.int .i64 (f i).f0) ∧ w.cell? (a.add (i * 2 + 1)) = some (.int .i64 (f i).f1) ∧ (Lit.int .i64 (f i).f0).wf = true ∧ (Lit.int .i64 (f i).f1).wf = true := by
   refine ⟨fun i => if h : i < len then Classical.choose (each i h) else ⟨0, 0⟩, fun i hi => ?_⟩
   have := Classical.choose_spec (each i hi)
   simpa only [dif_pos hi] using this
  have e1 : ((List.range len).map f).length = len := by simp
  refine ⟨some a, cap, (List.range len).map f, by rw [e1], by omega, ⟨by simp, by unfold maxLen at hm; omega, fun _ => ⟨a, rfl, fun j p hj => ?_⟩⟩, fun n hn => ?_⟩
  ·obtain ⟨hj1, hj2⟩ := List.getElem?_eq_some_iff.1 hj
   have hjl : j < len := by omega
   rw [List.getElem_map, List.getElem_range] at hj2
   subst hj2
   obtain ⟨c0, c1, _, _⟩ := hF j hjl
   refine ⟨[.int .i64 (f j).f0, .int .i64 (f j).f1], rfl, k23_mk w (f j), fun i u hu => ?_⟩
   match i, hu with
   | 0, hu => obtain rfl := Option.some.inj hu; exact c0
   | 1, hu => obtain rfl := Option.some.inj hu; exact c1
  ·obtain ⟨i, hi, rfl⟩ := List.mem_map.1 hn
   have := hF i (by simpa using hi)
   exact ⟨this.2.2.1, this.2.2.2⟩
end Go.Proofs.Ytlkngfidohiepaa.RK
end
