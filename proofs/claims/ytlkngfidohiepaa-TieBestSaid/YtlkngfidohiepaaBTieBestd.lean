/- TieBest: own texts in one (part 4 of 6): contracts of the functions that the law reaches. -/
import Derived.Test.YtlkngfidohiepaaBTieBestc

section
namespace Go.Proofs.Ytlkngfidohiepaa.F
open RowKit YtlkngfidohiepaaW.PrintWords YtlkngfidohiepaaW.PrintLast YtlkngfidohiepaaW.PrintMore
set_option linter.unusedVariables false
set_option linter.unusedSimpArgs false
mutual
def zelligeref03_Mul.l0 : Nat → List Int → List Int → List Int → Int → Option (List Int)
 | 0, _, _, _, _ => none
 | k + 1, x0, x1, x5, x6 => if x6 < (x0.length : Int) then (zelligeref03_Mul.l1 k x0 x1 x5 x6 0 0) else ((zelligeref03_Trim.f k x5).bind fun t421 => (some t421))
def zelligeref03_Mul.l1 : Nat → List Int → List Int → List Int → Int → Int → Int → Option (List Int)
 | 0, _, _, _, _, _, _ => none
 | k + 1, x0, x1, x5, x6, x7, x8 => if x8 < (x1.length : Int) then (if 0 ≤ (wrap64 (x6 + x8)) then (if (wrap64 (x6 + x8)) < (x5.length : Int) then (if 0 ≤ x6 then (if x6 < (x0.length : Int) then (if 0 ≤ x8 then (zelligeref03_Mul.l1 k x0 x1 (x5.set ((wrap64 (x6 + x8)) : Int).toNat (Int.tmod (wrap64 ((wrap64 (x7 + (rd x5 (wrap64 (x6 + x8))))) + (wrap64 ((rd x0 x6) * (rd x1 x8))))) 65536)) x6 (wrap64 (Int.tdiv (wrap64 ((wrap64 (x7 + (rd x5 (wrap64 (x6 + x8))))) + (wrap64 ((rd x0 x6) * (rd x1 x8))))) 65536)) (wrap64 (x8 + 1))) else (none)) else (none)) else (none)) else (none)) else (none)) else (if 0 ≤ (wrap64 (x6 + (x1.length : Int))) then (if (wrap64 (x6 + (x1.length : Int))) < (x5.length : Int) then (zelligeref03_Mul.l0 k x0 x1 (x5.set ((wrap64 (x6 + (x1.length : Int))) : Int).toNat x7) (wrap64 (x6 + 1))) else (none)) else (none))
end
def zelligeref03_Mul.f (k : Nat) (l0 : List Int) (l1 : List Int) : Option (List Int) := if 0 ≤ (wrap64 ((l0.length : Int) + (l1.length : Int))) then (if (wrap64 ((l0.length : Int) + (l1.length : Int)) : Int).toNat ≤ 35184372088832 then (zelligeref03_Mul.l0 k l0 l1 (List.replicate (wrap64 ((l0.length : Int) + (l1.length : Int)) : Int).toNat 0) 0) else (none)) else (none)
theorem zelligeref03_Mul.mono_l : ∀ k, (∀ y0 y1 y2 y3, LeO (zelligeref03_Mul.l0 k y0 y1 y2 y3) (zelligeref03_Mul.l0 (k + 1) y0 y1 y2 y3)) ∧ (∀ y0 y1 y2 y3 y4 y5, LeO (zelligeref03_Mul.l1 k y0 y1 y2 y3 y4 y5) (zelligeref03_Mul.l1 (k + 1) y0 y1 y2 y3 y4 y5))
 | 0 => ⟨fun _ _ _ _ r h => by simp [zelligeref03_Mul.l0] at h, fun _ _ _ _ _ _ r h => by simp [zelligeref03_Mul.l1] at h⟩
 | k + 1 => by
  obtain ⟨ih0, ih1⟩ := zelligeref03_Mul.mono_l k
  refine ⟨?_, ?_⟩
  ·intro y0 y1 y2 y3
   unfold zelligeref03_Mul.l0
   repeat' first
   | (with_reducible exact ih0 _ _ _ _)
   | (with_reducible exact ih1 _ _ _ _ _ _)
   | (with_reducible exact zelligeref03_Trim.mono _ _)
   | (with_reducible exact LeO.refl _)
   | (with_reducible exact LeO.none _)
   | (with_reducible refine LeO.ite ?_ ?_)
   | (with_reducible refine LeO.bind ?_ (fun _ => ?_))
   | exact ih0 _ _ _ _
   | exact ih1 _ _ _ _ _ _
   | exact zelligeref03_Trim.mono _ _
   | exact LeO.none _
   | refine LeO.ite ?_ ?_
   | refine LeO.bind ?_ (fun _ => ?_)
  ·intro y0 y1 y2 y3 y4 y5
   unfold zelligeref03_Mul.l1
   repeat' first
   | (with_reducible exact ih0 _ _ _ _)
   | (with_reducible exact ih1 _ _ _ _ _ _)
   | (with_reducible exact zelligeref03_Trim.mono _ _)
   | (with_reducible exact LeO.refl _)
   | (with_reducible exact LeO.none _)
   | (with_reducible refine LeO.ite ?_ ?_)
   | (with_reducible refine LeO.bind ?_ (fun _ => ?_))
   | exact ih0 _ _ _ _
   | exact ih1 _ _ _ _ _ _
   | exact zelligeref03_Trim.mono _ _
   | exact LeO.none _
   | refine LeO.ite ?_ ?_
   | refine LeO.bind ?_ (fun _ => ?_)
theorem zelligeref03_Mul.mono : ∀ a0 a1 k, LeO (zelligeref03_Mul.f k a0 a1) (zelligeref03_Mul.f (k + 1) a0 a1) := by
 intro a0 a1 k
 obtain ⟨ih0, ih1⟩ := zelligeref03_Mul.mono_l k
 unfold zelligeref03_Mul.f
 repeat' first
   | (with_reducible exact ih0 _ _ _ _)
   | (with_reducible exact ih1 _ _ _ _ _ _)
   | (with_reducible exact zelligeref03_Trim.mono _ _)
   | (with_reducible exact LeO.refl _)
   | (with_reducible exact LeO.none _)
   | (with_reducible refine LeO.ite ?_ ?_)
   | (with_reducible refine LeO.bind ?_ (fun _ => ?_))
   | exact ih0 _ _ _ _
   | exact ih1 _ _ _ _ _ _
   | exact zelligeref03_Trim.mono _ _
   | exact LeO.none _
   | refine LeO.ite ?_ ?_
   | refine LeO.bind ?_ (fun _ => ?_)
set_option maxHeartbeats 8000000 in
set_option maxRecDepth 100000 in
theorem zelligeref03_Mul.calls (k : Nat) (A0 : Option Addr) (c0 : Nat) (l0 : List Int) (A1 : Option Addr) (c1 : Nat) (l1 : List Int) (r : List Int) (w : World) (hr0 : Kd.C (Kd.int .i64) w A0 l0.length l0) (hc0 : l0.length ≤ c0) (hr1 : Kd.C (Kd.int .i64) w A1 l1.length l1) (hc1 : l1.length ≤ c1) (h : zelligeref03_Mul.f k l0 l1 = some r) :
  Calls Try.prog 50 #[.slice A0 l0.length c0, .slice A1 l1.length c1] w fun e w' => ∃ v0_ : Value, e = .returned (v0_) ∧ Kd.R (Kd.int .i64) 3 w' w.heap.size (fun _ => True) v0_ r ∧ Below w.heap.size w w' := by
 have HR0 := Aside0.mk hr0
 have HC0 := Aside0.mk hc0
 clear hr0 hc0
 have HR1 := Aside0.mk hr1
 have HC1 := Aside0.mk hc1
 clear hr1 hc1
 have HB := Aside0.mk (Below.refl w.heap.size w)
 have H : (if 0 ≤ (wrap64 ((l0.length : Int) + (l1.length : Int))) then (if (wrap64 ((l0.length : Int) + (l1.length : Int)) : Int).toNat ≤ 35184372088832 then (zelligeref03_Mul.l0 k l0 l1 (List.replicate (wrap64 ((l0.length : Int) + (l1.length : Int)) : Int).toNat 0) 0) else (none)) else (none)) = some r := h
 clear h
 obtain ⟨ji3, hji3⟩ : ∃ j_ : Int, (wrap64 ((l0.length : Int) + (l1.length : Int))) = j_ := ⟨_, rfl⟩
 replace H : (if 0 ≤ (ji3) then (if (ji3 : Int).toNat ≤ 35184372088832 then (zelligeref03_Mul.l0 k l0 l1 (List.replicate (ji3 : Int).toNat 0) 0) else (none)) else (none)) = some r := by first | (rw [hji3] at H; exact H) | (simp only [hji3] at H ⊢; exact H)
 have hji3w : (IntKind.i64.wrap ((l0.length : Int) + (l1.length : Int))) = ji3 := (i64_w _).trans hji3
 by_cases c4 : 0 ≤ (ji3)
 ·rw [if_pos c4] at H
  have c4b0 := eq_true c4
  have c4b1 : decide (0 ≤ (ji3)) = true := decide_eq_true c4
  clear c4
  by_cases c5 : (ji3 : Int).toNat ≤ 35184372088832
  ·rw [if_pos c5] at H
   have c5b0 := eq_true c5
   have c5b1 : decide ((ji3 : Int).toNat ≤ 35184372088832) = true := decide_eq_true c5
   clear c5
   obtain ⟨y418, hy418⟩ : ∃ y_ : List Int, y_ = (List.replicate (ji3 : Int).toNat 0) := ⟨_, rfl⟩
   replace H : (zelligeref03_Mul.l0 k l0 l1 y418 0) = some r := by first | (rw [hy418]; with_reducible exact H) | (have H2_ := (Option.bind_some _ _).symm.trans H; rw [hy418]; with_reducible exact H2_) | (have H2_ := (Option.bind_some _ _).symm.trans H; with_reducible exact H2_) | with_reducible exact H | (rw [hy418]; exact H) | exact H
   have Ny418 := Aside0.mk hy418
   clear hy418
   have H' := Aside0.mk H
   clear H
   go_enter Try.func50, Try.ntmps50
   go_wp2_with (first | ((with_reducible refine gate_dst (N := 14) rfl ?_); refine Kd.R_make (Kd.int .i64) _ 3 rfl (N := 14) rfl 39 _ _ rfl ji3 rfl rfl Try.underlying39 (.int .i64 0) 8 info3 rfl (by decide) (by omega) 0 (ok := fun _ => True) (okp := fun _ => True) rfl (fun _ hk => hk) trivial (of_decide_eq_true (by first | (with_reducible assumption) | assumption)) (Nat.le_trans (Nat.mul_le_mul_right _ (of_decide_eq_true (by first | (with_reducible assumption) | assumption) : ji3.toNat ≤ 35184372088832)) (by omega)) (Below.refl _ _) (Nat.le_refl _) ?_; intro v419 w6 ho7 hb hg_ hnew_; clear hg_ hnew_; (first | rw [← Ny418.out] at ho7 | (simp only [Int.reduceToNat] at ho7; rw [← Ny418.out] at ho7)); have n0_ := Aside0.mk (Kd.R_lower ho7 (below_size (bw HB.out))); have n1_ := u2 HB hb; clear HB; have HO420 := n0_; have HB := n1_; clear n0_ n1_; clear hb ho7))
   repeat (go_quiet (first | ((with_reducible refine gate_dst (N := 14) rfl ?_); refine Kd.R_make (Kd.int .i64) _ 3 rfl (N := 14) rfl 39 _ _ rfl ji3 rfl rfl Try.underlying39 (.int .i64 0) 8 info3 rfl (by decide) (by omega) 0 (ok := fun _ => True) (okp := fun _ => True) rfl (fun _ hk => hk) trivial (of_decide_eq_true (by first | (with_reducible assumption) | assumption)) (Nat.le_trans (Nat.mul_le_mul_right _ (of_decide_eq_true (by first | (with_reducible assumption) | assumption) : ji3.toNat ≤ 35184372088832)) (by omega)) (Below.refl _ _) (Nat.le_refl _) ?_; intro v419 w6 ho7 hb hg_ hnew_; clear hg_ hnew_; (first | rw [← Ny418.out] at ho7 | (simp only [Int.reduceToNat] at ho7; rw [← Ny418.out] at ho7)); have n0_ := Aside0.mk (Kd.R_lower ho7 (below_size (bw HB.out))); have n1_ := u2 HB hb; clear HB; have HO420 := n0_; have HB := n1_; clear n0_ n1_; clear hb ho7)); try go_wp2_with (first | ((with_reducible refine gate_dst (N := 14) rfl ?_); refine Kd.R_make (Kd.int .i64) _ 3 rfl (N := 14) rfl 39 _ _ rfl ji3 rfl rfl Try.underlying39 (.int .i64 0) 8 info3 rfl (by decide) (by omega) 0 (ok := fun _ => True) (okp := fun _ => True) rfl (fun _ hk => hk) trivial (of_decide_eq_true (by first | (with_reducible assumption) | assumption)) (Nat.le_trans (Nat.mul_le_mul_right _ (of_decide_eq_true (by first | (with_reducible assumption) | assumption) : ji3.toNat ≤ 35184372088832)) (by omega)) (Below.refl _ _) (Nat.le_refl _) ?_; intro v419 w6 ho7 hb hg_ hnew_; clear hg_ hnew_; (first | rw [← Ny418.out] at ho7 | (simp only [Int.reduceToNat] at ho7; rw [← Ny418.out] at ho7)); have n0_ := Aside0.mk (Kd.R_lower ho7 (below_size (bw HB.out))); have n1_ := u2 HB hb; clear HB; have HO420 := n0_; have HB := n1_; clear n0_ n1_; clear hb ho7)))
   go_loopg [6] k (fun kq v6 w' => ∃ (x5_1 : List Int) (x6_1 : Int), v6 = .int .i64 x6_1 ∧ Aside0 (zelligeref03_Mul.l0 kq l0 l1 x5_1 x6_1 = some r) ∧ Aside0 (kq ≤ k) ∧ Aside0 (Kd.R (Kd.int .i64) 3 w' w.heap.size (fun _ => True) v419 x5_1) ∧ Aside0 (Below w.heap.size w w'))
   case atStart => exact ⟨(y418), (0), (by first | rfl | (simp; done) | (simp [*]; done)), H', ⟨Nat.le_refl _⟩, ⟨by (with_reducible repeat (first | apply Kd.R_alloc | apply Kd.R_drewN | apply Kd.R_drew)); exact HO420.out⟩, ⟨bw HB.out⟩⟩
   case round =>
    clear H'
    try clear c1
    try clear p2
    try clear c4
    try clear c4b0
    try clear c4b1
    try clear c5
    try clear c5b0
    try clear c5b1
    try clear p6
    obtain ⟨x5_1, x6_1, rfl, HA, HK1, HO_5, HB⟩ := hrel
    cases gk with
    | zero => exact absurd HA.out (by simp [zelligeref03_Mul.l0])
    | succ k1 =>
     have H := HA.out
     clear HA
     simp only [zelligeref03_Mul.l0] at H
     by_cases c8 : x6_1 < (l0.length : Int)
     ·rw [if_pos c8] at H
      have c8b0 : decide (x6_1 < (l0.length : Int)) = true := decide_eq_true c8
      clear c8
      have H' := Aside0.mk H
      clear H
      go_wp2
      repeat (go_quiet (fail); try go_wp2)
      go_loopg [7, 8] k1 (fun kq v7 v8 w' => ∃ (x5_2 : List Int) (x7_2 : Int) (x8_2 : Int), v7 = .int .i64 x7_2 ∧ v8 = .int .i64 x8_2 ∧ Aside0 (zelligeref03_Mul.l1 kq l0 l1 x5_2 x6_1 x7_2 x8_2 = some r) ∧ Aside0 (kq ≤ k1) ∧ Aside0 (Kd.R (Kd.int .i64) 3 w' w.heap.size (fun _ => True) v419 x5_2) ∧ Aside0 (Below w.heap.size w w'))
      case atStart => exact ⟨(x5_1), (0), (0), (by first | rfl | (simp; done) | (simp [*]; done)), (by first | rfl | (simp; done) | (simp [*]; done)), H', ⟨Nat.le_refl _⟩, ⟨by (with_reducible repeat (first | apply Kd.R_alloc | apply Kd.R_drewN | apply Kd.R_drew)); exact HO_5.out⟩, ⟨bw HB.out⟩⟩
      case round =>
       clear H'
       try clear c1
       try clear p2
       try clear c4
       try clear c4b0
       try clear c4b1
       try clear c5
       try clear c5b0
       try clear c5b1
       try clear p6
       try clear c8
       try clear c8b0
       try clear p2
       try clear p6
       obtain ⟨x5_2, x7_2, x8_2, rfl, rfl, HA, HK2, HO_5, HB⟩ := hrel
       cases gk with
       | zero => exact absurd HA.out (by simp [zelligeref03_Mul.l1])
       | succ k2 =>
        have H := HA.out
        clear HA
        simp only [zelligeref03_Mul.l1] at H
        by_cases c9 : x8_2 < (l1.length : Int)
        ·rw [if_pos c9] at H
         have c9b0 : decide (x8_2 < (l1.length : Int)) = true := decide_eq_true c9
         clear c9
         obtain ⟨ji10, hji10⟩ : ∃ j_ : Int, (wrap64 (x6_1 + x8_2)) = j_ := ⟨_, rfl⟩
         replace H : (if 0 ≤ (ji10) then (if (ji10) < (x5_2.length : Int) then (if 0 ≤ x6_1 then (if x6_1 < (l0.length : Int) then (if 0 ≤ x8_2 then (zelligeref03_Mul.l1 k2 l0 l1 (x5_2.set ((ji10) : Int).toNat (Int.tmod (wrap64 ((wrap64 (x7_2 + (rd x5_2 (ji10)))) + (wrap64 ((rd l0 x6_1) * (rd l1 x8_2))))) 65536)) x6_1 (wrap64 (Int.tdiv (wrap64 ((wrap64 (x7_2 + (rd x5_2 (ji10)))) + (wrap64 ((rd l0 x6_1) * (rd l1 x8_2))))) 65536)) (wrap64 (x8_2 + 1))) else (none)) else (none)) else (none)) else (none)) else (none)) = some r := by first | (rw [hji10] at H; exact H) | (simp only [hji10] at H ⊢; exact H)
         have hji10w : (IntKind.i64.wrap (x6_1 + x8_2)) = ji10 := (i64_w _).trans hji10
         by_cases c11 : 0 ≤ (ji10)
         ·rw [if_pos c11] at H
          have c11b0 : decide (0 ≤ (ji10)) = true := decide_eq_true c11
          clear c11
          by_cases c12 : (ji10) < (x5_2.length : Int)
          ·rw [if_pos c12] at H
           have c12b0 : decide ((ji10) < (x5_2.length : Int)) = true := decide_eq_true c12
           clear c12
           by_cases c13 : 0 ≤ x6_1
           ·rw [if_pos c13] at H
            have c13b0 : decide (0 ≤ x6_1) = true := decide_eq_true c13
            clear c13
            by_cases c14 : x6_1 < (l0.length : Int)
            ·rw [if_pos c14] at H
             have c14b0 : decide (x6_1 < (l0.length : Int)) = true := decide_eq_true c14
             clear c14
             by_cases c15 : 0 ≤ x8_2
             ·rw [if_pos c15] at H
              have c15b0 : decide (0 ≤ x8_2) = true := decide_eq_true c15
              clear c15
              obtain ⟨y427, hy427⟩ : ∃ y_ : List Int, y_ = (x5_2.set ((ji10) : Int).toNat (Int.tmod (wrap64 ((wrap64 (x7_2 + (rd x5_2 (ji10)))) + (wrap64 ((rd l0 x6_1) * (rd l1 x8_2))))) 65536)) := ⟨_, rfl⟩
              replace H : (zelligeref03_Mul.l1 k2 l0 l1 y427 x6_1 (wrap64 (Int.tdiv (wrap64 ((wrap64 (x7_2 + (rd x5_2 (ji10)))) + (wrap64 ((rd l0 x6_1) * (rd l1 x8_2))))) 65536)) (wrap64 (x8_2 + 1))) = some r := by first | (rw [hy427]; with_reducible exact H) | (have H2_ := (Option.bind_some _ _).symm.trans H; rw [hy427]; with_reducible exact H2_) | (have H2_ := (Option.bind_some _ _).symm.trans H; with_reducible exact H2_) | with_reducible exact H | (rw [hy427]; exact H) | exact H
              have Ny427 := Aside0.mk hy427
              clear hy427
              have H' := Aside0.mk H
              clear H
              obtain ⟨Ao17, co17, eo17⟩ := Kd.R_slice HO_5.out
              subst eo17
              have p424 : 0 ≤ ((ji10) : Int) := dt_
              have q424 : (ji10) < (x5_2.length : Int) := dt_
              obtain ⟨ad424, e424, hx424_0⟩ := Kd.at_int (Kd.R_reads' HO_5.out).2.2 (ji10) p424 q424
              cases e424
              replace p424 := eq_true p424
              replace q424 := eq_true q424
              have p425 : 0 ≤ (x6_1 : Int) := dt_
              have q425 : x6_1 < (l0.length : Int) := dt_
              obtain ⟨ad425, e425, hx425_0⟩ := Kd.at_int HR0.out x6_1 p425 q425
              cases e425
              replace hx425_0 := (HB.out.cell (World.block_lt_of_cell? w _ hx425_0)).trans hx425_0
              replace p425 := eq_true p425
              replace q425 := eq_true q425
              have p426 : 0 ≤ (x8_2 : Int) := dt_
              have q426 : x8_2 < (l1.length : Int) := dt_
              obtain ⟨ad426, e426, hx426_0⟩ := Kd.at_int HR1.out x8_2 p426 q426
              cases e426
              replace hx426_0 := (HB.out.cell (World.block_lt_of_cell? w _ hx426_0)).trans hx426_0
              replace p426 := eq_true p426
              replace q426 := eq_true q426
              have p16 : 0 ≤ ((ji10) : Int) := dt_
              have q16 : ((ji10) : Int) < ((x5_2.length : Int) : Int) := dt_
              obtain ⟨go16, co16, eo16, gb16, gl16, cl16, HG16⟩ := Kd.R_form HO_5.out (by omega)
              (first | cases eo16 | (injection eo16 with ea_ en_ ec_; (first | subst ea_ | (injection ea_ with ea_; subst ea_)); subst ec_; clear en_))
              have GB16 := Aside0.mk gb16
              have GG16 := Aside0.mk HG16
              clear gb16 gl16 HG16
              (first | simp only [add_plain] at hx424_0 | skip)
              obtain ⟨hx16_0, hf16_0⟩ := Kd.R_celln 0 HO_5.out ((ji10) : Int) p16 q16
              replace p16 := eq_true p16
              replace q16 := eq_true q16
              have HP18 := Kd.R_putg HO_5.out ((ji10) : Int) (Int.tmod (wrap64 ((wrap64 (x7_2 + (rd x5_2 (ji10)))) + (wrap64 ((rd l0 x6_1) * (rd l1 x8_2))))) 65536)
              go_wp2_with (first | ((with_reducible refine gate_store (t := 3) (p := 53) rfl ?_); (try (rw [drewN_self wr]; generalize hq_ : World.drewN wr _ = wr; have n0_ := Aside0.mk (Kd.R_at hq_ HO_5.out); have n1_ := Aside0.mk (below_at hq_ HB.out); clear hq_ HO_5 HB; have HO_5 := n0_; have HB := n1_; clear n0_ n1_; (try (obtain ⟨hxHP18_, hfHP18_⟩ := Kd.R_celln 0 HO_5.out ((ji10) : Int) (of_eq_true (by assumption)) (of_eq_true (by assumption)))); (try (have HP18 := Kd.R_putg HO_5.out ((ji10) : Int) (Int.tmod (wrap64 ((wrap64 (x7_2 + (rd x5_2 (ji10)))) + (wrap64 ((rd l0 x6_1) * (rd l1 x8_2))))) 65536))))); refine store_event (t := 3) (p := 53) (v := ?vo_w19) (w1 := (wr.setCell ⟨go16, ((ji10) : Int).toNat, none⟩ (.int .i64 (Int.tmod (wrap64 ((wrap64 (x7_2 + (rd x5_2 (ji10)))) + (wrap64 ((rd l0 x6_1) * (rd l1 x8_2))))) 65536)))) ?hg ?ho ?hn ?hr ?_; (case ho => rfl); (case hg => rfl); (case hn => rfl); (case hr => first | (go_simp; done) | (go_simp; rfl)); intro w19 hw; have hg : wr.grownBy w19 (some go16) := (by rw [hw]; exact HP18.2); have hp_ : Kd.R (Kd.int .i64) 3 w19 w.heap.size (fun _ => True) (.slice (some ⟨go16, 0, none⟩) x5_2.length co17) y427 := (by rw [hw, Ny427.out]; exact HP18.1); clear HP18; have n0_ := Aside0.mk (hp_); have n1_ := Aside0.mk ((by rw [hw]; exact below_set (HB.out) GB16.out : Below w.heap.size w w19)); clear HO_5; clear HB; have HO_5 := n0_; have HB := n1_; clear n0_ n1_; clear hg hw hp_))
              repeat (go_quiet (first | ((with_reducible refine gate_store (t := 3) (p := 53) rfl ?_); (try (rw [drewN_self wr]; generalize hq_ : World.drewN wr _ = wr; have n0_ := Aside0.mk (Kd.R_at hq_ HO_5.out); have n1_ := Aside0.mk (below_at hq_ HB.out); clear hq_ HO_5 HB; have HO_5 := n0_; have HB := n1_; clear n0_ n1_; (try (obtain ⟨hxHP18_, hfHP18_⟩ := Kd.R_celln 0 HO_5.out ((ji10) : Int) (of_eq_true (by assumption)) (of_eq_true (by assumption)))); (try (have HP18 := Kd.R_putg HO_5.out ((ji10) : Int) (Int.tmod (wrap64 ((wrap64 (x7_2 + (rd x5_2 (ji10)))) + (wrap64 ((rd l0 x6_1) * (rd l1 x8_2))))) 65536))))); refine store_event (t := 3) (p := 53) (v := ?vo_w19) (w1 := (wr.setCell ⟨go16, ((ji10) : Int).toNat, none⟩ (.int .i64 (Int.tmod (wrap64 ((wrap64 (x7_2 + (rd x5_2 (ji10)))) + (wrap64 ((rd l0 x6_1) * (rd l1 x8_2))))) 65536)))) ?hg ?ho ?hn ?hr ?_; (case ho => rfl); (case hg => rfl); (case hn => rfl); (case hr => first | (go_simp; done) | (go_simp; rfl)); intro w19 hw; have hg : wr.grownBy w19 (some go16) := (by rw [hw]; exact HP18.2); have hp_ : Kd.R (Kd.int .i64) 3 w19 w.heap.size (fun _ => True) (.slice (some ⟨go16, 0, none⟩) x5_2.length co17) y427 := (by rw [hw, Ny427.out]; exact HP18.1); clear HP18; have n0_ := Aside0.mk (hp_); have n1_ := Aside0.mk ((by rw [hw]; exact below_set (HB.out) GB16.out : Below w.heap.size w w19)); clear HO_5; clear HB; have HO_5 := n0_; have HB := n1_; clear n0_ n1_; clear hg hw hp_)); try go_wp2_with (first | ((with_reducible refine gate_store (t := 3) (p := 53) rfl ?_); (try (rw [drewN_self wr]; generalize hq_ : World.drewN wr _ = wr; have n0_ := Aside0.mk (Kd.R_at hq_ HO_5.out); have n1_ := Aside0.mk (below_at hq_ HB.out); clear hq_ HO_5 HB; have HO_5 := n0_; have HB := n1_; clear n0_ n1_; (try (obtain ⟨hxHP18_, hfHP18_⟩ := Kd.R_celln 0 HO_5.out ((ji10) : Int) (of_eq_true (by assumption)) (of_eq_true (by assumption)))); (try (have HP18 := Kd.R_putg HO_5.out ((ji10) : Int) (Int.tmod (wrap64 ((wrap64 (x7_2 + (rd x5_2 (ji10)))) + (wrap64 ((rd l0 x6_1) * (rd l1 x8_2))))) 65536))))); refine store_event (t := 3) (p := 53) (v := ?vo_w19) (w1 := (wr.setCell ⟨go16, ((ji10) : Int).toNat, none⟩ (.int .i64 (Int.tmod (wrap64 ((wrap64 (x7_2 + (rd x5_2 (ji10)))) + (wrap64 ((rd l0 x6_1) * (rd l1 x8_2))))) 65536)))) ?hg ?ho ?hn ?hr ?_; (case ho => rfl); (case hg => rfl); (case hn => rfl); (case hr => first | (go_simp; done) | (go_simp; rfl)); intro w19 hw; have hg : wr.grownBy w19 (some go16) := (by rw [hw]; exact HP18.2); have hp_ : Kd.R (Kd.int .i64) 3 w19 w.heap.size (fun _ => True) (.slice (some ⟨go16, 0, none⟩) x5_2.length co17) y427 := (by rw [hw, Ny427.out]; exact HP18.1); clear HP18; have n0_ := Aside0.mk (hp_); have n1_ := Aside0.mk ((by rw [hw]; exact below_set (HB.out) GB16.out : Below w.heap.size w w19)); clear HO_5; clear HB; have HO_5 := n0_; have HB := n1_; clear n0_ n1_; clear hg hw hp_)))
              go_roundg k2
              case measure => have := HK1.out; have := HK2.out; omega
              case rel => exact ⟨(y427), (wrap64 (Int.tdiv (wrap64 ((wrap64 (x7_2 + (rd x5_2 (ji10)))) + (wrap64 ((rd l0 x6_1) * (rd l1 x8_2))))) 65536)), (wrap64 (x8_2 + 1)), (by first | rfl | (simp; done) | (simp only [← hji10] <;> (first | rfl | simp)) | (simp [*]; done)), (by first | rfl | (simp; done) | (simp [*]; done)), H', ⟨by have := HK1.out; have := HK2.out; omega⟩, ⟨by (with_reducible repeat (first | apply Kd.R_alloc | apply Kd.R_drewN | apply Kd.R_drew)); exact HO_5.out⟩, ⟨bw HB.out⟩⟩
             ·rw [if_neg c15] at H
              exact absurd H (by simp)
            ·rw [if_neg c14] at H
             exact absurd H (by simp)
           ·rw [if_neg c13] at H
            exact absurd H (by simp)
          ·rw [if_neg c12] at H
           exact absurd H (by simp)
         ·rw [if_neg c11] at H
          exact absurd H (by simp)
        ·rw [if_neg c9] at H
         have c9b0 : decide (x8_2 < (l1.length : Int)) = false := decide_eq_false c9
         clear c9
         obtain ⟨ji20, hji20⟩ : ∃ j_ : Int, (wrap64 (x6_1 + (l1.length : Int))) = j_ := ⟨_, rfl⟩
         replace H : (if 0 ≤ (ji20) then (if (ji20) < (x5_2.length : Int) then (zelligeref03_Mul.l0 k2 l0 l1 (x5_2.set ((ji20) : Int).toNat x7_2) (wrap64 (x6_1 + 1))) else (none)) else (none)) = some r := by first | (rw [hji20] at H; exact H) | (simp only [hji20] at H ⊢; exact H)
         have hji20w : (IntKind.i64.wrap (x6_1 + (l1.length : Int))) = ji20 := (i64_w _).trans hji20
         by_cases c21 : 0 ≤ (ji20)
         ·rw [if_pos c21] at H
          have c21b0 : decide (0 ≤ (ji20)) = true := decide_eq_true c21
          clear c21
          by_cases c22 : (ji20) < (x5_2.length : Int)
          ·rw [if_pos c22] at H
           have c22b0 : decide ((ji20) < (x5_2.length : Int)) = true := decide_eq_true c22
           clear c22
           obtain ⟨y428, hy428⟩ : ∃ y_ : List Int, y_ = (x5_2.set ((ji20) : Int).toNat x7_2) := ⟨_, rfl⟩
           replace H : (zelligeref03_Mul.l0 k2 l0 l1 y428 (wrap64 (x6_1 + 1))) = some r := by first | (rw [hy428]; with_reducible exact H) | (have H2_ := (Option.bind_some _ _).symm.trans H; rw [hy428]; with_reducible exact H2_) | (have H2_ := (Option.bind_some _ _).symm.trans H; with_reducible exact H2_) | with_reducible exact H | (rw [hy428]; exact H) | exact H
           have Ny428 := Aside0.mk hy428
           clear hy428
           have H' := Aside0.mk H
           clear H
           have p23 : 0 ≤ ((ji20) : Int) := dt_
           have q23 : ((ji20) : Int) < ((x5_2.length : Int) : Int) := dt_
           obtain ⟨go23, co23, eo23, gb23, gl23, cl23, HG23⟩ := Kd.R_form HO_5.out (by omega)
           (first | cases eo23 | (injection eo23 with ea_ en_ ec_; (first | subst ea_ | (injection ea_ with ea_; subst ea_)); subst ec_; clear en_))
           have GB23 := Aside0.mk gb23
           have GG23 := Aside0.mk HG23
           clear gb23 gl23 HG23
           obtain ⟨hx23_0, hf23_0⟩ := Kd.R_celln 0 HO_5.out ((ji20) : Int) p23 q23
           replace p23 := eq_true p23
           replace q23 := eq_true q23
           have HP24 := Kd.R_putg HO_5.out ((ji20) : Int) x7_2
           go_wp2_with (first | ((with_reducible refine gate_store (t := 3) (p := 60) rfl ?_); (try (rw [drewN_self wr]; generalize hq_ : World.drewN wr _ = wr; have n0_ := Aside0.mk (Kd.R_at hq_ HO_5.out); have n1_ := Aside0.mk (below_at hq_ HB.out); clear hq_ HO_5 HB; have HO_5 := n0_; have HB := n1_; clear n0_ n1_; (try (obtain ⟨hxHP24_, hfHP24_⟩ := Kd.R_celln 0 HO_5.out ((ji20) : Int) (of_eq_true (by assumption)) (of_eq_true (by assumption)))); (try (have HP24 := Kd.R_putg HO_5.out ((ji20) : Int) x7_2)))); refine store_event (t := 3) (p := 60) (v := ?vo_w25) (w1 := (wr.setCell ⟨go23, ((ji20) : Int).toNat, none⟩ (.int .i64 x7_2))) ?hg ?ho ?hn ?hr ?_; (case ho => rfl); (case hg => rfl); (case hn => rfl); (case hr => first | (go_simp; done) | (go_simp; rfl)); intro w25 hw; have hg : wr.grownBy w25 (some go23) := (by rw [hw]; exact HP24.2); have hp_ : Kd.R (Kd.int .i64) 3 w25 w.heap.size (fun _ => True) (.slice (some ⟨go23, 0, none⟩) x5_2.length co23) y428 := (by rw [hw, Ny428.out]; exact HP24.1); clear HP24; have n0_ := Aside0.mk (hp_); have n1_ := Aside0.mk ((by rw [hw]; exact below_set (HB.out) GB23.out : Below w.heap.size w w25)); clear HO_5; clear HB; have HO_5 := n0_; have HB := n1_; clear n0_ n1_; clear hg hw hp_))
           repeat (go_quiet (first | ((with_reducible refine gate_store (t := 3) (p := 60) rfl ?_); (try (rw [drewN_self wr]; generalize hq_ : World.drewN wr _ = wr; have n0_ := Aside0.mk (Kd.R_at hq_ HO_5.out); have n1_ := Aside0.mk (below_at hq_ HB.out); clear hq_ HO_5 HB; have HO_5 := n0_; have HB := n1_; clear n0_ n1_; (try (obtain ⟨hxHP24_, hfHP24_⟩ := Kd.R_celln 0 HO_5.out ((ji20) : Int) (of_eq_true (by assumption)) (of_eq_true (by assumption)))); (try (have HP24 := Kd.R_putg HO_5.out ((ji20) : Int) x7_2)))); refine store_event (t := 3) (p := 60) (v := ?vo_w25) (w1 := (wr.setCell ⟨go23, ((ji20) : Int).toNat, none⟩ (.int .i64 x7_2))) ?hg ?ho ?hn ?hr ?_; (case ho => rfl); (case hg => rfl); (case hn => rfl); (case hr => first | (go_simp; done) | (go_simp; rfl)); intro w25 hw; have hg : wr.grownBy w25 (some go23) := (by rw [hw]; exact HP24.2); have hp_ : Kd.R (Kd.int .i64) 3 w25 w.heap.size (fun _ => True) (.slice (some ⟨go23, 0, none⟩) x5_2.length co23) y428 := (by rw [hw, Ny428.out]; exact HP24.1); clear HP24; have n0_ := Aside0.mk (hp_); have n1_ := Aside0.mk ((by rw [hw]; exact below_set (HB.out) GB23.out : Below w.heap.size w w25)); clear HO_5; clear HB; have HO_5 := n0_; have HB := n1_; clear n0_ n1_; clear hg hw hp_)); try go_wp2_with (first | ((with_reducible refine gate_store (t := 3) (p := 60) rfl ?_); (try (rw [drewN_self wr]; generalize hq_ : World.drewN wr _ = wr; have n0_ := Aside0.mk (Kd.R_at hq_ HO_5.out); have n1_ := Aside0.mk (below_at hq_ HB.out); clear hq_ HO_5 HB; have HO_5 := n0_; have HB := n1_; clear n0_ n1_; (try (obtain ⟨hxHP24_, hfHP24_⟩ := Kd.R_celln 0 HO_5.out ((ji20) : Int) (of_eq_true (by assumption)) (of_eq_true (by assumption)))); (try (have HP24 := Kd.R_putg HO_5.out ((ji20) : Int) x7_2)))); refine store_event (t := 3) (p := 60) (v := ?vo_w25) (w1 := (wr.setCell ⟨go23, ((ji20) : Int).toNat, none⟩ (.int .i64 x7_2))) ?hg ?ho ?hn ?hr ?_; (case ho => rfl); (case hg => rfl); (case hn => rfl); (case hr => first | (go_simp; done) | (go_simp; rfl)); intro w25 hw; have hg : wr.grownBy w25 (some go23) := (by rw [hw]; exact HP24.2); have hp_ : Kd.R (Kd.int .i64) 3 w25 w.heap.size (fun _ => True) (.slice (some ⟨go23, 0, none⟩) x5_2.length co23) y428 := (by rw [hw, Ny428.out]; exact HP24.1); clear HP24; have n0_ := Aside0.mk (hp_); have n1_ := Aside0.mk ((by rw [hw]; exact below_set (HB.out) GB23.out : Below w.heap.size w w25)); clear HO_5; clear HB; have HO_5 := n0_; have HB := n1_; clear n0_ n1_; clear hg hw hp_)))
           go_roundg k2
           case measure => have := HK1.out; have := HK2.out; omega
           case rel => exact ⟨(y428), (wrap64 (x6_1 + 1)), (by first | rfl | (simp; done) | (simp [*]; done)), H', ⟨by have := HK1.out; have := HK2.out; omega⟩, ⟨by (with_reducible repeat (first | apply Kd.R_alloc | apply Kd.R_drewN | apply Kd.R_drew)); exact HO_5.out⟩, ⟨bw HB.out⟩⟩
          ·rw [if_neg c22] at H
           exact absurd H (by simp)
         ·rw [if_neg c21] at H
          exact absurd H (by simp)
     ·rw [if_neg c8] at H
      have c8b0 : decide (x6_1 < (l0.length : Int)) = false := decide_eq_false c8
      clear c8
      replace H := Option.bind_eq_some_iff.mp H
      obtain ⟨t421, A260, H⟩ := H
      try dsimp only at H
      have A26 := Aside0.mk A260
      clear A260
      obtain rfl := Option.some.inj H
      obtain ⟨Ao27, co27, eo27⟩ := Kd.R_slice HO_5.out
      subst eo27
      go_wp2_with (first | (go_at_call 55; (with_reducible refine (zelligeref03_Trim.calls k1 (fun k_ => some k_ = (.slice Ao27 x5_1.length co27 : Value).ownBlock) (.slice Ao27 x5_1.length co27) x5_1 t421 w _ ?side1 ?side2 A26.out).mono ?_); (case side1 => repeat (first | (with_reducible first | exact HB.out | apply below_alloc | apply pw_below_drewN | apply below_drew1) | exact HB.out)); (case side2 => exact Kd.R_tight rfl HO_5.out); rintro e w28 ⟨v422, rfl, ho0, hb, hkp⟩; have n0_ := Aside0.mk (Kd.R_mono (ok' := fun k_ => True) ho0 (fun k_ hk_ => trivial)); have n1_ := Aside0.mk (hb); clear HB; clear HO_5; have HO423 := n0_; have HB := n1_; clear n0_ n1_; (try clear hb); (try clear hkp); (try clear ho0)))
      repeat (go_quiet (first | (go_at_call 55; (with_reducible refine (zelligeref03_Trim.calls k1 (fun k_ => some k_ = (.slice Ao27 x5_1.length co27 : Value).ownBlock) (.slice Ao27 x5_1.length co27) x5_1 t421 w _ ?side1 ?side2 A26.out).mono ?_); (case side1 => repeat (first | (with_reducible first | exact HB.out | apply below_alloc | apply pw_below_drewN | apply below_drew1) | exact HB.out)); (case side2 => exact Kd.R_tight rfl HO_5.out); rintro e w28 ⟨v422, rfl, ho0, hb, hkp⟩; have n0_ := Aside0.mk (Kd.R_mono (ok' := fun k_ => True) ho0 (fun k_ hk_ => trivial)); have n1_ := Aside0.mk (hb); clear HB; clear HO_5; have HO423 := n0_; have HB := n1_; clear n0_ n1_; (try clear hb); (try clear hkp); (try clear ho0))); try go_wp2_with (first | (go_at_call 55; (with_reducible refine (zelligeref03_Trim.calls k1 (fun k_ => some k_ = (.slice Ao27 x5_1.length co27 : Value).ownBlock) (.slice Ao27 x5_1.length co27) x5_1 t421 w _ ?side1 ?side2 A26.out).mono ?_); (case side1 => repeat (first | (with_reducible first | exact HB.out | apply below_alloc | apply pw_below_drewN | apply below_drew1) | exact HB.out)); (case side2 => exact Kd.R_tight rfl HO_5.out); rintro e w28 ⟨v422, rfl, ho0, hb, hkp⟩; have n0_ := Aside0.mk (Kd.R_mono (ok' := fun k_ => True) ho0 (fun k_ hk_ => trivial)); have n1_ := Aside0.mk (hb); clear HB; clear HO_5; have HO423 := n0_; have HB := n1_; clear n0_ n1_; (try clear hb); (try clear hkp); (try clear ho0))))
      go_ret
      exact ⟨_, by first | rfl | (simp [errW_none, errW_some] <;> rfl) | (simp only [← hji3]; first | rfl | (simp [errW_none, errW_some] <;> rfl)) | (simp [*, errW_none, errW_some] <;> rfl), by (with_reducible repeat (first | apply Kd.R_alloc | apply Kd.R_drewN | apply Kd.R_drew)); exact HO423.out, bw HB.out⟩
  ·rw [if_neg c5] at H
   exact absurd H (by simp)
 ·rw [if_neg c4] at H
  exact absurd H (by simp)
end Go.Proofs.Ytlkngfidohiepaa.F
end
section
namespace Go.Proofs.Ytlkngfidohiepaa.Dig
open Go RowKit YtlkngfidohiepaaW.PrintWords Ytlkngfidohiepaa.F
attribute [local irreducible] val P
theorem rd_nat (l : List Int) (n : Nat) : rd l (n : Int) = l.getD n 0 := by unfold rd; simp
theorem trim_l0 {l : List Int} (hl : Dg l) (hn : l.length ≤ 1000000) : ∀ (n k : Nat), n ≤ l.length → n < k → val (l.drop n) = 0 →
  ∃ r, zelligeref03_Trim.l0 k l (n : Int) = some r ∧ Cn r ∧ val r = val l := by
 intro n
 induction n with
 | zero =>
  intro k _ hk hz
  obtain ⟨k, rfl⟩ : ∃ m, k = m + 1 := ⟨k - 1, by omega⟩
  refine ⟨[], ?_, Cn_nil, ?_⟩
  ·rw [zelligeref03_Trim.l0, if_neg (by omega), if_pos (by omega), if_pos (by omega)]; simp
  ·rw [List.drop_zero] at hz; rw [hz, val]
 | succ n ih =>
  intro k hle hk hz
  obtain ⟨k, rfl⟩ : ∃ m, k = m + 1 := ⟨k - 1, by omega⟩
  have e1 : wrap64 (((n + 1 : Nat) : Int) - 1) = (n : Int) := by rw [w64 (by omega) (by omega)]; omega
  rw [zelligeref03_Trim.l0, if_pos (by omega), e1, if_pos (by omega), if_pos (by omega), rd_nat]
  have e2 := val_drop (l := l) (i := n) (by omega)
  by_cases h0 : l.getD n 0 = 0
  ·rw [if_pos h0]
   exact ih k (by omega) (by omega) (by omega)
  ·rw [if_neg h0, if_pos (by omega), if_pos (by omega)]
   refine ⟨_, rfl, ⟨Dg_take hl _, .inr ?_⟩, ?_⟩
   ·rw [List.length_take, show ((n + 1 : Nat) : Int).toNat = n + 1 from by omega, Nat.min_eq_left hle, take_succ' (by omega), List.getD_eq_getElem?_getD, List.getElem?_append_right (by rw [List.length_take]; omega)]
    rw [List.length_take, Nat.min_eq_left (by omega)]
    simpa using h0
   ·have e3 := val_take_drop l (n + 1) hle
    rw [hz, Int.mul_zero, Int.add_zero] at e3
    rw [show ((n + 1 : Nat) : Int).toNat = n + 1 from by omega, ← e3]
theorem trim_f {l : List Int} (hl : Dg l) (hn : l.length ≤ 1000000) {k : Nat} (hk : l.length < k) : ∃ r, zelligeref03_Trim.f k l = some r ∧ Cn r ∧ val r = val l :=
 trim_l0 hl hn l.length k (Nat.le_refl _) hk (val_drop_all (Nat.le_refl _))
theorem add_l0 {a b : List Int} (ha : Dg a) (hb : Dg b) (na : a.length ≤ 10000) (nb : b.length ≤ 10000) : ∀ (d k i : Nat) (out : List Int) (c T : Int), max a.length b.length - i = d → i ≤ max a.length b.length →
  2 * d + max a.length b.length + 4 < k → out.length = i → Dg out → 0 ≤ c → c ≤ 1 → val out + P i * (c + val (a.drop i) + val (b.drop i)) = T →
  ∃ r, zelligeref03_Add.l0 k a b out c (i : Int) = some r ∧ Cn r ∧ val r = T := by
 intro d
 induction d with
 | zero =>
  intro k i out c T hd hi hk ho hD c0 c1 hT
  obtain ⟨k, rfl⟩ : ∃ m, k = m + 2 := ⟨k - 2, by omega⟩
  rw [zelligeref03_Add.l0, if_neg (by omega), zelligeref03_Add.j1, show decide ((i : Int) < (b.length : Int)) = false from decide_eq_false (by omega), if_neg (by decide), if_pos (by omega)]
  rw [val_drop_all (by omega), val_drop_all (by omega)] at hT
  obtain ⟨r, hr, h1, h2⟩ := trim_f (l := out ++ [c]) (Dg_app.2 ⟨hD, Dg_one c0 (by omega)⟩) (by rw [List.length_append]; simp; omega) (k := k) (by rw [List.length_append]; simp; omega)
  refine ⟨r, by rw [hr]; rfl, h1, ?_⟩
  rw [h2, val_snoc, ho]
  simpa using hT
 | succ d ih =>
  intro k i out c T hd hi hk ho hD c0 c1 hT
  obtain ⟨k, rfl⟩ : ∃ m, k = m + 2 := ⟨k - 2, by omega⟩
  have ei : wrap64 ((i : Int) + 1) = ((i + 1 : Nat) : Int) := by rw [w64 (by omega) (by omega)]; omega
  have gA := Dg_get ha i
  have gB := Dg_get hb i
  have f1 : max a.length b.length - (i + 1) = d := by clear hT; omega
  have f2 : i + 1 ≤ max a.length b.length := by clear hT; omega
  have f3 : 2 * d + max a.length b.length + 4 < k := by clear hT; omega
  have step : ∀ s, 0 ≤ s → s ≤ 131072 → (s = c + a.getD i 0 + b.getD i 0) → (val (a.drop i) = a.getD i 0 + 65536 * val (a.drop (i + 1))) → (val (b.drop i) = b.getD i 0 + 65536 * val (b.drop (i + 1))) →
    ∃ r, zelligeref03_Add.l0 k a b (out ++ [Int.tmod s 65536]) (wrap64 (Int.tdiv s 65536)) ((i + 1 : Nat) : Int) = some r ∧ Cn r ∧ val r = T := by
   intro s s0 s1 es eA eB
   rw [Int.tmod_eq_emod_of_nonneg s0, Int.tdiv_eq_ediv_of_nonneg s0, w64 (x := s / 65536) (by clear hT eA eB; omega) (by clear hT eA eB; omega)]
   have g1 : 0 ≤ s % 65536 := by clear hT eA eB; omega
   have g2 : s % 65536 < 65536 := by clear hT eA eB; omega
   have g3 : 0 ≤ s / 65536 := by clear hT eA eB; omega
   have g4 : s / 65536 ≤ 1 := by clear hT eA eB; omega
   have g5 : (out ++ [s % 65536]).length = i + 1 := by rw [List.length_append, ho]; rfl
   refine ih k (i + 1) _ _ T f1 f2 f3 g5 (Dg_app.2 ⟨hD, Dg_one g1 g2⟩) g3 g4 ?_
   rw [val_snoc, ho, P]
   have e : s = s % 65536 + 65536 * (s / 65536) := by omega
   rw [eA, eB] at hT
   generalize s % 65536 = m at *
   generalize s / 65536 = q at *
   generalize P i = p at *
   grind
  clear hT
  have eA : val (a.drop i) = a.getD i 0 + 65536 * val (a.drop (i + 1)) := by
   by_cases h : i < a.length
   ·exact val_drop h
   ·rw [val_drop_all (by omega), val_drop_all (by omega), List.getD_eq_getElem?_getD, List.getElem?_eq_none (by omega)]; rfl
  have eB : val (b.drop i) = b.getD i 0 + 65536 * val (b.drop (i + 1)) := by
   by_cases h : i < b.length
   ·exact val_drop h
   ·rw [val_drop_all (by omega), val_drop_all (by omega), List.getD_eq_getElem?_getD, List.getElem?_eq_none (by omega)]; rfl
  by_cases h1 : i < a.length
  ·rw [zelligeref03_Add.l0, if_pos (by omega), zelligeref03_Add.j1, if_pos rfl, if_pos (by omega), if_pos (by omega), rd_nat, rd_nat, ei]
   by_cases h2 : i < b.length
   ·rw [if_pos (by omega), if_pos (by omega), w64 (x := c + a.getD i 0) (by omega) (by omega), w64 (x := c + a.getD i 0 + b.getD i 0) (by omega) (by omega)]
    exact step _ (by omega) (by omega) rfl eA eB
   ·have z : b.getD i 0 = 0 := by rw [List.getD_eq_getElem?_getD, List.getElem?_eq_none (by omega)]; rfl
    rw [if_neg (by omega), if_pos (by omega), w64 (x := c + a.getD i 0) (by omega) (by omega)]
    exact step _ (by omega) (by omega) (by omega) eA eB
  ·have z : a.getD i 0 = 0 := by rw [List.getD_eq_getElem?_getD, List.getElem?_eq_none (by omega)]; rfl
   have h2 : i < b.length := by omega
   rw [zelligeref03_Add.l0, if_neg (by omega), show decide ((i : Int) < (b.length : Int)) = true from decide_eq_true (by omega), zelligeref03_Add.j1, if_pos rfl, if_neg (by omega), if_pos (by omega), if_pos (by omega), if_pos (by omega), rd_nat, ei, w64 (x := c + b.getD i 0) (by omega) (by omega)]
   exact step _ (by omega) (by omega) (by omega) eA eB
theorem add_f (a b : Nat) (na : (dig a).length ≤ 10000) (nb : (dig b).length ≤ 10000) {k : Nat} (hk : 40000 < k) : zelligeref03_Add.f k (dig a) (dig b) = some (dig (a + b)) := by
 obtain ⟨r, hr, h1, h2⟩ := add_l0 (dig_Dg a) (dig_Dg b) na nb _ k 0 [] 0 _ rfl (by omega) (by omega) rfl Dg_nil (by omega) (by omega) rfl
 unfold zelligeref03_Add.f
 rw [show zelligeref03_Add.l0 k (dig a) (dig b) [] 0 0 = some r from hr]
 congr 1
 refine eq_dig_of h1 ?_
 rw [h2]
 simp only [val, P, List.drop_zero, dig_val]
 omega
theorem cmp_l0 {a b : List Int} (ha : Dg a) (hb : Dg b) (hl : a.length = b.length) (na : a.length ≤ 10000) : ∀ (n k : Nat), n ≤ a.length → n + 1 < k → val (a.drop n) = val (b.drop n) →
  zelligeref03_Cmp.l0 k a b ((n : Int) - 1) = some (if val a < val b then -1 else if val a > val b then 1 else 0) := by
 intro n
 induction n with
 | zero =>
  intro k _ hk he
  obtain ⟨k, rfl⟩ : ∃ m, k = m + 1 := ⟨k - 1, by omega⟩
  rw [zelligeref03_Cmp.l0, if_neg (by omega)]
  rw [List.drop_zero, List.drop_zero] at he
  rw [if_neg (by omega), if_neg (by omega)]
 | succ n ih =>
  intro k hn hk he
  obtain ⟨k, rfl⟩ : ∃ m, k = m + 1 := ⟨k - 1, by omega⟩
  have e0 : (((n + 1 : Nat) : Int) - 1) = (n : Int) := by omega
  rw [e0, zelligeref03_Cmp.l0, if_pos (by omega), if_pos (by omega), if_pos (by omega), if_pos (by omega), rd_nat, rd_nat, w64 (x := (n : Int) - 1) (by omega) (by omega)]
  have gA := Dg_get ha n
  have gB := Dg_get hb n
  have eA := val_drop (l := a) (i := n) (by omega)
  have eB := val_drop (l := b) (i := n) (by omega)
  have tA := val_take_drop a n (by omega)
  have tB := val_take_drop b n (by omega)
  have lA := val_lt (Dg_take ha n)
  have lB := val_lt (Dg_take hb n)
  rw [List.length_take, Nat.min_eq_left (by omega)] at lA lB
  have zA := val_nonneg (Dg_take ha n)
  have zB := val_nonneg (Dg_take hb n)
  have hP := P_pos n
  by_cases h1 : a.getD n 0 < b.getD n 0
  ·rw [if_pos h1]
   have h3 : P n * (val (b.drop n) - val (a.drop n)) ≥ P n * 1 := Int.mul_le_mul_of_nonneg_left (by omega) (by omega)
   rw [Int.mul_sub] at h3
   rw [if_pos (by omega)]
  ·rw [if_neg h1]
   by_cases h2 : a.getD n 0 > b.getD n 0
   ·rw [if_pos h2]
    have h3 : P n * (val (a.drop n) - val (b.drop n)) ≥ P n * 1 := Int.mul_le_mul_of_nonneg_left (by omega) (by omega)
    rw [Int.mul_sub] at h3
    rw [if_neg (by omega), if_pos (by omega)]
   ·rw [if_neg h2]
    exact ih k (by omega) (by omega) (by omega)
theorem cmp_f (a b : Nat) (na : (dig a).length ≤ 10000) {k : Nat} (hk : 40000 < k) : zelligeref03_Cmp.f k (dig a) (dig b) = some (if a < b then -1 else if a > b then 1 else 0) := by
 unfold zelligeref03_Cmp.f
 by_cases h1 : (dig a).length < (dig b).length
 ·rw [if_pos (by omega)]
  have := Cn_longer (dig_Dg a) (dig_Cn b) h1
  rw [dig_val, dig_val] at this
  rw [if_pos (by omega)]
 ·rw [if_neg (by omega)]
  by_cases h2 : (dig b).length < (dig a).length
  ·rw [if_pos (by omega)]
   have := Cn_longer (dig_Dg b) (dig_Cn a) h2
   rw [dig_val, dig_val] at this
   rw [if_neg (by omega), if_pos (by omega)]
  ·rw [if_neg (by omega), w64 (by omega) (by omega), cmp_l0 (dig_Dg a) (dig_Dg b) (by omega) na (dig a).length k (Nat.le_refl _) (by omega) (by rw [val_drop_all (Nat.le_refl _), val_drop_all (by omega)]), dig_val, dig_val]
   congr 1
   by_cases h3 : a < b
   ·rw [if_pos h3, if_pos (by omega)]
   ·rw [if_neg h3, if_neg (by omega)]
    by_cases h4 : a > b
    ·rw [if_pos h4, if_pos (by omega)]
    ·rw [if_neg h4, if_neg (by omega)]
theorem sub_l0 {a b : List Int} (ha : Dg a) (hb : Dg b) (na : a.length ≤ 10000) (nb : b.length ≤ a.length) : ∀ (d k i : Nat) (out : List Int) (c T : Int), a.length - i = d → i ≤ a.length →
  d + a.length + 4 < k → out.length = i → Dg out → 0 ≤ c → c ≤ 1 → val out + P i * (val (a.drop i) - val (b.drop i) - c) = T → 0 ≤ T →
  ∃ r, zelligeref03_Sub.l0 k a b out c (i : Int) = some r ∧ Cn r ∧ val r = T := by
 intro d
 induction d with
 | zero =>
  intro k i out c T hd hi hk ho hD c0 c1 hT hT0
  obtain ⟨k, rfl⟩ : ∃ m, k = m + 1 := ⟨k - 1, by omega⟩
  rw [zelligeref03_Sub.l0, if_neg (by omega)]
  rw [val_drop_all (by omega), val_drop_all (by omega)] at hT
  obtain ⟨r, hr, h1, h2⟩ := trim_f (l := out) hD (by omega) (k := k) (by omega)
  refine ⟨r, by rw [hr]; rfl, h1, ?_⟩
  rw [h2]
  have hc : c = 0 := by
   by_cases h : c = 0
   ·exact h
   ·have hv := val_lt hD
    rw [ho] at hv
    have : c = 1 := by omega
    subst this
    omega
  subst hc
  omega
 | succ d ih =>
  intro k i out c T hd hi hk ho hD c0 c1 hT hT0
  obtain ⟨k, rfl⟩ : ∃ m, k = m + 1 := ⟨k - 1, by omega⟩
  have ei : wrap64 ((i : Int) + 1) = ((i + 1 : Nat) : Int) := by rw [w64 (by omega) (by omega)]; omega
  have gA := Dg_get ha i
  have gB := Dg_get hb i
  have f0 : i < a.length := by clear hT; omega
  have f1 : a.length - (i + 1) = d := by clear hT; omega
  have f3 : d + a.length + 4 < k := by clear hT; omega
  have eA := val_drop (l := a) (i := i) f0
  have eB : val (b.drop i) = b.getD i 0 + 65536 * val (b.drop (i + 1)) := by
   clear hT eA
   by_cases h : i < b.length
   ·exact val_drop h
   ·rw [val_drop_all (by omega), val_drop_all (by omega), List.getD_eq_getElem?_getD, List.getElem?_eq_none (by omega)]; rfl
  have step : ∀ m q, 0 ≤ m → m < 65536 → 0 ≤ q → q ≤ 1 → a.getD i 0 - c - b.getD i 0 = m - 65536 * q → ∃ r, zelligeref03_Sub.l0 k a b (out ++ [m]) q ((i + 1 : Nat) : Int) = some r ∧ Cn r ∧ val r = T := by
   intro m q m0 m1 q0 q1 e
   have g5 : (out ++ [m]).length = i + 1 := by rw [List.length_append, ho]; rfl
   refine ih k (i + 1) _ _ T f1 f0 f3 g5 (Dg_app.2 ⟨hD, Dg_one m0 m1⟩) q0 q1 ?_ hT0
   rw [val_snoc, ho, P]
   rw [eA, eB] at hT
   generalize P i = p at *
   grind
  clear hT eA eB
  rw [zelligeref03_Sub.l0, if_pos (show (i : Int) < (a.length : Int) by omega), if_pos (by omega), rd_nat, rd_nat, ei, w64 (x := a.getD i 0 - c) (by omega) (by omega)]
  by_cases h2 : i < b.length
  ·rw [if_pos (by omega), w64 (x := a.getD i 0 - c - b.getD i 0) (by omega) (by omega)]
   by_cases h3 : a.getD i 0 - c - b.getD i 0 < 0
   ·rw [if_pos h3, if_pos (by omega), w64 (by omega) (by omega)]
    exact step _ _ (by omega) (by omega) (by omega) (by omega) (by omega)
   ·rw [if_neg h3, if_pos (by omega)]
    exact step _ _ (by omega) (by omega) (by omega) (by omega) (by omega)
  ·have z : b.getD i 0 = 0 := by rw [List.getD_eq_getElem?_getD, List.getElem?_eq_none (by omega)]; rfl
   rw [if_neg (by omega)]
   by_cases h3 : a.getD i 0 - c < 0
   ·rw [if_pos h3, if_pos (by omega), w64 (by omega) (by omega)]
    exact step _ _ (by omega) (by omega) (by omega) (by omega) (by omega)
   ·rw [if_neg h3, if_pos (by omega)]
    exact step _ _ (by omega) (by omega) (by omega) (by omega) (by omega)
theorem sub_f (a b : Nat) (h : b ≤ a) (na : (dig a).length ≤ 10000) {k : Nat} (hk : 40000 < k) : zelligeref03_Sub.f k (dig a) (dig b) = some (dig (a - b)) := by
 obtain ⟨r, hr, h1, h2⟩ := sub_l0 (dig_Dg a) (dig_Dg b) na (dig_len_mono h) _ k 0 [] 0 _ rfl (by omega) (by omega) rfl Dg_nil (by omega) (by omega) rfl (by simp only [val, P, List.drop_zero, dig_val]; omega)
 unfold zelligeref03_Sub.f
 rw [show zelligeref03_Sub.l0 k (dig a) (dig b) [] 0 0 = some r from hr]
 congr 1
 refine eq_dig_of h1 ?_
 rw [h2]
 simp only [val, P, List.drop_zero, dig_val]
 omega
theorem of_two (x y : Int) (x0 : 0 ≤ x) (x1 : x < 4294967296) (y0 : 0 ≤ y) (y1 : y < 4294967296) {k : Nat} (hk : 20 < k) : zelligeref03_Of.f k [x, y] = some (dig (x + 4294967296 * y).toNat) := by
 obtain ⟨k, rfl⟩ : ∃ m, k = m + 3 := ⟨k - 3, by omega⟩
 unfold zelligeref03_Of.f
 have t1 : ∀ z : Int, 0 ≤ z → z < 4294967296 → wrap64 (Int.tmod z 65536) = z % 65536 ∧ wrap64 (IntKind.u32.wrap (Int.tdiv z 65536)) = z / 65536 := by
  intro z z0 z1
  rw [Int.tmod_eq_emod_of_nonneg z0, Int.tdiv_eq_ediv_of_nonneg z0]
  refine ⟨w64 (by omega) (by omega), ?_⟩
  have : IntKind.u32.wrap (z / 65536) = z / 65536 := by simp [IntKind.wrap, IntKind.bits, IntKind.signed]; omega
  rw [this, w64 (by omega) (by omega)]
 have r0 : rd [x, y] 0 = x := rfl
 have r1 : rd [x, y] 1 = y := rfl
 have e0 : wrap64 ((0 : Int) + 1) = 1 := w64 (by omega) (by omega)
 have e1 : wrap64 ((1 : Int) + 1) = 2 := w64 (by omega) (by omega)
 rw [zelligeref03_Of.l0, if_pos (by simp), if_pos (by omega), r0, (t1 x x0 x1).1, (t1 x x0 x1).2, e0]
 simp only [Option.bind_some]
 rw [if_pos (by simp), zelligeref03_Of.l0, if_pos (by simp), if_pos (by omega), r1, (t1 y y0 y1).1, (t1 y y0 y1).2, e1]
 simp only [Option.bind_some]
 rw [if_pos (by simp), zelligeref03_Of.l0, if_neg (by simp)]
 obtain ⟨r, hr, h1, h2⟩ := trim_f (l := ([] ++ [x % 65536, x / 65536]) ++ [y % 65536, y / 65536]) (by
  intro d hd
  simp at hd
  rcases hd with rfl | rfl | rfl | rfl <;> omega) (by simp) (k := k) (by simp; omega)
 rw [hr]
 simp only [Option.bind_some]
 congr 1
 refine eq_dig_of h1 ?_
 rw [h2]
 simp only [List.nil_append, List.cons_append, val]
 omega
end Go.Proofs.Ytlkngfidohiepaa.Dig
end
section
namespace Go.Proofs.Ytlkngfidohiepaa.F
open RowKit YtlkngfidohiepaaW.PrintWords YtlkngfidohiepaaW.PrintLast YtlkngfidohiepaaW.PrintMore
set_option linter.unusedVariables false
set_option linter.unusedSimpArgs false
def zelligeref04_Long.f (k : Nat) (a0 : Int) : Option (Int × List Int) := if a0 = 0 then (some (0, ([] : List Int))) else (if a0 < 0 then ((zelligeref03_Of.f k (([(IntKind.u64.wrap (-(IntKind.u64.wrap (a0)))) % 4294967296, ((IntKind.u64.wrap (-(IntKind.u64.wrap (a0)))) / 4294967296) % 4294967296] : List Int))).bind fun t287 => (some ((-1), t287))) else ((zelligeref03_Of.f k (([(IntKind.u64.wrap (a0)) % 4294967296, ((IntKind.u64.wrap (a0)) / 4294967296) % 4294967296] : List Int))).bind fun t293 => (some (1, t293))))
theorem zelligeref04_Long.mono : ∀ a0 k, LeO (zelligeref04_Long.f k a0) (zelligeref04_Long.f (k + 1) a0) := by
 intro a0 k
 unfold zelligeref04_Long.f
 repeat' first
   | (with_reducible exact zelligeref03_Of.mono _ _)
   | (with_reducible exact LeO.refl _)
   | (with_reducible exact LeO.none _)
   | (with_reducible refine LeO.ite ?_ ?_)
   | (with_reducible refine LeO.bind ?_ (fun _ => ?_))
   | exact zelligeref03_Of.mono _ _
   | exact LeO.none _
   | refine LeO.ite ?_ ?_
   | refine LeO.bind ?_ (fun _ => ?_)
set_option maxHeartbeats 8000000 in
set_option maxRecDepth 100000 in
theorem zelligeref04_Long.calls (k : Nat) (a0 : Int) (r1 : Int) (r2 : List Int) (w : World) (h : zelligeref04_Long.f k a0 = some (r1, r2)) :
  Calls Try.prog 25 #[.int .i64 a0] w fun e w' => ∃ v1_ : Value, e = .returned (.agg #[.int .i64 r1, v1_]) ∧ Kd.R (Kd.int .i64) 3 w' w.heap.size (fun _ => True) v1_ r2 ∧ Below w.heap.size w w' := by
 have hu42 := Try.underlying42
 have HB := Aside0.mk (Below.refl w.heap.size w)
 have H : (if a0 = 0 then (some (0, ([] : List Int))) else (if a0 < 0 then ((zelligeref03_Of.f k (([(IntKind.u64.wrap (-(IntKind.u64.wrap (a0)))) % 4294967296, ((IntKind.u64.wrap (-(IntKind.u64.wrap (a0)))) / 4294967296) % 4294967296] : List Int))).bind fun t287 => (some ((-1), t287))) else ((zelligeref03_Of.f k (([(IntKind.u64.wrap (a0)) % 4294967296, ((IntKind.u64.wrap (a0)) / 4294967296) % 4294967296] : List Int))).bind fun t293 => (some (1, t293))))) = some (r1, r2) := h
 clear h
 by_cases c2 : a0 = 0
 ·rw [if_pos c2] at H
  have c2b0 : (a0 == 0) = true := beq_iff_eq.mpr c2
  have c2b1 : (a0 != 0) = false := bne_eq_false_iff_eq.mpr c2
  clear c2
  simp only [Option.some.injEq, Prod.mk.injEq] at H
  obtain ⟨rfl, rfl⟩ := H
  go_enter Try.func25, Try.ntmps25
  go_wp2_with (first | ((with_reducible refine gate_dst (N := 2) rfl ?_); refine bx 2 #[.int .i64 0, .slice none 0 0] 42 ?_; intro gb283 hg w3 hbox hb; have BK283 := Aside0.mk hbox; have GW283 := u3 hg HB; have GE283 := u3 hg HB; replace HB := u2 HB hb; clear hb hbox hg; obtain ⟨_, _, _, _⟩ := p2 BK283))
  refine bodyPost_ret (results_cell_row rfl _ _ gb283 42 #[.int .i64 0, .slice none 0 0] (0, 0) _ rfl (by (with_reducible repeat (first | refine blk_drewN ?_ _ | refine blk_drew ?_ | refine blk_alloc ?_ _)); refine blk_put (cs := #[.int .i64 0, .slice none 0 0]) ?_ 1 _ rfl; refine blk_put (cs := #[.int .i64 0, .slice none 0 0]) ?_ 0 _ rfl; (with_reducible repeat (first | refine blk_drewN ?_ _ | refine blk_drew ?_ | refine blk_alloc ?_ _)); exact BK283.out) Try.underlying42 rfl (by kernel_rfl)) rfl ?_
  exact ⟨_, by first | rfl | (simp [*, errW_none, errW_some] <;> rfl), by first | exact Kd.R_nil _ _ _ _ _ | exact Kd.N_nil _ _ _ _ _ | exact Kd.V_nil _ _ _ _ _ | exact Kd.Q_nil _ _ _ _ _ | exact Kd.S_nil _ _ _ _ _, by repeat (first | (with_reducible first | exact HB.out | apply below_alloc | apply pw_below_drewN | apply below_drew1 | refine below_set ?_ GE283.out) | exact HB.out)⟩
 ·rw [if_neg c2] at H
  have c2b0 : (a0 == 0) = false := beq_eq_false_iff_ne.mpr c2
  have c2b1 : (a0 != 0) = true := bne_iff_ne.mpr c2
  by_cases c5 : a0 < 0
  ·rw [if_pos c5] at H
   have c5b0 : decide (a0 < 0) = true := decide_eq_true c5
   clear c5
   obtain ⟨y284, hy284⟩ : ∃ y_ : List Int, y_ = (([(IntKind.u64.wrap (-(IntKind.u64.wrap (a0)))) % 4294967296, ((IntKind.u64.wrap (-(IntKind.u64.wrap (a0)))) / 4294967296) % 4294967296] : List Int)) := ⟨_, rfl⟩
   replace H : ((zelligeref03_Of.f k y284).bind fun t287 => (some ((-1), t287))) = some (r1, r2) := by first | (rw [hy284]; with_reducible exact H) | (have H2_ := (Option.bind_some _ _).symm.trans H; rw [hy284]; with_reducible exact H2_) | (have H2_ := (Option.bind_some _ _).symm.trans H; with_reducible exact H2_) | with_reducible exact H | (rw [hy284]; exact H) | exact H
   have Ny284 := Aside0.mk hy284
   clear hy284
   replace H := Option.bind_eq_some_iff.mp H
   obtain ⟨t287, A60, H⟩ := H
   try dsimp only at H
   have A6 := Aside0.mk A60
   clear A60
   simp only [Option.some.injEq, Prod.mk.injEq] at H
   obtain ⟨rfl, rfl⟩ := H
   go_enter Try.func25, Try.ntmps25
   go_wp2_with (first | ((with_reducible refine gate_dst (N := 2) rfl ?_); refine bx 2 #[.int .i64 0, .slice none 0 0] 42 ?_; intro gb283 hg w7 hbox hb; have BK283 := Aside0.mk hbox; have GW283 := u3 hg HB; have GE283 := u3 hg HB; replace HB := u2 HB hb; clear hb hbox hg) | ((with_reducible refine gate_dst (N := 21) rfl ?_); refine Kd.R_lit (Kd.int .u32) _ 54 ?hg (N := 21) ?hd (xs := ([(IntKind.u64.wrap (-(IntKind.u64.wrap (a0)))) % 4294967296, ((IntKind.u64.wrap (-(IntKind.u64.wrap (a0)))) / 4294967296) % 4294967296] : List Int)) (inner := [.int .u32 ((IntKind.u64.wrap (-(IntKind.u64.wrap (a0)))) % 4294967296), .int .u32 (((IntKind.u64.wrap (-(IntKind.u64.wrap (a0)))) / 4294967296) % 4294967296)]) (ok := fun _ => True) (okp := fun _ => True) ?hr ?hp (fun _ hk => hk) trivial (Below.refl _ _) (Nat.le_refl _) (by simp) ?_; (case hd => rfl); (case hg => rfl); (case hr => first | (go_simp; done) | (go_simp; rfl)); (case hp => exact (Reps.one (show Kd.M (Kd.int .u32) _ _ _ ((IntKind.u64.wrap (-(IntKind.u64.wrap (a0)))) % 4294967296) [.int .u32 ((IntKind.u64.wrap (-(IntKind.u64.wrap (a0)))) % 4294967296)] from rfl) (Reps.one (show Kd.M (Kd.int .u32) _ _ _ (((IntKind.u64.wrap (-(IntKind.u64.wrap (a0)))) / 4294967296) % 4294967296) [.int .u32 (((IntKind.u64.wrap (-(IntKind.u64.wrap (a0)))) / 4294967296) % 4294967296)] from rfl) (Reps.none _ _)))); intro v285 w8 ho9 hb hg_ hnew_; clear hg_ hnew_; (first | rw [← Ny284.out] at ho9 | (simp only [Int.reduceToNat] at ho9; rw [← Ny284.out] at ho9)); have n0_ := Aside0.mk (Kd.R_lower ho9 (below_size (bw HB.out))); have n1_ := u1 BK283 hb; have n2_ := u2 HB hb; clear BK283; clear HB; have HO286 := n0_; have BK283 := n1_; have HB := n2_; clear n0_ n1_ n2_; clear hb ho9; obtain ⟨Ao10, co10, eo10⟩ := Kd.R_slice HO286.out; subst eo10) | ((with_reducible refine gate_callee (f := 38) rfl ?_); refine gL (some 22) Try.func38 #[.slice Ao10 y284.length co10] rfl ?_; (with_reducible refine (zelligeref03_Of.calls k _ _ y284 t287 _ ?side1 ?side2 A6.out).mono ?_); (case side1 => repeat (first | exact (Kd.R_reads' HO286.out).2.2 | (with_reducible refine Kd.C_alloc ?_ _) | (with_reducible refine Kd.C_drewN ?_ _) | (with_reducible refine Kd.C_drew ?_))); (case side2 => exact (Kd.R_reads' HO286.out).2.1); rintro e w11 ⟨v288, rfl, ho0, hb⟩; refine ⟨_, rfl, ?_⟩; have n0_ := Aside0.mk (Kd.R_below (by (with_reducible repeat (first | apply Kd.R_alloc | apply Kd.R_drewN | apply Kd.R_drew)); exact HO286.out) hb); have n1_ := Aside0.mk (Kd.R_lower ho0 (below_size (bw HB.out))); have n2_ := u1 BK283 hb; have n3_ := u2 HB hb; clear HO286; clear BK283; clear HB; have HO286 := n0_; have HO289 := n1_; have BK283 := n2_; have HB := n3_; clear n0_ n1_ n2_ n3_; (try clear hb); (try clear hb2); (try clear hk); (try clear hi); (try clear ho0); obtain ⟨Ao12, co12, eo12⟩ := Kd.R_slice HO289.out; subst eo12; obtain ⟨_, _, _, _⟩ := p2 BK283))
   refine bodyPost_ret (results_cell_row rfl _ _ gb283 42 #[.int .i64 (-1), .slice Ao12 t287.length co12] (0, 0) _ rfl (by (with_reducible repeat (first | refine blk_drewN ?_ _ | refine blk_drew ?_ | refine blk_alloc ?_ _)); refine blk_put (cs := #[.int .i64 (-1), .slice none 0 0]) ?_ 1 _ rfl; refine blk_put (cs := #[.int .i64 0, .slice none 0 0]) ?_ 0 _ rfl; (with_reducible repeat (first | refine blk_drewN ?_ _ | refine blk_drew ?_ | refine blk_alloc ?_ _)); exact BK283.out) Try.underlying42 rfl (by kernel_rfl)) rfl ?_
   exact ⟨_, by first | rfl | (simp [*, errW_none, errW_some] <;> rfl), by (with_reducible repeat (first | apply Kd.R_alloc | apply Kd.R_drewN | apply Kd.R_drew)); exact Kd.R_mono (Kd.R_far (p := ⟨gb283, 1, none⟩) (Kd.R_far (p := ⟨gb283, 0, none⟩) (Kd.R_types HO289.out BK283.out (by decide)) (fun _ hk => hk.2) (.int .i64 (-1))) (fun _ hk => hk.2) (.slice Ao12 t287.length co12)) (fun _ hk => trivial), by repeat (first | (with_reducible first | exact HB.out | apply below_alloc | apply pw_below_drewN | apply below_drew1 | refine below_set ?_ GE283.out) | exact HB.out)⟩
  ·rw [if_neg c5] at H
   have c5b0 : decide (a0 < 0) = false := decide_eq_false c5
   clear c5
   obtain ⟨y290, hy290⟩ : ∃ y_ : List Int, y_ = (([(IntKind.u64.wrap (a0)) % 4294967296, ((IntKind.u64.wrap (a0)) / 4294967296) % 4294967296] : List Int)) := ⟨_, rfl⟩
   replace H : ((zelligeref03_Of.f k y290).bind fun t293 => (some (1, t293))) = some (r1, r2) := by first | (rw [hy290]; with_reducible exact H) | (have H2_ := (Option.bind_some _ _).symm.trans H; rw [hy290]; with_reducible exact H2_) | (have H2_ := (Option.bind_some _ _).symm.trans H; with_reducible exact H2_) | with_reducible exact H | (rw [hy290]; exact H) | exact H
   have Ny290 := Aside0.mk hy290
   clear hy290
   replace H := Option.bind_eq_some_iff.mp H
   obtain ⟨t293, A140, H⟩ := H
   try dsimp only at H
   have A14 := Aside0.mk A140
   clear A140
   simp only [Option.some.injEq, Prod.mk.injEq] at H
   obtain ⟨rfl, rfl⟩ := H
   go_enter Try.func25, Try.ntmps25
   go_wp2_with (first | ((with_reducible refine gate_dst (N := 2) rfl ?_); refine bx 2 #[.int .i64 0, .slice none 0 0] 42 ?_; intro gb283 hg w15 hbox hb; have BK283 := Aside0.mk hbox; have GW283 := u3 hg HB; have GE283 := u3 hg HB; replace HB := u2 HB hb; clear hb hbox hg) | ((with_reducible refine gate_dst (N := 21) rfl ?_); refine Kd.R_lit (Kd.int .u32) _ 54 ?hg (N := 21) ?hd (xs := ([(IntKind.u64.wrap (a0)) % 4294967296, ((IntKind.u64.wrap (a0)) / 4294967296) % 4294967296] : List Int)) (inner := [.int .u32 ((IntKind.u64.wrap (a0)) % 4294967296), .int .u32 (((IntKind.u64.wrap (a0)) / 4294967296) % 4294967296)]) (ok := fun _ => True) (okp := fun _ => True) ?hr ?hp (fun _ hk => hk) trivial (Below.refl _ _) (Nat.le_refl _) (by simp) ?_; (case hd => rfl); (case hg => rfl); (case hr => first | (go_simp; done) | (go_simp; rfl)); (case hp => exact (Reps.one (show Kd.M (Kd.int .u32) _ _ _ ((IntKind.u64.wrap (a0)) % 4294967296) [.int .u32 ((IntKind.u64.wrap (a0)) % 4294967296)] from rfl) (Reps.one (show Kd.M (Kd.int .u32) _ _ _ (((IntKind.u64.wrap (a0)) / 4294967296) % 4294967296) [.int .u32 (((IntKind.u64.wrap (a0)) / 4294967296) % 4294967296)] from rfl) (Reps.none _ _)))); intro v291 w16 ho17 hb hg_ hnew_; clear hg_ hnew_; (first | rw [← Ny290.out] at ho17 | (simp only [Int.reduceToNat] at ho17; rw [← Ny290.out] at ho17)); have n0_ := Aside0.mk (Kd.R_lower ho17 (below_size (bw HB.out))); have n1_ := u1 BK283 hb; have n2_ := u2 HB hb; clear BK283; clear HB; have HO292 := n0_; have BK283 := n1_; have HB := n2_; clear n0_ n1_ n2_; clear hb ho17; obtain ⟨Ao18, co18, eo18⟩ := Kd.R_slice HO292.out; subst eo18) | ((with_reducible refine gate_callee (f := 38) rfl ?_); refine gL (some 22) Try.func38 #[.slice Ao18 y290.length co18] rfl ?_; (with_reducible refine (zelligeref03_Of.calls k _ _ y290 t293 _ ?side1 ?side2 A14.out).mono ?_); (case side1 => repeat (first | exact (Kd.R_reads' HO292.out).2.2 | (with_reducible refine Kd.C_alloc ?_ _) | (with_reducible refine Kd.C_drewN ?_ _) | (with_reducible refine Kd.C_drew ?_))); (case side2 => exact (Kd.R_reads' HO292.out).2.1); rintro e w19 ⟨v294, rfl, ho0, hb⟩; refine ⟨_, rfl, ?_⟩; have n0_ := Aside0.mk (Kd.R_below (by (with_reducible repeat (first | apply Kd.R_alloc | apply Kd.R_drewN | apply Kd.R_drew)); exact HO292.out) hb); have n1_ := Aside0.mk (Kd.R_lower ho0 (below_size (bw HB.out))); have n2_ := u1 BK283 hb; have n3_ := u2 HB hb; clear HO292; clear BK283; clear HB; have HO292 := n0_; have HO295 := n1_; have BK283 := n2_; have HB := n3_; clear n0_ n1_ n2_ n3_; (try clear hb); (try clear hb2); (try clear hk); (try clear hi); (try clear ho0); obtain ⟨Ao20, co20, eo20⟩ := Kd.R_slice HO295.out; subst eo20; obtain ⟨_, _, _, _⟩ := p2 BK283))
   refine bodyPost_ret (results_cell_row rfl _ _ gb283 42 #[.int .i64 1, .slice Ao20 t293.length co20] (0, 0) _ rfl (by (with_reducible repeat (first | refine blk_drewN ?_ _ | refine blk_drew ?_ | refine blk_alloc ?_ _)); refine blk_put (cs := #[.int .i64 1, .slice none 0 0]) ?_ 1 _ rfl; refine blk_put (cs := #[.int .i64 0, .slice none 0 0]) ?_ 0 _ rfl; (with_reducible repeat (first | refine blk_drewN ?_ _ | refine blk_drew ?_ | refine blk_alloc ?_ _)); exact BK283.out) Try.underlying42 rfl (by kernel_rfl)) rfl ?_
   exact ⟨_, by first | rfl | (simp [*, errW_none, errW_some] <;> rfl), by (with_reducible repeat (first | apply Kd.R_alloc | apply Kd.R_drewN | apply Kd.R_drew)); exact Kd.R_mono (Kd.R_far (p := ⟨gb283, 1, none⟩) (Kd.R_far (p := ⟨gb283, 0, none⟩) (Kd.R_types HO295.out BK283.out (by decide)) (fun _ hk => hk.2) (.int .i64 1)) (fun _ hk => hk.2) (.slice Ao20 t293.length co20)) (fun _ hk => trivial), by repeat (first | (with_reducible first | exact HB.out | apply below_alloc | apply pw_below_drewN | apply below_drew1 | refine below_set ?_ GE283.out) | exact HB.out)⟩
end Go.Proofs.Ytlkngfidohiepaa.F
end
section
namespace Go.Proofs.Ytlkngfidohiepaa.F
open RowKit YtlkngfidohiepaaW.PrintWords YtlkngfidohiepaaW.PrintLast YtlkngfidohiepaaW.PrintMore
set_option linter.unusedVariables false
set_option linter.unusedSimpArgs false
def zelligeref04_make1.f (a0 : Int) (l1 : List Int) : Option (Int × List Int) := if (l1.length : Int) = 0 then (some (0, ([] : List Int))) else (some (a0, l1))
set_option maxHeartbeats 8000000 in
set_option maxRecDepth 100000 in
theorem zelligeref04_make1.calls (a0 : Int) (P1_ : Nat → Prop) (u9000_ : Value) (l1 : List Int) (r1 : Int) (r2 : List Int) (w0 w : World) (hB : Below w0.heap.size w0 w) (ho1 : Kd.R (Kd.int .i64) 3 w w0.heap.size P1_ u9000_ l1) (h : zelligeref04_make1.f a0 l1 = some (r1, r2)) :
  Calls Try.prog 49 #[.int .i64 a0, u9000_] w fun e w' => ∃ v1_ : Value, e = .returned (.agg #[.int .i64 r1, v1_]) ∧ Kd.R (Kd.int .i64) 3 w' w0.heap.size (fun k_ => (P1_ k_ ∨ w.heap.size ≤ k_)) v1_ r2 ∧ Below w0.heap.size w0 w' ∧ Kept w w' (fun k_ => P1_ k_) := by
 have hu42 := Try.underlying42
 have HO1 := Aside0.mk (show Kd.R (Kd.int .i64) 3 w w0.heap.size (fun k_ => (P1_ k_ ∨ w.heap.size ≤ k_)) u9000_ l1 from Kd.R_mono ho1 (fun k_ hk => (.inl hk)))
 have HK := Aside0.mk (Kept.refl w (fun k_ => P1_ k_))
 have HW0 := Aside0.mk hB.size
 have HB := Aside0.mk hB
 clear hB
 have H : (if (l1.length : Int) = 0 then (some (0, ([] : List Int))) else (some (a0, l1))) = some (r1, r2) := h
 clear h
 by_cases c3 : (l1.length : Int) = 0
 ·rw [if_pos c3] at H
  have c3b0 : ((l1.length : Int) == 0) = true := beq_iff_eq.mpr c3
  have c3b1 : ((l1.length : Int) != 0) = false := bne_eq_false_iff_eq.mpr c3
  clear c3
  simp only [Option.some.injEq, Prod.mk.injEq] at H
  obtain ⟨rfl, rfl⟩ := H
  go_enter Try.func49, Try.ntmps49
  go_wp2_with (first | ((with_reducible refine gate_dst (N := 4) rfl ?_); refine bx 4 #[.int .i64 0, .slice none 0 0] 42 ?_; intro gb296 hg w4 hbox hb; have n0_ := Aside0.mk (Kd.R_below (by (with_reducible repeat (first | apply Kd.R_alloc | apply Kd.R_drewN | apply Kd.R_drew)); exact HO1.out) hb); have n1_ := Aside0.mk (Kept.below (S := (fun k_ => P1_ k_)) (by repeat (first | (with_reducible first | exact HK.out | apply Kept.alloc | apply Kept.drewN | apply Kept.drew) | exact HK.out)) hb); have n2_ := u2 HB hb; have n3_ := Aside0.mk hbox; have n4_ := Aside0.mk ((by rw [hg]; exact (by first | exact HK.out.1 | exact (show Kept w _ (fun k_ => P1_ k_) from by repeat (first | (with_reducible first | exact HK.out | apply Kept.alloc | apply Kept.drewN | apply Kept.drew) | exact HK.out)).1) : w.heap.size ≤ gb296)); have n5_ := Aside0.mk ((by rw [hg]; exact (below_size (bw HB.out)) : w0.heap.size ≤ gb296)); clear HO1; clear HK; clear HB; have HO1 := n0_; have HK := n1_; have HB := n2_; have BK296 := n3_; have GW296 := n4_; have GE296 := n5_; clear n0_ n1_ n2_ n3_ n4_ n5_; clear hb hbox hg; obtain ⟨Ao5, co5, eo5⟩ := Kd.R_slice HO1.out; subst eo5; obtain ⟨_, _, _, _⟩ := p2 BK296))
  refine bodyPost_ret (results_cell_row rfl _ _ gb296 42 #[.int .i64 0, .slice none 0 0] (0, 0) _ rfl (by (with_reducible repeat (first | refine blk_drewN ?_ _ | refine blk_drew ?_ | refine blk_alloc ?_ _)); refine blk_put (cs := #[.int .i64 0, .slice none 0 0]) ?_ 1 _ rfl; refine blk_put (cs := #[.int .i64 0, .slice none 0 0]) ?_ 0 _ rfl; (with_reducible repeat (first | refine blk_drewN ?_ _ | refine blk_drew ?_ | refine blk_alloc ?_ _)); exact BK296.out) Try.underlying42 rfl (by kernel_rfl)) rfl ?_
  exact ⟨_, by first | rfl | (simp [*, errW_none, errW_some] <;> rfl), by first | exact Kd.R_nil _ _ _ _ _ | exact Kd.N_nil _ _ _ _ _ | exact Kd.V_nil _ _ _ _ _ | exact Kd.Q_nil _ _ _ _ _ | exact Kd.S_nil _ _ _ _ _, by repeat (first | (with_reducible first | exact HB.out | apply below_alloc | apply pw_below_drewN | apply below_drew1 | refine below_set ?_ GE296.out) | exact HB.out), by repeat (first | (with_reducible first | exact HK.out | apply Kept.alloc | apply Kept.drewN | apply Kept.drew | refine Kept.setCell ?_ (.inr GW296.out) _) | exact HK.out)⟩
 ·rw [if_neg c3] at H
  have c3b0 : ((l1.length : Int) == 0) = false := beq_eq_false_iff_ne.mpr c3
  have c3b1 : ((l1.length : Int) != 0) = true := bne_iff_ne.mpr c3
  have c3b2 : ¬ (l1 = []) := fun h_ => c3 (by rw [h_]; rfl)
  simp only [Option.some.injEq, Prod.mk.injEq] at H
  obtain ⟨rfl, rfl⟩ := H
  go_enter Try.func49, Try.ntmps49
  go_wp2_with (first | ((with_reducible refine gate_dst (N := 4) rfl ?_); refine bx 4 #[.int .i64 0, .slice none 0 0] 42 ?_; intro gb296 hg w7 hbox hb; have n0_ := Aside0.mk (Kd.R_below (by (with_reducible repeat (first | apply Kd.R_alloc | apply Kd.R_drewN | apply Kd.R_drew)); exact HO1.out) hb); have n1_ := Aside0.mk (Kept.below (S := (fun k_ => P1_ k_)) (by repeat (first | (with_reducible first | exact HK.out | apply Kept.alloc | apply Kept.drewN | apply Kept.drew) | exact HK.out)) hb); have n2_ := u2 HB hb; have n3_ := Aside0.mk hbox; have n4_ := Aside0.mk ((by rw [hg]; exact (by first | exact HK.out.1 | exact (show Kept w _ (fun k_ => P1_ k_) from by repeat (first | (with_reducible first | exact HK.out | apply Kept.alloc | apply Kept.drewN | apply Kept.drew) | exact HK.out)).1) : w.heap.size ≤ gb296)); have n5_ := Aside0.mk ((by rw [hg]; exact (below_size (bw HB.out)) : w0.heap.size ≤ gb296)); clear HO1; clear HK; clear HB; have HO1 := n0_; have HK := n1_; have HB := n2_; have BK296 := n3_; have GW296 := n4_; have GE296 := n5_; clear n0_ n1_ n2_ n3_ n4_ n5_; clear hb hbox hg; obtain ⟨Ao8, co8, eo8⟩ := Kd.R_slice HO1.out; subst eo8; obtain ⟨_, _, _, _⟩ := p2 BK296))
  refine bodyPost_ret (results_cell_row rfl _ _ gb296 42 #[.int .i64 a0, .slice Ao8 l1.length co8] (0, 0) _ rfl (by (with_reducible repeat (first | refine blk_drewN ?_ _ | refine blk_drew ?_ | refine blk_alloc ?_ _)); refine blk_put (cs := #[.int .i64 a0, .slice none 0 0]) ?_ 1 _ rfl; refine blk_put (cs := #[.int .i64 0, .slice none 0 0]) ?_ 0 _ rfl; (with_reducible repeat (first | refine blk_drewN ?_ _ | refine blk_drew ?_ | refine blk_alloc ?_ _)); exact BK296.out) Try.underlying42 rfl (by kernel_rfl)) rfl ?_
  exact ⟨_, by first | rfl | (simp [*, errW_none, errW_some] <;> rfl), by (with_reducible repeat (first | apply Kd.R_alloc | apply Kd.R_drewN | apply Kd.R_drew)); exact Kd.R_mono (Kd.R_far (p := ⟨gb296, 1, none⟩) (Kd.R_far (p := ⟨gb296, 0, none⟩) (Kd.R_types HO1.out BK296.out (by decide)) (fun _ hk => hk.2) (.int .i64 a0)) (fun _ hk => hk.2) (.slice Ao8 l1.length co8)) (fun _ hk => hk.1), by repeat (first | (with_reducible first | exact HB.out | apply below_alloc | apply pw_below_drewN | apply below_drew1 | refine below_set ?_ GE296.out) | exact HB.out), by repeat (first | (with_reducible first | exact HK.out | apply Kept.alloc | apply Kept.drewN | apply Kept.drew | refine Kept.setCell ?_ (.inr GW296.out) _) | exact HK.out)⟩
end Go.Proofs.Ytlkngfidohiepaa.F
end
section
namespace Go.Proofs.Ytlkngfidohiepaa.F
open RowKit YtlkngfidohiepaaW.PrintWords YtlkngfidohiepaaW.PrintLast YtlkngfidohiepaaW.PrintMore
set_option linter.unusedVariables false
set_option linter.unusedSimpArgs false
def zelligeref04_Mul.f (k : Nat) (a0_0 : Int) (l0_1 : List Int) (a1_0 : Int) (l1_1 : List Int) : Option (Int × List Int) := (zelligeref03_Mul.f k l0_1 l1_1).bind fun t432 => ((zelligeref04_make1.f (wrap64 (a0_0 * a1_0)) t432).bind fun bt435 => (some (bt435.1, bt435.2)))
theorem zelligeref04_Mul.mono : ∀ a0 a1 a2 a3 k, LeO (zelligeref04_Mul.f k a0 a1 a2 a3) (zelligeref04_Mul.f (k + 1) a0 a1 a2 a3) := by
 intro a0 a1 a2 a3 k
 unfold zelligeref04_Mul.f
 repeat' first
   | (with_reducible exact zelligeref03_Mul.mono _ _ _)
   | (with_reducible exact LeO.refl _)
   | (with_reducible exact LeO.none _)
   | (with_reducible refine LeO.ite ?_ ?_)
   | (with_reducible refine LeO.bind ?_ (fun _ => ?_))
   | exact zelligeref03_Mul.mono _ _ _
   | exact LeO.none _
   | refine LeO.ite ?_ ?_
   | refine LeO.bind ?_ (fun _ => ?_)
def zelligeref04_Mul.T1 : Bool × List (List Nat × List Nat) := (true, [([], []), ([0], [0]), ([], []), ([2], [2]), ([1, 3], [1, 3]), ([], []), ([5], [5]), ([], []), ([7], [7]), ([6, 8], [6, 8]), ([4, 9, 9], [4, 9]), ([10, 10, 0, 1, 2, 3, 4, 5, 6, 7, 8, 9, 10], [10])])
def zelligeref04_Mul.B1 : List Nat := [0, 1, 0, 4, 15, 0, 32, 0, 128, 480, 1023, 2047]
theorem zelligeref04_Mul.tab1 : rtab .any (opsOf Try.f32 1) = zelligeref04_Mul.T1 := by kernel_rfl
theorem zelligeref04_Mul.bits1 : waitsOk zelligeref04_Mul.T1.2 zelligeref04_Mul.B1 = true := by kernel_rfl
set_option maxHeartbeats 8000000 in
set_option maxRecDepth 100000 in
theorem zelligeref04_Mul.calls (k : Nat) (a0_0 : Int) (A0_1 : Option Addr) (c0_1 : Nat) (l0_1 : List Int) (a1_0 : Int) (A1_1 : Option Addr) (c1_1 : Nat) (l1_1 : List Int) (r1 : Int) (r2 : List Int) (w : World) (hr0_1 : Kd.C (Kd.int .i64) w A0_1 l0_1.length l0_1) (hc0_1 : l0_1.length ≤ c0_1) (hr1_1 : Kd.C (Kd.int .i64) w A1_1 l1_1.length l1_1) (hc1_1 : l1_1.length ≤ c1_1) (h : zelligeref04_Mul.f k a0_0 l0_1 a1_0 l1_1 = some (r1, r2)) :
  Calls Try.prog 32 #[.agg #[.int .i64 a0_0, .slice A0_1 l0_1.length c0_1], .agg #[.int .i64 a1_0, .slice A1_1 l1_1.length c1_1]] w fun e w' => ∃ v1_ : Value, e = .returned (.agg #[.int .i64 r1, v1_]) ∧ Kd.R (Kd.int .i64) 3 w' w.heap.size (fun _ => True) v1_ r2 ∧ Below w.heap.size w w' := by
 have hu42 := Try.underlying42
 have HR0_1 := Aside0.mk hr0_1
 have HC0_1 := Aside0.mk hc0_1
 clear hr0_1 hc0_1
 have HR1_1 := Aside0.mk hr1_1
 have HC1_1 := Aside0.mk hc1_1
 clear hr1_1 hc1_1
 have HB := Aside0.mk (Below.refl w.heap.size w)
 have H : ((zelligeref03_Mul.f k l0_1 l1_1).bind fun t432 => ((zelligeref04_make1.f (wrap64 (a0_0 * a1_0)) t432).bind fun bt435 => (some (bt435.1, bt435.2)))) = some (r1, r2) := h
 clear h
 replace H := Option.bind_eq_some_iff.mp H
 obtain ⟨t432, A30, H⟩ := H
 try dsimp only at H
 have A3 := Aside0.mk A30
 clear A30
 replace H := Option.bind_eq_some_iff.mp H
 obtain ⟨⟨t435, t436⟩, A40, H⟩ := H
 try dsimp only at H
 have A4 := Aside0.mk A40
 clear A40
 simp only [Option.some.injEq, Prod.mk.injEq] at H
 obtain ⟨rfl, rfl⟩ := H
 go_enter Try.func32, Try.ntmps32
 try go_wp2_with (first | ((with_reducible refine gate_dst (N := 2) rfl ?_); refine bx 2 #[.int .i64 a0_0, .slice A0_1 l0_1.length c0_1] 42 ?_; intro gb429 hg w5 hbox hb; have BK429 := Aside0.mk hbox; have GW429 := u3 hg HB; have GE429 := u3 hg HB; replace HB := u2 HB hb; clear hb hbox hg) | ((with_reducible refine gate_dst (N := 3) rfl ?_); refine bx 3 #[.int .i64 a1_0, .slice A1_1 l1_1.length c1_1] 42 ?_; intro gb430 hg w6 hbox hb; have BK430 := Aside0.mk hbox; have GW430 := u3 hg HB; have GE430 := u3 hg HB; have NB429_430 := u4 hg BK429; have NB430_429 := u5 hg BK429; replace BK429 := u1 BK429 hb; replace HB := u2 HB hb; clear hb hbox hg) | ((with_reducible refine gate_dst (N := 4) rfl ?_); refine bx 4 #[.int .i64 0, .slice none 0 0] 42 ?_; intro gb431 hg w7 hbox hb; have BK431 := Aside0.mk hbox; have GW431 := u3 hg HB; have GE431 := u3 hg HB; have NB429_431 := u4 hg BK429; have NB431_429 := u5 hg BK429; have NB430_431 := u4 hg BK430; have NB431_430 := u5 hg BK430; replace BK429 := u1 BK429 hb; replace BK430 := u1 BK430 hb; replace HB := u2 HB hb; clear hb hbox hg))
 have n0_ := Aside0.mk (blk_drew BK429.out)
 have n1_ := Aside0.mk (blk_drew BK430.out)
 have n2_ := Aside0.mk (blk_drew BK431.out)
 have n3_ := Aside0.mk (below_drew1 HB.out)
 clear BK429
 clear BK430
 clear BK431
 clear HB
 have BK429 := n0_
 have BK430 := n1_
 have BK431 := n2_
 have HB := n3_
 clear n0_ n1_ n2_ n3_
 refine start_ (n := 12) (S := fun w' => w'.cell? ⟨gb429, 0, none⟩ = some (.int .i64 a0_0) ∧ w'.cell? ⟨gb429, 1, none⟩ = some (.slice A0_1 l0_1.length c0_1) ∧ w'.cell? ⟨gb430, 0, none⟩ = some (.int .i64 a1_0) ∧ w'.cell? ⟨gb430, 1, none⟩ = some (.slice A1_1 l1_1.length c1_1)) (ds := []) #[F_,F_,F_,F_,F_,F_,F_,F_,F_,F_,F_,F_] (by kernel_rfl) rfl rfl ⟨(blk_cell BK429.out 0).trans rfl, (blk_cell BK429.out 1).trans rfl, (blk_cell BK430.out 0).trans rfl, (blk_cell BK430.out 1).trans rfl⟩ (fun hHeld => ?_); refine with_tabW zelligeref04_Mul.tab1 zelligeref04_Mul.bits1 (fun HT_ HW_ => ?_)
 generalize w7.drew = w8 at BK429 BK430 BK431 HB hHeld ⊢
 refine pA (i := 0) (N := some 5) (v := ?_) (a' := ?_) #[T_,F_,F_,F_,F_,F_,F_,F_,F_,F_,F_,F_] rfl rfl HT_ (Or.inl ⟨by rfl, ?_⟩) ?_ ?_
 rotate_left
 ·intro w'
  go_simp
  with_reducible rfl
 rotate_left
 ·simp only [Act.put, s1, s2, s3, i64_w, i32_w]
  rfl
 refine pA (i := 2) (N := some 7) (v := ?_) (a' := ?_) #[T_,F_,T_,F_,F_,F_,F_,F_,F_,F_,F_,F_] rfl rfl HT_ (Or.inl ⟨by rfl, ?_⟩) ?_ ?_
 rotate_left
 ·intro w'
  go_simp
  with_reducible rfl
 rotate_left
 ·simp only [Act.put, s1, s2, s3, i64_w, i32_w]
  rfl
 refine pA (i := 5) (N := some 10) (v := ?_) (a' := ?_) #[T_,F_,T_,F_,F_,T_,F_,F_,F_,F_,F_,F_] rfl rfl HT_ (Or.inl ⟨by rfl, ?_⟩) ?_ ?_
 rotate_left
 ·intro w'
  go_simp
  with_reducible rfl
 rotate_left
 ·simp only [Act.put, s1, s2, s3, i64_w, i32_w]
  rfl
 refine pA (i := 7) (N := some 12) (v := ?_) (a' := ?_) #[T_,F_,T_,F_,F_,T_,F_,T_,F_,F_,F_,F_] rfl rfl HT_ (Or.inl ⟨by rfl, ?_⟩) ?_ ?_
 rotate_left
 ·intro w'
  go_simp
  with_reducible rfl
 rotate_left
 ·simp only [Act.put, s1, s2, s3, i64_w, i32_w]
  rfl
 refine tA (i := 1) (N := some 6) (v := ?_) (a' := ?_) #[T_,T_,T_,F_,F_,T_,F_,T_,F_,F_,F_,F_] rfl rfl HT_ HW_ (Or.inl ⟨by rfl, ?_⟩) hHeld ?_ ?_
 rotate_left
 ·rintro w' ⟨s0, s1, s2, s3⟩
  go_simp
  with_reducible rfl
 rotate_left
 ·simp only [Act.put, s1, s2, s3, i64_w, i32_w]
  rfl
 refine tA (i := 3) (N := some 8) (v := ?_) (a' := ?_) #[T_,T_,T_,T_,F_,T_,F_,T_,F_,F_,F_,F_] rfl rfl HT_ HW_ (Or.inl ⟨by rfl, ?_⟩) hHeld ?_ ?_
 rotate_left
 ·rintro w' ⟨s0, s1, s2, s3⟩
  go_simp
  with_reducible rfl
 rotate_left
 ·simp only [Act.put, s1, s2, s3, i64_w, i32_w]
  rfl
 refine pA (i := 4) (N := some 9) (v := ?_) (a' := ?_) #[T_,T_,T_,T_,T_,T_,F_,T_,F_,F_,F_,F_] rfl rfl HT_ (Or.inl ⟨by rfl, ?_⟩) ?_ ?_
 rotate_left
 ·intro w'
  go_simp
  with_reducible rfl
 rotate_left
 ·simp only [Act.put, s1, s2, s3, i64_w, i32_w]
  rfl
 refine tA (i := 6) (N := some 11) (v := ?_) (a' := ?_) #[T_,T_,T_,T_,T_,T_,T_,T_,F_,F_,F_,F_] rfl rfl HT_ HW_ (Or.inl ⟨by rfl, ?_⟩) hHeld ?_ ?_
 rotate_left
 ·rintro w' ⟨s0, s1, s2, s3⟩
  go_simp
  with_reducible rfl
 rotate_left
 ·simp only [Act.put, s1, s2, s3, i64_w, i32_w]
  rfl
 refine tA (i := 8) (N := some 13) (v := ?_) (a' := ?_) #[T_,T_,T_,T_,T_,T_,T_,T_,T_,F_,F_,F_] rfl rfl HT_ HW_ (Or.inl ⟨by rfl, ?_⟩) hHeld ?_ ?_
 rotate_left
 ·rintro w' ⟨s0, s1, s2, s3⟩
  go_simp
  with_reducible rfl
 rotate_left
 ·simp only [Act.put, s1, s2, s3, i64_w, i32_w]
  rfl
 refine one_ (i := 9) (N := some 14) #[T_,T_,T_,T_,T_,T_,T_,T_,T_,T_,F_,F_] rfl rfl (one_of HT_.out (by kernel_rfl)) (by decide) (fun K hK => ?_)
 refine goes_ Try.func50 (by kernel_rfl) rfl #[.slice A0_1 l0_1.length c0_1, .slice A1_1 l1_1.length c1_1] (by rfl) rfl rfl (by (try simp only [List.map_toArray, List.map_cons, List.map_nil]); first | done | rfl | (simp only [List.length_drop, List.length_take]; rfl)) ?_
 with_reducible refine (zelligeref03_Mul.calls k _ _ l0_1 _ _ l1_1 t432 _ ?side1 ?side2 ?side3 ?side4 A3.out).mono ?_
 (case side1 => repeat (first | exact (Kd.C_below HR0_1.out HB.out) | (with_reducible refine Kd.C_alloc ?_ _) | (with_reducible refine Kd.C_drewN ?_ _) | (with_reducible refine Kd.C_drew ?_)))
 (case side2 => exact HC0_1.out)
 (case side3 => repeat (first | exact (Kd.C_below HR1_1.out HB.out) | (with_reducible refine Kd.C_alloc ?_ _) | (with_reducible refine Kd.C_drewN ?_ _) | (with_reducible refine Kd.C_drew ?_)))
 (case side4 => exact HC1_1.out)
 rintro e w9 ⟨v433, rfl, ho0, hb⟩
 refine ⟨_, rfl, ?_⟩
 have n0_ := Aside0.mk (Kd.R_lower ho0 (below_size (bw HB.out)))
 have n1_ := u1 BK429 hb
 have n2_ := u1 BK430 hb
 have n3_ := u1 BK431 hb
 have n4_ := Aside0.mk (below_step (bw HB.out) hb)
 clear BK429
 clear BK430
 clear BK431
 clear HB
 have HO434 := n0_
 have BK429 := n1_
 have BK430 := n2_
 have BK431 := n3_
 have HB := n4_
 clear n0_ n1_ n2_ n3_ n4_
 (try clear hb)
 (try clear hb2)
 (try clear hk)
 (try clear hi)
 (try clear ho0)
 obtain ⟨Ao10, co10, eo10⟩ := Kd.R_slice HO434.out
 (first | subst eo10 | (injection eo10 with f1_ f2_ f3_; have f4_ := f1_.symm; have f5_ := f3_.symm; clear f1_ f2_ f3_; subst f4_; subst f5_))
 refine hK.out _ _ ⟨(blk_cell BK429.out 0).trans rfl, (blk_cell BK429.out 1).trans rfl, (blk_cell BK430.out 0).trans rfl, (blk_cell BK430.out 1).trans rfl⟩ (fun hHeld => ?_)
 clear hK K
 refine norm_ (a' := ?_) ?_ ?_
 rotate_left
 ·show Act.put _ (some 14) _ = _
  simp only [Act.put, s1, s2, s3, i64_w, i32_w]
  rfl
 refine one_ (i := 10) (N := some 15) #[T_,T_,T_,T_,T_,T_,T_,T_,T_,T_,T_,F_] rfl rfl (one_of HT_.out (by kernel_rfl)) (by decide) (fun K hK => ?_)
 refine goes_ Try.func49 (by kernel_rfl) rfl #[.int .i64 (wrap64 (a0_0 * a1_0)), .slice Ao10 t432.length co10] (by rfl) rfl rfl (by (try simp only [List.map_toArray, List.map_cons, List.map_nil]); first | done | rfl | (simp only [List.length_drop, List.length_take]; rfl)) ?_
 with_reducible refine (zelligeref04_make1.calls (wrap64 (a0_0 * a1_0)) (fun k_ => some k_ = (.slice Ao10 t432.length co10 : Value).ownBlock) (.slice Ao10 t432.length co10) t432 t435 t436 w _ ?side1 ?side2 A4.out).mono ?_
 (case side1 => repeat (first | (with_reducible first | exact HB.out | apply below_alloc | apply pw_below_drewN | apply below_drew1 | refine below_set ?_ GE429.out | refine below_set ?_ GE430.out | refine below_set ?_ GE431.out) | exact HB.out))
 (case side2 => exact Kd.R_tight rfl HO434.out)
 rintro e w11 ⟨v437, rfl, ho0, hb, hkp⟩
 refine ⟨_, rfl, ?_⟩
 have n0_ := Aside0.mk (blk_kept (bk BK429.out) hkp (fun hs_ => (fun e_ => (Kd.R_ne HO434.out BK429.out (by decide)) e_) hs_))
 have n1_ := Aside0.mk (blk_kept (bk BK430.out) hkp (fun hs_ => (fun e_ => (Kd.R_ne HO434.out BK430.out (by decide)) e_) hs_))
 have n2_ := Aside0.mk (blk_kept (bk BK431.out) hkp (fun hs_ => (fun e_ => (Kd.R_ne HO434.out BK431.out (by decide)) e_) hs_))
 have n3_ := Aside0.mk (Kd.R_mono (ok' := fun k_ => True) ho0 (fun k_ hk_ => trivial))
 have n4_ := Aside0.mk (hb)
 clear BK429
 clear BK430
 clear BK431
 clear HB
 clear HO434
 have BK429 := n0_
 have BK430 := n1_
 have BK431 := n2_
 have HO438 := n3_
 have HB := n4_
 clear n0_ n1_ n2_ n3_ n4_
 (try clear hb)
 (try clear hkp)
 (try clear ho0)
 obtain ⟨Ao13, co13, eo13⟩ := Kd.R_slice HO438.out
 (first | subst eo13 | (injection eo13 with f1_ f2_ f3_; have f4_ := f1_.symm; have f5_ := f3_.symm; clear f1_ f2_ f3_; subst f4_; subst f5_))
 refine hK.out _ _ ⟨(blk_cell BK429.out 0).trans rfl, (blk_cell BK429.out 1).trans rfl, (blk_cell BK430.out 0).trans rfl, (blk_cell BK430.out 1).trans rfl⟩ (fun hHeld => ?_)
 clear hK K
 refine norm_ (a' := ?_) ?_ ?_
 rotate_left
 ·show Act.put _ (some 15) _ = _
  simp only [Act.put, s1, s2, s3, i64_w, i32_w]
  rfl
 refine one_ (i := 11) (N := none) #[T_,T_,T_,T_,T_,T_,T_,T_,T_,T_,T_,T_] rfl rfl (one_of HT_.out (by kernel_rfl)) (by decide) (fun K hK => ?_)
 have hs12 : w11.cell? ⟨gb431, 0, none⟩ = some (.int .i64 0) := (blk_cell BK431.out 0).trans rfl
 have hfs12 := blk_frozen BK431.out 0
 have hns12_0 := NB429_431.out
 have hns12_1 := NB430_431.out
 have hms12_0 := NB431_429.out
 have hms12_1 := NB431_430.out
 have hs14 : w11.cell? ⟨gb431, 1, none⟩ = some (.slice none 0 0) := (blk_cell BK431.out 1).trans rfl
 have hfs14 := blk_frozen BK431.out 1
 have hns14_0 := NB429_431.out
 have hns14_1 := NB430_431.out
 have hms14_0 := NB431_429.out
 have hms14_1 := NB431_430.out
 refine skip_ (w1 := ?_) (by rfl) rfl ?_ ?_
 rotate_left
 ·go_simp
  rfl
 refine hK.out _ _ ⟨((cell_far (p := ⟨gb431, _, none⟩) NB429_431.out _).trans (((cell_far (p := ⟨gb431, _, none⟩) NB429_431.out _).trans (hHeld.1)))), ((cell_far (p := ⟨gb431, _, none⟩) NB429_431.out _).trans (((cell_far (p := ⟨gb431, _, none⟩) NB429_431.out _).trans (hHeld.2.1)))), ((cell_far (p := ⟨gb431, _, none⟩) NB430_431.out _).trans (((cell_far (p := ⟨gb431, _, none⟩) NB430_431.out _).trans (hHeld.2.2.1)))), ((cell_far (p := ⟨gb431, _, none⟩) NB430_431.out _).trans (((cell_far (p := ⟨gb431, _, none⟩) NB430_431.out _).trans (hHeld.2.2.2))))⟩ (fun hHeld => ?_)
 clear hK K
 refine done_ (done_of HT_.out (by kernel_rfl)) ?_
 try go_wp2
 refine bodyPost_ret (results_cell_row rfl _ _ gb431 42 #[.int .i64 t435, .slice Ao13 t436.length co13] (0, 0) _ rfl (by (with_reducible repeat (first | refine blk_drewN ?_ _ | refine blk_drew ?_ | refine blk_alloc ?_ _)); refine blk_put (cs := #[.int .i64 t435, .slice none 0 0]) ?_ 1 _ rfl; refine blk_put (cs := #[.int .i64 0, .slice none 0 0]) ?_ 0 _ rfl; (with_reducible repeat (first | refine blk_drewN ?_ _ | refine blk_drew ?_ | refine blk_alloc ?_ _)); exact BK431.out) Try.underlying42 rfl (by kernel_rfl)) rfl ?_
 exact ⟨_, by first | rfl | (simp [*, errW_none, errW_some] <;> rfl), by (with_reducible repeat (first | apply Kd.R_alloc | apply Kd.R_drewN | apply Kd.R_drew)); exact Kd.R_mono (Kd.R_far (p := ⟨gb431, 1, none⟩) (Kd.R_far (p := ⟨gb431, 0, none⟩) (Kd.R_types HO438.out BK431.out (by decide)) (fun _ hk => hk.2) (.int .i64 t435)) (fun _ hk => hk.2) (.slice Ao13 t436.length co13)) (fun _ hk => trivial), by repeat (first | (with_reducible first | exact HB.out | apply below_alloc | apply pw_below_drewN | apply below_drew1 | refine below_set ?_ GE429.out | refine below_set ?_ GE430.out | refine below_set ?_ GE431.out) | exact HB.out)⟩
end Go.Proofs.Ytlkngfidohiepaa.F
end
section
namespace Go.Proofs.Ytlkngfidohiepaa.Whole
open Go RowKit YtlkngfidohiepaaW.PrintWords YtlkngfidohiepaaW.PrintLast YtlkngfidohiepaaW.PrintMore Ytlkngfidohiepaa.F
set_option linter.unusedVariables false
structure RV (w : World) (v : Value) (xs : List Int) : Prop where
 mk :: (out : ∃ A c, v = .slice A xs.length c ∧ xs.length ≤ c ∧ Kd.C (Kd.int .i64) w A xs.length xs ∧ (xs = [] ∨ ∃ (a : Addr) (cells : Array Value), A = some a ∧ w.heap[a.block]? = some (.cells cells 3 (0, 0))))
theorem RV.nil (w : World) : RV w (.slice none 0 0) [] := ⟨none, 0, rfl, Nat.le_refl _, ⟨rfl, by decide, fun h => absurd h (by decide)⟩, .inl rfl⟩
theorem RV.below {w w' : World} {v : Value} {xs : List Int} (h : RV w v xs) (hb : Below w.heap.size w w') : RV w' v xs := by
 obtain ⟨A, c, rfl, hc, hC, ht⟩ := h
 refine ⟨A, c, rfl, hc, Kd.C_below hC hb, ?_⟩
 rcases ht with ht | ⟨a, cells, e, ht⟩
 ·exact .inl ht
 ·exact .inr ⟨a, cells, e, blk_below ht hb⟩
theorem RV.drewN {w : World} {v : Value} {xs : List Int} (h : RV w v xs) (n : Nat) : RV (w.drewN n) v xs := by
 obtain ⟨A, c, rfl, hc, hC, ht⟩ := h
 exact ⟨A, c, rfl, hc, Kd.C_drewN hC n, ht⟩
theorem RV.drew {w : World} {v : Value} {xs : List Int} (h : RV w v xs) : RV w.drew v xs := by
 obtain ⟨A, c, rfl, hc, hC, ht⟩ := h
 exact ⟨A, c, rfl, hc, Kd.C_drew hC, ht⟩
theorem RV.of_R {w : World} {base : Nat} {ok : Nat → Prop} {v : Value} {xs : List Int} (h : Kd.R (Kd.int .i64) 3 w base ok v xs) : RV w v xs := by
 obtain ⟨A, c, rfl, hc, hC⟩ := Kd.R_reads h
 refine ⟨A, c, rfl, hc, hC, ?_⟩
 rcases List.eq_nil_or_concat xs with rfl | ⟨l, x, rfl⟩
 ·exact .inl rfl
 ·obtain ⟨g, cap, e, _, _, cells, hg⟩ := Kd.R_form h (by simp)
  simp only [Value.slice.injEq] at e
  exact .inr ⟨_, cells, e.1, hg⟩
theorem RV.store {w : World} {v : Value} {xs : List Int} (h : RV w v xs) {g t : Nat} {cs : Array Value} (hg : w.heap[g]? = some (.cells cs t (0, 0))) (ht : t ≠ 3) (i : Nat) (u : Value) : RV (w.setCell ⟨g, i, none⟩ u) v xs := by
 obtain ⟨A, c, rfl, hc, hC, hty⟩ := h
 have far : ∀ (a : Addr) (cells : Array Value), w.heap[a.block]? = some (.cells cells 3 (0, 0)) → a.block ≠ g := by
  rintro a cells ha rfl
  rw [hg] at ha
  injection ha with ha
  injection ha with _ ha
  exact ht ha
 refine ⟨A, c, rfl, hc, ?_, ?_⟩
 ·rcases hty with rfl | ⟨a, cells, rfl, ha⟩
  ·exact ⟨hC.1, hC.2.1, fun h => absurd h (by simp)⟩
  ·refine ⟨hC.1, hC.2.1, fun hp => ?_⟩
   obtain ⟨ad, e, hr⟩ := hC.2.2 hp
   injection e with e
   subst e
   refine ⟨_, rfl, fun j p hj => ?_⟩
   obtain ⟨cc, h1, h2, h3⟩ := hr j p hj
   refine ⟨cc, h1, h2, fun i' u' hu => ?_⟩
   rw [World.cell?_setCell_far, h3 i' u' hu]
   rw [add_block]
   exact (far _ _ ha).symm
 ·rcases hty with rfl | ⟨a, cells, rfl, ha⟩
  ·exact .inl rfl
  ·exact .inr ⟨a, cells, rfl, (Below.heap_setCell w ⟨g, i, none⟩ u a.block (far _ _ ha)).trans ha⟩
theorem RV.form {w : World} {v : Value} {xs : List Int} (h : RV w v xs) : ∃ A c, v = .slice A xs.length c ∧ xs.length ≤ c ∧ Kd.C (Kd.int .i64) w A xs.length xs := by
 obtain ⟨A, c, e, hc, hC, _⟩ := h
 exact ⟨A, c, e, hc, hC⟩
theorem RV.reads {w : World} {A : Option Addr} {n c : Nat} {xs : List Int} (h : RV w (.slice A n c) xs) : n = xs.length ∧ n ≤ c ∧ Kd.C (Kd.int .i64) w A xs.length xs := by
 obtain ⟨A', c', e, hc, hC, _⟩ := h
 simp only [Value.slice.injEq] at e
 obtain ⟨rfl, rfl, rfl⟩ := e
 exact ⟨rfl, hc, hC⟩
theorem two_new (w : World) (o0 o1 : Obj) : ((w.alloc o0).alloc o1).heap[w.heap.size]? = some o0 ∧ ((w.alloc o0).alloc o1).heap[w.heap.size + 1]? = some o1 ∧ Below w.heap.size w ((w.alloc o0).alloc o1) ∧ ((w.alloc o0).alloc o1).heap.size = w.heap.size + 2 := by
 have e1 : (w.alloc o0).heap.size = w.heap.size + 1 := by simp
 refine ⟨blk_alloc (blk_new _ _) _, ?_, ((Below.refl _ _).alloc (Nat.le_refl _) _).alloc (by simp) _, by simp⟩
 rw [← e1]; exact blk_new _ _
theorem three_new (w : World) (o0 o1 o2 : Obj) : (((w.alloc o0).alloc o1).alloc o2).heap[w.heap.size]? = some o0 ∧ (((w.alloc o0).alloc o1).alloc o2).heap[w.heap.size + 1]? = some o1 ∧ (((w.alloc o0).alloc o1).alloc o2).heap[w.heap.size + 1 + 1]? = some o2 ∧
  Below w.heap.size w (((w.alloc o0).alloc o1).alloc o2) ∧ (((w.alloc o0).alloc o1).alloc o2).heap.size = w.heap.size + 3 := by
 have e1 : (w.alloc o0).heap.size = w.heap.size + 1 := by simp
 have e2 : ((w.alloc o0).alloc o1).heap.size = w.heap.size + 1 + 1 := by simp
 refine ⟨blk_alloc (blk_alloc (blk_new _ _) _) _, ?_, ?_, (((Below.refl _ _).alloc (Nat.le_refl _) _).alloc (by simp) _).alloc (by simp; omega) _, by simp⟩
 ·rw [← e1]; exact blk_alloc (blk_new _ _) _
 ·rw [← e2]; exact blk_new _ _
theorem far2 {w : World} {b o c : Nat} {u v x : Value} (h : w.cell? ⟨b, o, none⟩ = some x) (hne : b ≠ c) : ((w.setCell ⟨c, 0, none⟩ u).setCell ⟨c, 1, none⟩ v).cell? ⟨b, o, none⟩ = some x := by
 rw [World.cell?_setCell_far, World.cell?_setCell_far, h]
 ·exact hne.symm
 ·exact hne.symm
theorem below_set2 {w W : World} (h : Below w.heap.size w W) {g : Nat} (hg : w.heap.size ≤ g) (i j : Nat) (u v : Value) : Below w.heap.size w ((W.setCell ⟨g, i, none⟩ u).setCell ⟨g, j, none⟩ v) := below_set (below_set h hg) hg
theorem make1_zero (s : Int) (A : Option Addr) (c : Nat) (w : World) :
  Calls Try.prog 49 #[.int .i64 s, .slice A 0 c] w fun e w' => e = .returned (.agg #[.int .i64 0, .slice none 0 0]) ∧ Below w.heap.size w w' := by
 go_enter Try.func49, Try.ntmps49
 go_wp2
 exact bodyPost_ret (v := .agg #[.int .i64 0, .slice none 0 0]) (by simp [results, Try.results49, go_sem]) rfl ⟨rfl, (Below.refl _ _).alloc (Nat.le_refl _) _⟩
theorem make1_pos (s : Int) (A : Option Addr) (n c : Nat) (hn : ((n : Int) == 0) = false) (w : World) :
  Calls Try.prog 49 #[.int .i64 s, .slice A n c] w fun e w' => e = .returned (.agg #[.int .i64 s, .slice A n c]) ∧ Below w.heap.size w w' := by
 go_enter Try.func49, Try.ntmps49
 go_wp2
 exact bodyPost_ret (v := .agg #[.int .i64 s, .slice A n c]) (by simp [results, Try.results49, go_sem]) rfl ⟨rfl, (Below.refl _ _).alloc (Nat.le_refl _) _⟩
theorem make1_any {xs : List Int} (s s' : Int) (hz : Aside0 ((if xs = [] then 0 else s) = s')) (v : Value) (w : World) (h : RV w v xs) :
  Calls Try.prog 49 #[.int .i64 s, v] w fun e w' => ∃ u, e = .returned (.agg #[.int .i64 s', u]) ∧ RV w' u xs ∧ Below w.heap.size w w' := by
 obtain ⟨A, c, rfl, hc, hC⟩ := h.form
 obtain rfl := hz.out
 by_cases h0 : xs = []
 ·subst h0
  exact (make1_zero s A c w).mono fun e w' ⟨he, hb⟩ => ⟨_, he, RV.nil _, hb⟩
 ·refine (make1_pos s A xs.length c ?_ w).mono fun e w' ⟨he, hb⟩ => ⟨_, ?_, h.below hb, hb⟩
  ·have := List.length_pos_iff.2 h0
   exact beq_eq_false_iff_ne.2 (by omega)
  ·rw [if_neg h0]; exact he
theorem neg_any (s : Int) (A : Option Addr) (n c : Nat) (w : World) :
  Calls Try.prog 51 #[.agg #[.int .i64 s, .slice A n c]] w fun e w' => e = .returned (.agg #[.int .i64 (wrap64 (0 - s)), .slice A n c]) ∧ Below w.heap.size w w' := by
 go_enter Try.func51, Try.ntmps51
 go_wp2
 exact bodyPost_ret (v := .agg #[.int .i64 (wrap64 (0 - s)), .slice A n c]) (by simp [results, Try.results51, go_sem]) rfl ⟨rfl, ((Below.refl _ _).alloc (Nat.le_refl _) _).alloc (by simp) _⟩
theorem add_left (t : Int) (A B : Option Addr) (n c m d : Nat) (w : World) :
  Calls Try.prog 35 #[.agg #[.int .i64 0, .slice A n c], .agg #[.int .i64 t, .slice B m d]] w fun e w' => e = .returned (.agg #[.int .i64 t, .slice B m d]) ∧ Below w.heap.size w w' := by
 go_enter Try.func35, Try.ntmps35
 go_wp2
 exact bodyPost_ret (v := .agg #[.int .i64 t, .slice B m d]) (by simp [results, Try.results35, go_sem]) rfl ⟨rfl, (((Below.refl _ _).alloc (Nat.le_refl _) _).alloc (by simp) _).alloc (by simp; omega) _⟩
theorem add_right (s : Int) (hs : (s == 0) = false) (A B : Option Addr) (n c m d : Nat) (w : World) :
  Calls Try.prog 35 #[.agg #[.int .i64 s, .slice A n c], .agg #[.int .i64 0, .slice B m d]] w fun e w' => e = .returned (.agg #[.int .i64 s, .slice A n c]) ∧ Below w.heap.size w w' := by
 go_enter Try.func35, Try.ntmps35
 go_wp2
 exact bodyPost_ret (v := .agg #[.int .i64 s, .slice A n c]) (by simp [results, Try.results35, go_sem]) rfl ⟨rfl, (((Below.refl _ _).alloc (Nat.le_refl _) _).alloc (by simp) _).alloc (by simp; omega) _⟩
set_option maxHeartbeats 1000000 in
theorem add_same (s : Int) (hs : (s == 0) = false) (A B : Option Addr) (n c m d : Nat) (xs ys zs : List Int) (k : Nat) (w : World) (hA : RV w (.slice A n c) xs) (hB : RV w (.slice B m d) ys) (H : Aside0 (zelligeref03_Add.f k xs ys = some zs)) :
  Calls Try.prog 35 #[.agg #[.int .i64 s, .slice A n c], .agg #[.int .i64 s, .slice B m d]] w fun e w' => ∃ v, e = .returned (.agg #[.int .i64 s, v]) ∧ RV w' v zs ∧ Below w.heap.size w w' := by
 obtain ⟨qa, qc, hA'⟩ := hA.reads
 obtain ⟨qb, qd, hB'⟩ := hB.reads
 subst qa qb
 have HA := Aside0.mk (fun (W : World) (hb : Below w.heap.size w W) => hA.below hb)
 have HB := Aside0.mk (fun (W : World) (hb : Below w.heap.size w W) => hB.below hb)
 clear hA hB hA' hB'
 go_enter Try.func35, Try.ntmps35
 go_wp2_with fail
 obtain ⟨n0, n1, n2, bw, nw⟩ := three_new w (.cells #[.int .i64 s, .slice A xs.length c] 42) (.cells #[.int .i64 s, .slice B ys.length d] 42) (.cells #[.int .i64 0, .slice none 0 0] 42)
 generalize (((w.alloc (.cells #[.int .i64 s, .slice A xs.length c] 42)).alloc (.cells #[.int .i64 s, .slice B ys.length d] 42)).alloc (.cells #[.int .i64 0, .slice none 0 0] 42)) = W at n0 n1 n2 bw nw ⊢
 have N2 := Aside0.mk n2
 have BW := Aside0.mk bw
 have c0 : W.cell? ⟨w.heap.size, 0, none⟩ = some (.int .i64 s) := (blk_cell n0 0).trans rfl
 have c1 : W.cell? ⟨w.heap.size, 1, none⟩ = some (.slice A xs.length c) := (blk_cell n0 1).trans rfl
 have k0 : W.cell? ⟨w.heap.size + 1, 0, none⟩ = some (.int .i64 s) := (blk_cell n1 0).trans rfl
 have c2 : W.cell? ⟨w.heap.size + 1, 1, none⟩ = some (.slice B ys.length d) := (blk_cell n1 1).trans rfl
 clear n0 n1 n2 bw nw
 go_region_held3 (fun w' => w'.cell? ⟨w.heap.size, 0, none⟩ = some (.int .i64 s) ∧ w'.cell? ⟨w.heap.size, 1, none⟩ = some (.slice A xs.length c) ∧ w'.cell? ⟨w.heap.size + 1, 1, none⟩ = some (.slice B ys.length d)) (first | exact ⟨c0, c1, c2⟩ | exact ⟨d0, d1, d2⟩ | exact ⟨far2 d0 (by omega), far2 d1 (by omega), far2 d2 (by omega)⟩)
  (first | (go_at_call 52; refine (zelligeref03_Add.calls k A c xs B d ys zs _ ?s1 ?s2 ?s3 ?s4 H.out).mono ?_; (case s1 => exact (HA.out _ (below_drew BW.out)).reads.2.2); (case s2 => exact qc); (case s3 => exact (HB.out _ (below_drew BW.out)).reads.2.2); (case s4 => exact qd); rintro e w1 ⟨v, rfl, hR, hb⟩; have HR := Aside0.mk (RV.of_R hR); clear hR; obtain ⟨A2, cc2, rfl, hl2, hC2⟩ := HR.out.form; clear hC2; have d0 := pw_cell_below (w := W.drew) hb c0; have d1 := pw_cell_below (w := W.drew) hb c1; have d2 := pw_cell_below (w := W.drew) hb c2; have m2 := blk_below (w := W.drew) N2.out hb; have d3 : w1.cell? ⟨w.heap.size + 1 + 1, 0, none⟩ = some (.int .i64 0) := (blk_cell m2 0).trans rfl; have d4 : w1.cell? ⟨w.heap.size + 1 + 1, 1, none⟩ = some (.slice none 0 0) := (blk_cell m2 1).trans rfl; have g3 := blk_frozen m2 0; have g4 := blk_frozen m2 1; have M2 := Aside0.mk m2; have Hb := Aside0.mk hb; clear hb m2))
 go_wp2
 refine bodyPost_ret (results_cell_row rfl _ _ (w.heap.size + 1 + 1) 42 #[.int .i64 s, .slice A2 zs.length cc2] (0, 0) _ rfl (blk_put (cs := #[.int .i64 s, .slice none 0 0]) (blk_put (cs := #[.int .i64 0, .slice none 0 0]) M2.out 0 _ rfl) 1 _ rfl) Try.underlying42 rfl (by kernel_rfl)) rfl ?_
 exact ⟨_, rfl, (HR.out.store M2.out (by decide) 0 _).store (blk_put (cs := #[.int .i64 0, .slice none 0 0]) M2.out 0 _ rfl) (by decide) 1 _, below_set2 (below_then (below_drew BW.out) BW.out.size Hb.out) (by omega) _ _ _ _⟩
set_option maxHeartbeats 2000000 in
theorem add_ge (s t : Int) (hs : (s == 0) = false) (ht : (t == 0) = false) (hst : (s == t) = false) (A B : Option Addr) (n c m d : Nat) (xs ys zs : List Int) (cv : Int) (hc : decide (cv < 0) = false) (hc' : decide (0 ≤ cv) = true) (k : Nat) (w : World) (hA : RV w (.slice A n c) xs) (hB : RV w (.slice B m d) ys) (H : Aside0 (zelligeref03_Cmp.f k xs ys = some cv)) (Hs : Aside0 (zelligeref03_Sub.f k xs ys = some zs)) (r : Int) (hz : Aside0 ((if zs = [] then 0 else s) = r)) :
  Calls Try.prog 35 #[.agg #[.int .i64 s, .slice A n c], .agg #[.int .i64 t, .slice B m d]] w fun e w' => ∃ v, e = .returned (.agg #[.int .i64 r, v]) ∧ RV w' v zs ∧ Below w.heap.size w w' := by
 obtain ⟨qa, qc, hA'⟩ := hA.reads
 obtain ⟨qb, qd, hB'⟩ := hB.reads
 subst qa qb
 have HA := Aside0.mk (fun (W : World) (hb : Below w.heap.size w W) => hA.below hb)
 have HB := Aside0.mk (fun (W : World) (hb : Below w.heap.size w W) => hB.below hb)
 clear hA hB hA' hB'
 go_enter Try.func35, Try.ntmps35
 go_wp2_with fail
 obtain ⟨n0, n1, n2, bw, nw⟩ := three_new w (.cells #[.int .i64 s, .slice A xs.length c] 42) (.cells #[.int .i64 t, .slice B ys.length d] 42) (.cells #[.int .i64 0, .slice none 0 0] 42)
 generalize (((w.alloc (.cells #[.int .i64 s, .slice A xs.length c] 42)).alloc (.cells #[.int .i64 t, .slice B ys.length d] 42)).alloc (.cells #[.int .i64 0, .slice none 0 0] 42)) = W at n0 n1 n2 bw nw ⊢
 have N2 := Aside0.mk n2
 have BW := Aside0.mk bw
 have c0 : W.cell? ⟨w.heap.size, 0, none⟩ = some (.int .i64 s) := (blk_cell n0 0).trans rfl
 have c1 : W.cell? ⟨w.heap.size, 1, none⟩ = some (.slice A xs.length c) := (blk_cell n0 1).trans rfl
 have k0 : W.cell? ⟨w.heap.size + 1, 0, none⟩ = some (.int .i64 t) := (blk_cell n1 0).trans rfl
 have c2 : W.cell? ⟨w.heap.size + 1, 1, none⟩ = some (.slice B ys.length d) := (blk_cell n1 1).trans rfl
 clear n0 n1 n2 bw nw
 refine (zelligeref03_Cmp.calls k A c xs B d ys cv _ ?s1 ?s2 ?s3 ?s4 H.out).mono ?_
 case s1 => exact (HA.out _ BW.out).reads.2.2
 case s2 => exact qc
 case s3 => exact (HB.out _ BW.out).reads.2.2
 case s4 => exact qd
 rintro e w1 ⟨rfl, ⟨nd, rfl⟩⟩
 go_wp2_with fail
 go_region_held3 (fun w' => w'.cell? ⟨w.heap.size, 0, none⟩ = some (.int .i64 s) ∧ w'.cell? ⟨w.heap.size, 1, none⟩ = some (.slice A xs.length c) ∧ w'.cell? ⟨w.heap.size + 1, 1, none⟩ = some (.slice B ys.length d)) (first | exact ⟨c0, c1, c2⟩ | exact ⟨d0, d1, d2⟩ | exact ⟨e0, e1, e2⟩ | exact ⟨far2 e0 (by omega), far2 e1 (by omega), far2 e2 (by omega)⟩)
  (first | (go_at_call 54; refine (zelligeref03_Sub.calls k A c xs B d ys zs _ ?s1 ?s2 ?s3 ?s4 Hs.out).mono ?_; (case s1 => exact (HA.out _ (by repeat (first | exact BW.out | apply below_drew | apply pw_below_drewN))).reads.2.2); (case s2 => exact qc); (case s3 => exact (HB.out _ (by repeat (first | exact BW.out | apply below_drew | apply pw_below_drewN))).reads.2.2); (case s4 => exact qd); rintro e w1 ⟨v, rfl, hR, hb⟩; have HR := Aside0.mk (RV.of_R hR); clear hR; obtain ⟨A2, cc2, rfl, hl2, hC2⟩ := HR.out.form; clear hC2; have d0 := pw_cell_below hb c0; have d1 := pw_cell_below hb c1; have d2 := pw_cell_below hb c2; have M1 := Aside0.mk (blk_below (w := W.drewN (nd + 1)) (o := .cells #[.int .i64 0, .slice none 0 0] 42 (0, 0)) N2.out hb); have Hb := Aside0.mk (below_then (B := w.heap.size) (w := w) (w1 := W.drewN (nd + 1)) (by repeat (first | exact BW.out | apply below_drew | apply pw_below_drewN)) BW.out.size hb); clear hb) | (go_at_call 49; refine (make1_any _ r hz _ _ HR.out).mono ?_; rintro e w2 ⟨u, rfl, hR, hb⟩; have HU := Aside0.mk hR; clear hR; obtain ⟨A3, cc3, rfl, hl3, hC3⟩ := HU.out.form; clear hC3; have e0 := pw_cell_below hb d0; have e1 := pw_cell_below hb d1; have e2 := pw_cell_below hb d2; have m2 := blk_below M1.out hb; have e3 : w2.cell? ⟨w.heap.size + 1 + 1, 0, none⟩ = some (.int .i64 0) := (blk_cell m2 0).trans rfl; have e4 : w2.cell? ⟨w.heap.size + 1 + 1, 1, none⟩ = some (.slice none 0 0) := (blk_cell m2 1).trans rfl; have g3 := blk_frozen m2 0; have g4 := blk_frozen m2 1; have M2 := Aside0.mk m2; have Hb2 := Aside0.mk (below_then Hb.out Hb.out.size hb); clear hb m2))
 go_wp2
 refine bodyPost_ret (results_cell_row rfl _ _ (w.heap.size + 1 + 1) 42 #[.int .i64 r, .slice A3 zs.length cc3] (0, 0) _ rfl (blk_put (cs := #[.int .i64 r, .slice none 0 0]) (blk_put (cs := #[.int .i64 0, .slice none 0 0]) M2.out 0 _ rfl) 1 _ rfl) Try.underlying42 rfl (by kernel_rfl)) rfl ?_
 exact ⟨_, rfl, (HU.out.store M2.out (by decide) 0 _).store (blk_put (cs := #[.int .i64 0, .slice none 0 0]) M2.out 0 _ rfl) (by decide) 1 _, below_set2 Hb2.out (by omega) _ _ _ _⟩
set_option maxHeartbeats 2000000 in
theorem add_lt (s t : Int) (hs : (s == 0) = false) (ht : (t == 0) = false) (hst : (s == t) = false) (A B : Option Addr) (n c m d : Nat) (xs ys zs : List Int) (cv : Int) (hc : decide (cv < 0) = true) (hc' : decide (0 ≤ cv) = false) (k : Nat) (w : World) (hA : RV w (.slice A n c) xs) (hB : RV w (.slice B m d) ys) (H : Aside0 (zelligeref03_Cmp.f k xs ys = some cv)) (Hs : Aside0 (zelligeref03_Sub.f k ys xs = some zs)) (r : Int) (hz : Aside0 ((if zs = [] then 0 else t) = r)) :
  Calls Try.prog 35 #[.agg #[.int .i64 s, .slice A n c], .agg #[.int .i64 t, .slice B m d]] w fun e w' => ∃ v, e = .returned (.agg #[.int .i64 r, v]) ∧ RV w' v zs ∧ Below w.heap.size w w' := by
 obtain ⟨qa, qc, hA'⟩ := hA.reads
 obtain ⟨qb, qd, hB'⟩ := hB.reads
 subst qa qb
 have HA := Aside0.mk (fun (W : World) (hb : Below w.heap.size w W) => hA.below hb)
 have HB := Aside0.mk (fun (W : World) (hb : Below w.heap.size w W) => hB.below hb)
 clear hA hB hA' hB'
 go_enter Try.func35, Try.ntmps35
 go_wp2_with fail
 obtain ⟨n0, n1, n2, bw, nw⟩ := three_new w (.cells #[.int .i64 s, .slice A xs.length c] 42) (.cells #[.int .i64 t, .slice B ys.length d] 42) (.cells #[.int .i64 0, .slice none 0 0] 42)
 generalize (((w.alloc (.cells #[.int .i64 s, .slice A xs.length c] 42)).alloc (.cells #[.int .i64 t, .slice B ys.length d] 42)).alloc (.cells #[.int .i64 0, .slice none 0 0] 42)) = W at n0 n1 n2 bw nw ⊢
 have N2 := Aside0.mk n2
 have BW := Aside0.mk bw
 have c0 : W.cell? ⟨w.heap.size, 0, none⟩ = some (.int .i64 s) := (blk_cell n0 0).trans rfl
 have c1 : W.cell? ⟨w.heap.size, 1, none⟩ = some (.slice A xs.length c) := (blk_cell n0 1).trans rfl
 have k0 : W.cell? ⟨w.heap.size + 1, 0, none⟩ = some (.int .i64 t) := (blk_cell n1 0).trans rfl
 have c2 : W.cell? ⟨w.heap.size + 1, 1, none⟩ = some (.slice B ys.length d) := (blk_cell n1 1).trans rfl
 clear n0 n1 n2 bw nw
 refine (zelligeref03_Cmp.calls k A c xs B d ys cv _ ?s1 ?s2 ?s3 ?s4 H.out).mono ?_
 case s1 => exact (HA.out _ BW.out).reads.2.2
 case s2 => exact qc
 case s3 => exact (HB.out _ BW.out).reads.2.2
 case s4 => exact qd
 rintro e w1 ⟨rfl, ⟨nd, rfl⟩⟩
 go_wp2_with fail
 go_region_held3 (fun w' => w'.cell? ⟨w.heap.size + 1, 0, none⟩ = some (.int .i64 t) ∧ w'.cell? ⟨w.heap.size, 1, none⟩ = some (.slice A xs.length c) ∧ w'.cell? ⟨w.heap.size + 1, 1, none⟩ = some (.slice B ys.length d)) (first | exact ⟨k0, c1, c2⟩ | exact ⟨d0, d1, d2⟩ | exact ⟨e0, e1, e2⟩ | exact ⟨far2 e0 (by omega), far2 e1 (by omega), far2 e2 (by omega)⟩)
  (first | (go_at_call 54; refine (zelligeref03_Sub.calls k B d ys A c xs zs _ ?s1 ?s2 ?s3 ?s4 Hs.out).mono ?_; (case s1 => exact (HB.out _ (by repeat (first | exact BW.out | apply below_drew | apply pw_below_drewN))).reads.2.2); (case s2 => exact qd); (case s3 => exact (HA.out _ (by repeat (first | exact BW.out | apply below_drew | apply pw_below_drewN))).reads.2.2); (case s4 => exact qc); rintro e w1 ⟨v, rfl, hR, hb⟩; have HR := Aside0.mk (RV.of_R hR); clear hR; obtain ⟨A2, cc2, rfl, hl2, hC2⟩ := HR.out.form; clear hC2; have d0 := pw_cell_below hb k0; have d1 := pw_cell_below hb c1; have d2 := pw_cell_below hb c2; have M1 := Aside0.mk (blk_below (w := W.drewN (nd + 1)) (o := .cells #[.int .i64 0, .slice none 0 0] 42 (0, 0)) N2.out hb); have Hb := Aside0.mk (below_then (B := w.heap.size) (w := w) (w1 := W.drewN (nd + 1)) (by repeat (first | exact BW.out | apply below_drew | apply pw_below_drewN)) BW.out.size hb); clear hb) | (go_at_call 49; refine (make1_any _ r hz _ _ HR.out).mono ?_; rintro e w2 ⟨u, rfl, hR, hb⟩; have HU := Aside0.mk hR; clear hR; obtain ⟨A3, cc3, rfl, hl3, hC3⟩ := HU.out.form; clear hC3; have e0 := pw_cell_below hb d0; have e1 := pw_cell_below hb d1; have e2 := pw_cell_below hb d2; have m2 := blk_below M1.out hb; have e3 : w2.cell? ⟨w.heap.size + 1 + 1, 0, none⟩ = some (.int .i64 0) := (blk_cell m2 0).trans rfl; have e4 : w2.cell? ⟨w.heap.size + 1 + 1, 1, none⟩ = some (.slice none 0 0) := (blk_cell m2 1).trans rfl; have g3 := blk_frozen m2 0; have g4 := blk_frozen m2 1; have M2 := Aside0.mk m2; have Hb2 := Aside0.mk (below_then Hb.out Hb.out.size hb); clear hb m2))
 go_wp2
 refine bodyPost_ret (results_cell_row rfl _ _ (w.heap.size + 1 + 1) 42 #[.int .i64 r, .slice A3 zs.length cc3] (0, 0) _ rfl (blk_put (cs := #[.int .i64 r, .slice none 0 0]) (blk_put (cs := #[.int .i64 0, .slice none 0 0]) M2.out 0 _ rfl) 1 _ rfl) Try.underlying42 rfl (by kernel_rfl)) rfl ?_
 exact ⟨_, rfl, (HU.out.store M2.out (by decide) 0 _).store (blk_put (cs := #[.int .i64 0, .slice none 0 0]) M2.out 0 _ rfl) (by decide) 1 _, below_set2 Hb2.out (by omega) _ _ _ _⟩
end Go.Proofs.Ytlkngfidohiepaa.Whole
end
section
namespace Go.Proofs.Ytlkngfidohiepaa.Whole
open Go RowKit YtlkngfidohiepaaW.PrintWords YtlkngfidohiepaaW.PrintLast YtlkngfidohiepaaW.PrintMore Ytlkngfidohiepaa.F Ytlkngfidohiepaa.Dig
set_option linter.unusedVariables false
structure NI (w : World) (v : Value) (n : Int) : Prop where
 mk :: (out : ∃ A l c, v = .agg #[.int .i64 n.sign, .slice A l c] ∧ RV w (.slice A l c) (dig n.natAbs))
theorem NI.below {w w' : World} {v : Value} {n : Int} (h : NI w v n) (hb : Below w.heap.size w w') : NI w' v n := by
 obtain ⟨A, l, c, rfl, h⟩ := h
 exact ⟨A, l, c, rfl, h.below hb⟩
theorem NI.drewN {w : World} {v : Value} {n : Int} (h : NI w v n) (k : Nat) : NI (w.drewN k) v n := by
 obtain ⟨A, l, c, rfl, h⟩ := h
 exact ⟨A, l, c, rfl, h.drewN k⟩
theorem NI.store {w : World} {v : Value} {n : Int} (h : NI w v n) {g t : Nat} {cs : Array Value} (hg : w.heap[g]? = some (.cells cs t (0, 0))) (ht : t ≠ 3) (i : Nat) (u : Value) : NI (w.setCell ⟨g, i, none⟩ u) v n := by
 obtain ⟨A, l, c, rfl, h⟩ := h
 exact ⟨A, l, c, rfl, h.store hg ht i u⟩
theorem NI.shape {w : World} {v : Value} {n : Int} (h : NI w v n) : ∃ (s : Int) (A : Option Addr) (l c : Nat), v = .agg #[.int .i64 s, .slice A l c] := by
 obtain ⟨A, l, c, rfl, h⟩ := h
 exact ⟨_, A, l, c, rfl⟩
def Sm (n : Int) : Prop := (dig n.natAbs).length ≤ 1000
theorem Sm.of {n : Int} (h : -115792089237316195423570985008687907853269984665640564039457584007913129639936 ≤ n) (h' : n ≤ 115792089237316195423570985008687907853269984665640564039457584007913129639936) : Sm n := by
 have : (dig n.natAbs).length ≤ 17 := by
  apply dig_len
  simp only [P]
  omega
 unfold Sm
 omega
theorem sign_eq (n : Int) : n.sign = if n = 0 then 0 else if n < 0 then -1 else 1 := by
 rcases Int.lt_trichotomy n 0 with h | h | h
 ·rw [Int.sign_eq_neg_one_of_neg h, if_neg (by omega), if_pos h]
 ·subst h; rfl
 ·rw [Int.sign_eq_one_of_pos h, if_neg (by omega), if_neg (by omega)]
theorem dig_nil {n : Nat} : dig n = [] ↔ n = 0 := ⟨fun h => by
 have := dig_val n
 rw [h] at this
 simp [val] at this
 omega, fun h => by rw [h, dig_zero]⟩
theorem add_c (v u : Value) (n m : Int) (hn : Sm n) (hm : Sm m) (w : World) (h : NI w v n) (h' : NI w u m) :
  Calls Try.prog 35 #[v, u] w fun e w' => ∃ r, e = .returned r ∧ NI w' r (n + m) ∧ Below w.heap.size w w' := by
 obtain ⟨A, l, c, rfl, hA⟩ := h
 obtain ⟨B, l', d, rfl, hB⟩ := h'
 unfold Sm at hn hm
 by_cases n0 : n = 0
 ·subst n0
  rw [show (0 : Int).sign = 0 from rfl]
  refine (add_left m.sign A B l c l' d w).mono fun e w' ⟨he, hb⟩ => ⟨_, he, ?_, hb⟩
  rw [Int.zero_add]
  exact ⟨B, l', d, rfl, hB.below hb⟩
 have s0 : (n.sign == 0) = false := beq_eq_false_iff_ne.2 (fun e => n0 (Int.sign_eq_zero_iff_zero.1 e))
 by_cases m0 : m = 0
 ·subst m0
  rw [show (0 : Int).sign = 0 from rfl]
  refine (add_right n.sign s0 A B l c l' d w).mono fun e w' ⟨he, hb⟩ => ⟨_, he, ?_, hb⟩
  rw [Int.add_zero]
  exact ⟨A, l, c, rfl, hA.below hb⟩
 have t0 : (m.sign == 0) = false := beq_eq_false_iff_ne.2 (fun e => m0 (Int.sign_eq_zero_iff_zero.1 e))
 have fin : ∀ (e : Ending) (w' : World) (r v' : _) (k : Nat), e = .returned (.agg #[.int .i64 r, v']) → RV w' v' (dig k) → r = (n + m).sign → k = (n + m).natAbs → Below w.heap.size w w' → ∃ r, e = .returned r ∧ NI w' r (n + m) ∧ Below w.heap.size w w' := by
  intro e w' r v' k he hv hr hk hb
  obtain ⟨A', c', rfl, _⟩ := hv.form
  subst hr hk
  exact ⟨_, he, ⟨A', _, c', rfl, hv⟩, hb⟩
 by_cases st : n.sign = m.sign
 ·have := add_f n.natAbs m.natAbs (by omega) (by omega) (k := 50000) (by omega)
  rw [← st]
  refine (add_same n.sign s0 A B l c l' d _ _ _ 50000 w hA hB ⟨this⟩).mono fun e w' ⟨v', he, hv, hb⟩ => fin e w' _ _ _ he hv ?_ ?_ hb
  ·rw [sign_eq, sign_eq]
   rw [sign_eq, sign_eq] at st
   omega
  ·rw [sign_eq, sign_eq] at st
   omega
 ·have hst : (n.sign == m.sign) = false := beq_eq_false_iff_ne.2 st
  have hc := cmp_f n.natAbs m.natAbs (by omega) (k := 50000) (by omega)
  rw [sign_eq, sign_eq] at st
  by_cases hlt : n.natAbs < m.natAbs
  ·rw [if_pos hlt] at hc
   have hs := sub_f m.natAbs n.natAbs (by omega) (by omega) (k := 50000) (by omega)
   refine (add_lt n.sign m.sign s0 t0 hst A B l c l' d _ _ _ (-1) (by decide) (by decide) 50000 w hA hB ⟨hc⟩ ⟨hs⟩ _ ⟨rfl⟩).mono fun e w' ⟨v', he, hv, hb⟩ => fin e w' _ _ _ he hv ?_ (by omega) hb
   rw [if_neg (fun e => by rw [dig_nil] at e; omega), sign_eq, sign_eq]
   omega
  ·have hs := sub_f n.natAbs m.natAbs (by omega) (by omega) (k := 50000) (by omega)
   rw [if_neg hlt] at hc
   refine (add_ge n.sign m.sign s0 t0 hst A B l c l' d _ _ _ (if n.natAbs > m.natAbs then 1 else 0) (by split <;> rfl) (by split <;> rfl) 50000 w hA hB ⟨hc⟩ ⟨hs⟩ _ ⟨rfl⟩).mono fun e w' ⟨v', he, hv, hb⟩ => fin e w' _ _ _ he hv ?_ (by omega) hb
   by_cases he : n.natAbs = m.natAbs
   ·rw [if_pos (dig_nil.2 (by omega)), sign_eq]
    omega
   ·rw [if_neg (fun e => by rw [dig_nil] at e; omega), sign_eq, sign_eq]
    omega
theorem neg_c (v : Value) (n : Int) (w : World) (h : NI w v n) :
  Calls Try.prog 51 #[v] w fun e w' => ∃ r, e = .returned r ∧ NI w' r (-n) ∧ Below w.heap.size w w' := by
 obtain ⟨A, l, c, rfl, hA⟩ := h
 refine (neg_any n.sign A l c w).mono fun e w' ⟨he, hb⟩ => ⟨_, he, ⟨A, l, c, ?_, ?_⟩, hb⟩
 ·have : wrap64 (0 - n.sign) = (-n).sign := by
   rw [sign_eq, sign_eq]
   unfold wrap64
   omega
  rw [this]
 ·rw [Int.natAbs_neg]; exact hA.below hb
theorem long_c (n : Int) (hn : (Lit.int .i64 n).wf = true) (w : World) :
  Calls Try.prog 25 #[.int .i64 n] w fun e w' => ∃ r, e = .returned r ∧ NI w' r n ∧ Below w.heap.size w w' := by
 have bd : -9223372036854775808 ≤ n ∧ n ≤ 9223372036854775807 := by
  exact bounds_i64 hn
 have hf : zelligeref04_Long.f 1000 n = some (n.sign, dig n.natAbs) := by
  unfold zelligeref04_Long.f
  have u64 : ∀ x : Int, IntKind.u64.wrap x = x % 18446744073709551616 := by intro x; simp [IntKind.wrap, IntKind.bits, IntKind.signed]
  by_cases h0 : n = 0
  ·subst h0; rw [if_pos rfl]; simp [dig_zero]
  ·rw [if_neg h0]
   by_cases h1 : n < 0
   ·rw [if_pos h1, u64, u64, of_two _ _ (by omega) (by omega) (by omega) (by omega) (by omega)]
    simp only [Option.bind_some]
    rw [Int.sign_eq_neg_one_of_neg h1]
    congr 3
    omega
   ·rw [if_neg h1, u64, of_two _ _ (by omega) (by omega) (by omega) (by omega) (by omega)]
    simp only [Option.bind_some]
    rw [Int.sign_eq_one_of_pos (by omega)]
    congr 3
    omega
 refine (zelligeref04_Long.calls 1000 n _ _ w hf).mono fun e w' ⟨v, he, hR, hb⟩ => ?_
 have hv := RV.of_R hR
 obtain ⟨A', c', rfl, _⟩ := hv.form
 exact ⟨_, he, ⟨A', _, c', rfl, hv⟩, hb⟩
set_option maxHeartbeats 1000000 in
theorem sub_walk (s : Int) (A : Option Addr) (l c : Nat) (t : Int) (B : Option Addr) (m d : Nat) (n n' : Int) (hn : Sm n) (hm : Sm n') (w : World) (h : NI w (.agg #[.int .i64 s, .slice A l c]) n) (h' : NI w (.agg #[.int .i64 t, .slice B m d]) n') :
  Calls Try.prog 34 #[.agg #[.int .i64 s, .slice A l c], .agg #[.int .i64 t, .slice B m d]] w fun e w' => ∃ r, e = .returned r ∧ NI w' r (n - n') ∧ Below w.heap.size w w' := by
 have HA := Aside0.mk (fun (W : World) (hb : Below w.heap.size w W) => h.below hb)
 have HB := Aside0.mk (fun (W : World) (hb : Below w.heap.size w W) => h'.below hb)
 have hm' : Aside0 (Sm (-n')) := ⟨by unfold Sm at hm ⊢; rw [Int.natAbs_neg]; exact hm⟩
 clear h h'
 go_enter Try.func34, Try.ntmps34
 go_wp2_with fail
 obtain ⟨n0, n1, n2, bw, nw⟩ := three_new w (.cells #[.int .i64 s, .slice A l c] 42) (.cells #[.int .i64 t, .slice B m d] 42) (.cells #[.int .i64 0, .slice none 0 0] 42)
 generalize (((w.alloc (.cells #[.int .i64 s, .slice A l c] 42)).alloc (.cells #[.int .i64 t, .slice B m d] 42)).alloc (.cells #[.int .i64 0, .slice none 0 0] 42)) = W at n0 n1 n2 bw nw ⊢
 have N2 := Aside0.mk n2
 have BW := Aside0.mk bw
 have c0 : W.cell? ⟨w.heap.size, 0, none⟩ = some (.int .i64 s) := (blk_cell n0 0).trans rfl
 have c1 : W.cell? ⟨w.heap.size, 1, none⟩ = some (.slice A l c) := (blk_cell n0 1).trans rfl
 have k0 : W.cell? ⟨w.heap.size + 1, 0, none⟩ = some (.int .i64 t) := (blk_cell n1 0).trans rfl
 have k1 : W.cell? ⟨w.heap.size + 1, 1, none⟩ = some (.slice B m d) := (blk_cell n1 1).trans rfl
 clear n0 n1 n2 bw nw
 go_region_held3 (fun w' => w'.cell? ⟨w.heap.size, 0, none⟩ = some (.int .i64 s) ∧ w'.cell? ⟨w.heap.size, 1, none⟩ = some (.slice A l c) ∧ w'.cell? ⟨w.heap.size + 1, 0, none⟩ = some (.int .i64 t) ∧ w'.cell? ⟨w.heap.size + 1, 1, none⟩ = some (.slice B m d)) (first | exact ⟨c0, c1, k0, k1⟩ | exact ⟨d0, d1, d2, d3⟩ | exact ⟨e0, e1, e2, e3⟩ | exact ⟨far2 e0 (by omega), far2 e1 (by omega), far2 e2 (by omega), far2 e3 (by omega)⟩)
  (first | (go_at_call 51; refine (neg_c _ n' _ (HB.out _ (below_drew BW.out))).mono ?_; rintro e w1 ⟨v, rfl, hN, hb⟩; have HN := Aside0.mk hN; clear hN; obtain ⟨s1, A1, l1, cc1, rfl⟩ := HN.out.shape; have d0 := pw_cell_below (w := W.drew) hb c0; have d1 := pw_cell_below (w := W.drew) hb c1; have d2 := pw_cell_below (w := W.drew) hb k0; have d3 := pw_cell_below (w := W.drew) hb k1; have M1 := Aside0.mk (blk_below (w := W.drew) N2.out hb); have Hb := Aside0.mk (below_then (below_drew BW.out) BW.out.size hb); clear hb) | (go_at_call 35; refine (add_c _ _ n (-n') hn hm'.out _ (HA.out _ Hb.out) HN.out).mono ?_; rintro e w2 ⟨u, rfl, hN, hb⟩; have HU := Aside0.mk hN; clear hN; obtain ⟨s3, A3, l3, cc3, rfl⟩ := HU.out.shape; have e0 := pw_cell_below hb d0; have e1 := pw_cell_below hb d1; have e2 := pw_cell_below hb d2; have e3 := pw_cell_below hb d3; have m2 := blk_below M1.out hb; have e4 : w2.cell? ⟨w.heap.size + 1 + 1, 0, none⟩ = some (.int .i64 0) := (blk_cell m2 0).trans rfl; have e5 : w2.cell? ⟨w.heap.size + 1 + 1, 1, none⟩ = some (.slice none 0 0) := (blk_cell m2 1).trans rfl; have g3 := blk_frozen m2 0; have g4 := blk_frozen m2 1; have M2 := Aside0.mk m2; have Hb2 := Aside0.mk (below_then Hb.out Hb.out.size hb); clear hb m2))
 go_wp2
 refine bodyPost_ret (results_cell_row rfl _ _ (w.heap.size + 1 + 1) 42 #[.int .i64 s3, .slice A3 l3 cc3] (0, 0) _ rfl (blk_put (cs := #[.int .i64 s3, .slice none 0 0]) (blk_put (cs := #[.int .i64 0, .slice none 0 0]) M2.out 0 _ rfl) 1 _ rfl) Try.underlying42 rfl (by kernel_rfl)) rfl ?_
 exact ⟨_, rfl, (HU.out.store M2.out (by decide) 0 _).store (blk_put (cs := #[.int .i64 0, .slice none 0 0]) M2.out 0 _ rfl) (by decide) 1 _, below_set2 Hb2.out (by omega) _ _ _ _⟩
theorem sub_c (v u : Value) (n m : Int) (hn : Sm n) (hm : Sm m) (w : World) (h : NI w v n) (h' : NI w u m) :
  Calls Try.prog 34 #[v, u] w fun e w' => ∃ r, e = .returned r ∧ NI w' r (n - m) ∧ Below w.heap.size w w' := by
 obtain ⟨s, A, l, c, rfl⟩ := h.shape
 obtain ⟨t, B, k, d, rfl⟩ := h'.shape
 exact sub_walk s A l c t B k d n m hn hm w h h'
theorem field_sign (q : Int) (v : Value) (W : World) : (Instr.field 42 (.agg #[.int .i64 q, v]) 0).run Try.prog W = .ok (.int .i64 q) W := by kernel_rfl
set_option maxHeartbeats 1000000 in
theorem cmp_walk (s : Int) (A : Option Addr) (l c : Nat) (t : Int) (B : Option Addr) (m d : Nat) (n n' : Int) (hn : Sm n) (hm : Sm n') (w : World) (h : NI w (.agg #[.int .i64 s, .slice A l c]) n) (h' : NI w (.agg #[.int .i64 t, .slice B m d]) n') :
  Calls Try.prog 37 #[.agg #[.int .i64 s, .slice A l c], .agg #[.int .i64 t, .slice B m d]] w fun e w' => e = .returned (.int .i64 (n - n').sign) ∧ Below w.heap.size w w' := by
 have HA := Aside0.mk (fun (W : World) (hb : Below w.heap.size w W) => h.below hb)
 have HB := Aside0.mk (fun (W : World) (hb : Below w.heap.size w W) => h'.below hb)
 clear h h'
 go_enter Try.func37, Try.ntmps37
 go_wp2_with fail
 obtain ⟨n0, n1, bw, nw⟩ := two_new w (.cells #[.int .i64 s, .slice A l c] 42) (.cells #[.int .i64 t, .slice B m d] 42)
 refine (sub_c _ _ n n' hn hm _ (HA.out _ bw) (HB.out _ bw)).mono ?_
 rintro e w1 ⟨v, rfl, hN, hb⟩
 obtain ⟨A1, l1, c1, rfl, _⟩ := hN
 have Hb := Aside0.mk (below_then bw bw.size hb)
 obtain ⟨q, hq⟩ : ∃ q, q = (n - n').sign := ⟨_, rfl⟩
 rw [← hq]
 have HQ := Aside0.mk hq
 clear hb hq n0 n1 bw nw
 have hf := field_sign q (.slice A1 l1 c1)
 go_wp2
 go_ret
 exact ⟨by rw [← HQ.out]; rfl, Hb.out⟩
theorem cmp_c (v u : Value) (n m : Int) (hn : Sm n) (hm : Sm m) (w : World) (h : NI w v n) (h' : NI w u m) :
  Calls Try.prog 37 #[v, u] w fun e w' => e = .returned (.int .i64 (n - m).sign) ∧ Below w.heap.size w w' := by
 obtain ⟨s, A, l, c, rfl⟩ := h.shape
 obtain ⟨t, B, k, d, rfl⟩ := h'.shape
 exact cmp_walk s A l c t B k d n m hn hm w h h'
end Go.Proofs.Ytlkngfidohiepaa.Whole
end
section
namespace Go.Proofs.Ytlkngfidohiepaa.Whole
open Go RowKit YtlkngfidohiepaaW.PrintWords YtlkngfidohiepaaW.PrintLast YtlkngfidohiepaaW.PrintMore Ytlkngfidohiepaa.F Ytlkngfidohiepaa.Dig
set_option linter.unusedVariables false
theorem bthen {w w1 w2 : World} (k : Below w1.heap.size w1 w2) (h : Below w.heap.size w w1) : Below w.heap.size w w2 := below_then h h.size k
theorem one_new (w : World) (o0 : Obj) : (w.alloc o0).heap[w.heap.size]? = some o0 ∧ Below w.heap.size w (w.alloc o0) := ⟨blk_new _ _, (Below.refl _ _).alloc (Nat.le_refl _) _⟩
set_option maxHeartbeats 1000000 in
theorem in_high (s : Int) (A : Option Addr) (l c : Nat) (n : Int) (hn : Sm n) (q1 : Int) (hq1 : Aside0 ((n - 1099511627776).sign = q1)) (h1 : decide (q1 ≤ 0) = false) (w : World) (h : NI w (.agg #[.int .i64 s, .slice A l c]) n) :
  Calls Try.prog 24 #[.agg #[.int .i64 s, .slice A l c]] w fun e w' => e = .returned (.bool false) ∧ Below w.heap.size w w' := by
 have HA := Aside0.mk (fun (W : World) (hb : Below w.heap.size w W) => h.below hb)
 clear h
 go_enter Try.func24, Try.ntmps24
 go_wp2_with fail
 obtain ⟨n0, bw⟩ := one_new w (.cells #[.int .i64 s, .slice A l c] 42)
 generalize (w.alloc (.cells #[.int .i64 s, .slice A l c] 42)) = W at n0 bw ⊢
 have Hb := Aside0.mk bw
 have d0 : W.cell? ⟨w.heap.size, 0, none⟩ = some (.int .i64 s) := (blk_cell n0 0).trans rfl
 have d1 : W.cell? ⟨w.heap.size, 1, none⟩ = some (.slice A l c) := (blk_cell n0 1).trans rfl
 clear n0 bw
 go_region_with (first | (go_at_call 25; refine (long_c _ ?hw _).mono ?_; (case hw => decide); rintro e w1 ⟨v, rfl, hN, hb⟩; have HN := Aside0.mk hN; clear hN; obtain ⟨s1, A1, l1, cc1, rfl⟩ := HN.out.shape; have d0 := pw_cell_below hb d0; have d1 := pw_cell_below hb d1; have Hb := Aside0.mk (bthen (w := w) hb (by repeat (first | exact Hb.out | apply below_drew | apply pw_below_drewN))); clear hb) | (go_at_call 37; refine (cmp_c _ _ n 1099511627776 hn (Sm.of (by decide) (by decide)) _ (HA.out _ Hb.out) HN.out).mono ?_; rw [hq1.out]; rintro e w1 ⟨rfl, hb⟩; have d0 := pw_cell_below hb d0; have d1 := pw_cell_below hb d1; have Hb := Aside0.mk (bthen (w := w) hb Hb.out); clear hb))
 all_goals go_wp2
 all_goals trace_state
 all_goals go_ret
 all_goals exact ⟨rfl, Hb.out⟩
set_option maxHeartbeats 1000000 in
theorem in_low (s : Int) (A : Option Addr) (l c : Nat) (n : Int) (hn : Sm n) (q1 q2 : Int) (hq1 : Aside0 ((n - 1099511627776).sign = q1)) (h1 : decide (q1 ≤ 0) = true) (hq2 : Aside0 ((n - -1099511627776).sign = q2)) (w : World) (h : NI w (.agg #[.int .i64 s, .slice A l c]) n) :
  Calls Try.prog 24 #[.agg #[.int .i64 s, .slice A l c]] w fun e w' => e = .returned (.bool (decide (0 ≤ q2))) ∧ Below w.heap.size w w' := by
 have HA := Aside0.mk (fun (W : World) (hb : Below w.heap.size w W) => h.below hb)
 clear h
 go_enter Try.func24, Try.ntmps24
 go_wp2_with fail
 obtain ⟨n0, bw⟩ := one_new w (.cells #[.int .i64 s, .slice A l c] 42)
 generalize (w.alloc (.cells #[.int .i64 s, .slice A l c] 42)) = W at n0 bw ⊢
 have Hb := Aside0.mk bw
 have d0 : W.cell? ⟨w.heap.size, 0, none⟩ = some (.int .i64 s) := (blk_cell n0 0).trans rfl
 have d1 : W.cell? ⟨w.heap.size, 1, none⟩ = some (.slice A l c) := (blk_cell n0 1).trans rfl
 clear n0 bw
 go_region_held3 (fun w' => w'.cell? ⟨w.heap.size, 0, none⟩ = some (.int .i64 s) ∧ w'.cell? ⟨w.heap.size, 1, none⟩ = some (.slice A l c)) (first | exact ⟨d0, d1⟩)
  (first | (go_at_call 25; refine (long_c _ ?hw _).mono ?_; (case hw => decide); rintro e w1 ⟨v, rfl, hN, hb⟩; have HN := Aside0.mk hN; clear hN; obtain ⟨s1, A1, l1, cc1, rfl⟩ := HN.out.shape; have d0 := pw_cell_below hb d0; have d1 := pw_cell_below hb d1; have Hb := Aside0.mk (bthen (w := w) hb (by repeat (first | exact Hb.out | apply below_drew | apply pw_below_drewN))); clear hb) | (go_at_call 37; refine (cmp_c _ _ n 1099511627776 hn (Sm.of (by decide) (by decide)) _ (HA.out _ Hb.out) HN.out).mono ?_; rw [hq1.out]; rintro e w1 ⟨rfl, hb⟩; have d0 := pw_cell_below hb d0; have d1 := pw_cell_below hb d1; have Hb := Aside0.mk (bthen (w := w) hb Hb.out); clear hb) | (go_at_call 37; refine (cmp_c _ _ n (-1099511627776) hn (Sm.of (by decide) (by decide)) _ (HA.out _ Hb.out) HN.out).mono ?_; rw [hq2.out]; rintro e w1 ⟨rfl, hb⟩; have d0 := pw_cell_below hb d0; have d1 := pw_cell_below hb d1; have Hb := Aside0.mk (bthen (w := w) hb Hb.out); clear hb))
 go_wp2
 go_ret
 exact ⟨rfl, Hb.out⟩
theorem in_c (v : Value) (n : Int) (hn : Sm n) (w : World) (h : NI w v n) :
  Calls Try.prog 24 #[v] w fun e w' => e = .returned (.bool (decide (-1099511627776 ≤ n ∧ n ≤ 1099511627776))) ∧ Below w.heap.size w w' := by
 obtain ⟨s, A, l, c, rfl⟩ := h.shape
 by_cases h1 : n ≤ 1099511627776
 ·refine (in_low s A l c n hn _ _ ⟨rfl⟩ (decide_eq_true (by rw [sign_eq]; omega)) ⟨rfl⟩ w h).mono fun e w' ⟨he, hb⟩ => ⟨?_, hb⟩
  rw [he]
  congr 2
  rw [decide_eq_decide, sign_eq]
  omega
 ·refine (in_high s A l c n hn _ ⟨rfl⟩ (decide_eq_false (by rw [sign_eq]; omega)) w h).mono fun e w' ⟨he, hb⟩ => ⟨?_, hb⟩
  rw [he]
  congr 2
  exact (decide_eq_false (by omega)).symm
end Go.Proofs.Ytlkngfidohiepaa.Whole
end
section
namespace Go.Proofs.Ytlkngfidohiepaa.Whole
open Go RowKit YtlkngfidohiepaaW.PrintWords YtlkngfidohiepaaW.PrintLast YtlkngfidohiepaaW.PrintMore Ytlkngfidohiepaa.F Ytlkngfidohiepaa.Dig
set_option linter.unusedVariables false
set_option maxHeartbeats 1000000 in
theorem can_no (a b : Int) (ha : (Lit.int .i64 a).wf = true) (ha' : Sm a) (hq : Aside0 (decide (-1099511627776 ≤ a ∧ a ≤ 1099511627776) = false)) (w : World) :
  Calls Try.prog 13 #[.agg #[.int .i64 a, .int .i64 b]] w fun e w' => e = .returned (.bool false) ∧ Below w.heap.size w w' := by
 have HA := Aside0.mk ha
 have HM := Aside0.mk ha'
 clear ha ha'
 go_enter Try.func13, Try.ntmps13
 go_wp2_with fail
 obtain ⟨n0, bw⟩ := one_new w (.cells #[.int .i64 a, .int .i64 b] 23)
 generalize (w.alloc (.cells #[.int .i64 a, .int .i64 b] 23)) = W at n0 bw ⊢
 have Hb := Aside0.mk bw
 have d0 : W.cell? ⟨w.heap.size, 0, none⟩ = some (.int .i64 a) := (blk_cell n0 0).trans rfl
 have d1 : W.cell? ⟨w.heap.size, 1, none⟩ = some (.int .i64 b) := (blk_cell n0 1).trans rfl
 clear n0 bw
 go_wp2_with (first | (go_at_call 25; refine (long_c _ HA.out _).mono ?_; rintro e w1 ⟨v, rfl, hN, hb⟩; have HN := Aside0.mk hN; clear hN; obtain ⟨s1, A1, l1, cc1, rfl⟩ := HN.out.shape; have d0 := pw_cell_below hb d0; have d1 := pw_cell_below hb d1; have Hb := Aside0.mk (bthen hb Hb.out); clear hb) | (go_at_call 24; refine (in_c _ a HM.out _ HN.out).mono ?_; rw [hq.out]; rintro e w1 ⟨rfl, hb⟩; have d0 := pw_cell_below hb d0; have d1 := pw_cell_below hb d1; have Hb := Aside0.mk (bthen hb Hb.out); clear hb))
 go_ret
 exact ⟨rfl, Hb.out⟩
set_option maxHeartbeats 1000000 in
theorem can_yes (a b : Int) (ha : (Lit.int .i64 a).wf = true) (ha' : Sm a) (hb' : (Lit.int .i64 b).wf = true) (hb2 : Sm b) (hq : Aside0 (decide (-1099511627776 ≤ a ∧ a ≤ 1099511627776) = true)) (r : Bool) (hr : Aside0 (decide (-1099511627776 ≤ b ∧ b ≤ 1099511627776) = r)) (w : World) :
  Calls Try.prog 13 #[.agg #[.int .i64 a, .int .i64 b]] w fun e w' => e = .returned (.bool r) ∧ Below w.heap.size w w' := by
 have HA := Aside0.mk ha
 have HM := Aside0.mk ha'
 have HA2 := Aside0.mk hb'
 have HM2 := Aside0.mk hb2
 clear ha ha' hb' hb2
 go_enter Try.func13, Try.ntmps13
 go_wp2_with fail
 obtain ⟨n0, bw⟩ := one_new w (.cells #[.int .i64 a, .int .i64 b] 23)
 generalize (w.alloc (.cells #[.int .i64 a, .int .i64 b] 23)) = W at n0 bw ⊢
 have Hb := Aside0.mk bw
 have d0 : W.cell? ⟨w.heap.size, 0, none⟩ = some (.int .i64 a) := (blk_cell n0 0).trans rfl
 have d1 : W.cell? ⟨w.heap.size, 1, none⟩ = some (.int .i64 b) := (blk_cell n0 1).trans rfl
 clear n0 bw
 go_wp2_with fail
 refine (long_c _ HA.out _).mono ?_
 rintro e w1 ⟨v, rfl, hN, hb⟩
 have HN := Aside0.mk hN; clear hN; obtain ⟨s1, A1, l1, cc1, rfl⟩ := HN.out.shape
 have d0 := pw_cell_below hb d0; have d1 := pw_cell_below hb d1; have Hb := Aside0.mk (bthen hb Hb.out); clear hb
 go_wp2_with fail
 refine (in_c _ a HM.out _ HN.out).mono ?_
 rw [hq.out]
 rintro e w2 ⟨rfl, hb⟩
 have d0 := pw_cell_below hb d0; have d1 := pw_cell_below hb d1; have Hb := Aside0.mk (bthen hb Hb.out); clear hb
 go_wp2_with fail
 refine (long_c _ HA2.out _).mono ?_
 rintro e w3 ⟨v, rfl, hN, hb⟩
 have HN := Aside0.mk hN; clear hN; obtain ⟨s2, A2, l2, cc2, rfl⟩ := HN.out.shape
 have d0 := pw_cell_below hb d0; have d1 := pw_cell_below hb d1; have Hb := Aside0.mk (bthen hb Hb.out); clear hb
 go_wp2_with fail
 refine (in_c _ b HM2.out _ HN.out).mono ?_
 rw [hr.out]
 rintro e w4 ⟨rfl, hb⟩
 have Hb := Aside0.mk (bthen hb Hb.out); clear hb
 go_wp2
 go_ret
 exact ⟨rfl, Hb.out⟩
theorem Sm.i64 {n : Int} (h : -9223372036854775808 ≤ n ∧ n ≤ 9223372036854775807) : Sm n := Sm.of (by omega) (by omega)
theorem wf_of {n : Int} (h : -9223372036854775808 ≤ n ∧ n ≤ 9223372036854775807) : (Lit.int .i64 n).wf = true := WalkArith.wf_i64 (by omega)
end Go.Proofs.Ytlkngfidohiepaa.Whole
namespace Go.Proofs.Ytlkngfidohiepaa.F
open Go RowKit YtlkngfidohiepaaW.PrintWords YtlkngfidohiepaaW.PrintLast YtlkngfidohiepaaW.PrintMore Ytlkngfidohiepaa.Whole
abbrev I64 (n : Int) : Prop := -9223372036854775808 ≤ n ∧ n ≤ 9223372036854775807
abbrev InC (n : Int) : Prop := -1099511627776 ≤ n ∧ n ≤ 1099511627776
def zelligeref06_Can.f (a0_0 : Int) (a0_1 : Int) : Option Bool := if I64 a0_0 ∧ I64 a0_1 then some (decide (InC a0_0 ∧ InC a0_1)) else none
theorem zelligeref06_Can.calls (a0_0 : Int) (a0_1 : Int) (r : Bool) (w : World) (h : zelligeref06_Can.f a0_0 a0_1 = some r) :
  Calls Try.prog 13 #[.agg #[.int .i64 a0_0, .int .i64 a0_1]] w fun e w' => e = .returned (.bool r) ∧ Below w.heap.size w w' := by
 unfold zelligeref06_Can.f at h
 by_cases hb : I64 a0_0 ∧ I64 a0_1
 ·rw [if_pos hb] at h
  obtain rfl := Option.some.inj h
  by_cases h1 : InC a0_0
  ·refine can_yes a0_0 a0_1 (wf_of hb.1) (Sm.i64 hb.1) (wf_of hb.2) (Sm.i64 hb.2) ⟨decide_eq_true h1⟩ _ ⟨?_⟩ w
   rw [decide_eq_decide]
   exact ⟨fun h => ⟨h1, h⟩, fun h => h.2⟩
  ·rw [show decide (InC a0_0 ∧ InC a0_1) = false from decide_eq_false (fun h => h1 h.1)]
   exact can_no a0_0 a0_1 (wf_of hb.1) (Sm.i64 hb.1) ⟨decide_eq_false h1⟩ w
 ·rw [if_neg hb] at h
  cases h
end Go.Proofs.Ytlkngfidohiepaa.F
end
section
namespace Go.Proofs.Ytlkngfidohiepaa.F
open RowKit YtlkngfidohiepaaW.PrintWords YtlkngfidohiepaaW.PrintLast YtlkngfidohiepaaW.PrintMore
set_option linter.unusedVariables false
set_option linter.unusedSimpArgs false
def zelligeref08_Can.f (a0_0 : Int) (a0_1 : Int) (a1_0 : Int) (a1_1 : Int) (a2_0 : Int) (a2_1 : Int) (a3_0 : Int) (a3_1 : Int) : Option (Bool) := (zelligeref06_Can.f a0_0 a0_1).bind fun t399 => (if t399 = true then ((zelligeref06_Can.f a1_0 a1_1).bind fun t400 => (if t400 = true then ((zelligeref06_Can.f a2_0 a2_1).bind fun t401 => (if t401 = true then ((zelligeref06_Can.f a3_0 a3_1).bind fun t402 => (some t402)) else (some false))) else (some false))) else (some false))
set_option maxHeartbeats 8000000 in
set_option maxRecDepth 100000 in
theorem zelligeref08_Can.calls (a0_0 : Int) (a0_1 : Int) (a1_0 : Int) (a1_1 : Int) (a2_0 : Int) (a2_1 : Int) (a3_0 : Int) (a3_1 : Int) (r : Bool) (w : World) (h : zelligeref08_Can.f a0_0 a0_1 a1_0 a1_1 a2_0 a2_1 a3_0 a3_1 = some r) :
  Calls Try.prog 11 #[.agg #[.int .i64 a0_0, .int .i64 a0_1], .agg #[.int .i64 a1_0, .int .i64 a1_1], .agg #[.int .i64 a2_0, .int .i64 a2_1], .agg #[.int .i64 a3_0, .int .i64 a3_1]] w fun e w' => e = .returned (.bool r) ∧ Below w.heap.size w w' := by
 have hu23 := Try.underlying23
 have HB := Aside0.mk (Below.refl w.heap.size w)
 have H : ((zelligeref06_Can.f a0_0 a0_1).bind fun t399 => (if t399 = true then ((zelligeref06_Can.f a1_0 a1_1).bind fun t400 => (if t400 = true then ((zelligeref06_Can.f a2_0 a2_1).bind fun t401 => (if t401 = true then ((zelligeref06_Can.f a3_0 a3_1).bind fun t402 => (some t402)) else (some false))) else (some false))) else (some false))) = some r := h
 clear h
 replace H := Option.bind_eq_some_iff.mp H
 obtain ⟨t399, A50, H⟩ := H
 try dsimp only at H
 have A5 := Aside0.mk A50
 clear A50
 by_cases c6 : t399 = true
 ·subst c6
  rw [if_pos rfl] at H
  replace H := Option.bind_eq_some_iff.mp H
  obtain ⟨t400, A70, H⟩ := H
  try dsimp only at H
  have A7 := Aside0.mk A70
  clear A70
  by_cases c8 : t400 = true
  ·subst c8
   rw [if_pos rfl] at H
   replace H := Option.bind_eq_some_iff.mp H
   obtain ⟨t401, A90, H⟩ := H
   try dsimp only at H
   have A9 := Aside0.mk A90
   clear A90
   by_cases c10 : t401 = true
   ·subst c10
    rw [if_pos rfl] at H
    replace H := Option.bind_eq_some_iff.mp H
    obtain ⟨t402, A110, H⟩ := H
    try dsimp only at H
    have A11 := Aside0.mk A110
    clear A110
    obtain rfl := Option.some.inj H
    go_enter Try.func11, Try.ntmps11
    go_wp2_with (first | ((with_reducible refine gate_dst (N := 4) rfl ?_); refine bx 4 #[.int .i64 a0_0, .int .i64 a0_1] 23 ?_; intro gb395 hg w12 hbox hb; have BK395 := Aside0.mk hbox; have GW395 := u3 hg HB; have GE395 := u3 hg HB; replace HB := u2 HB hb; clear hb hbox hg) | ((with_reducible refine gate_dst (N := 5) rfl ?_); refine bx 5 #[.int .i64 a1_0, .int .i64 a1_1] 23 ?_; intro gb396 hg w13 hbox hb; have BK396 := Aside0.mk hbox; have GW396 := u3 hg HB; have GE396 := u3 hg HB; have NB395_396 := u4 hg BK395; have NB396_395 := u5 hg BK395; replace BK395 := u1 BK395 hb; replace HB := u2 HB hb; clear hb hbox hg) | ((with_reducible refine gate_dst (N := 6) rfl ?_); refine bx 6 #[.int .i64 a2_0, .int .i64 a2_1] 23 ?_; intro gb397 hg w14 hbox hb; have BK397 := Aside0.mk hbox; have GW397 := u3 hg HB; have GE397 := u3 hg HB; have NB395_397 := u4 hg BK395; have NB397_395 := u5 hg BK395; have NB396_397 := u4 hg BK396; have NB397_396 := u5 hg BK396; replace BK395 := u1 BK395 hb; replace BK396 := u1 BK396 hb; replace HB := u2 HB hb; clear hb hbox hg) | ((with_reducible refine gate_dst (N := 7) rfl ?_); refine bx 7 #[.int .i64 a3_0, .int .i64 a3_1] 23 ?_; intro gb398 hg w15 hbox hb; have BK398 := Aside0.mk hbox; have GW398 := u3 hg HB; have GE398 := u3 hg HB; have NB395_398 := u4 hg BK395; have NB398_395 := u5 hg BK395; have NB396_398 := u4 hg BK396; have NB398_396 := u5 hg BK396; have NB397_398 := u4 hg BK397; have NB398_397 := u5 hg BK397; replace BK395 := u1 BK395 hb; replace BK396 := u1 BK396 hb; replace BK397 := u1 BK397 hb; replace HB := u2 HB hb; clear hb hbox hg; have hnb16 := NB395_396.out; have hnc16 := NB396_395.out; have hnb17 := NB395_397.out; have hnc17 := NB397_395.out; have hnb18 := NB395_398.out; have hnc18 := NB398_395.out; obtain ⟨_, _, _, _⟩ := p2 BK395) | ((with_reducible refine gate_callee (f := 13) rfl ?_); refine gL (some 10) Try.func13 #[.agg #[.int .i64 a0_0, .int .i64 a0_1]] rfl ?_; (with_reducible refine (zelligeref06_Can.calls a0_0 a0_1 true _ A5.out).mono ?_); rintro e w20 ⟨rfl, hb⟩; refine ⟨_, rfl, ?_⟩; replace BK395 := u1 BK395 hb; replace BK396 := u1 BK396 hb; replace BK397 := u1 BK397 hb; replace BK398 := u1 BK398 hb; replace HB := u2 HB hb; clear hb; have hnb21 := NB396_397.out; have hnc21 := NB397_396.out; have hnb22 := NB396_398.out; have hnc22 := NB398_396.out; obtain ⟨_, _, _, _⟩ := p2 BK396) | (go_at_call 13; (with_reducible refine (zelligeref06_Can.calls a1_0 a1_1 true _ A7.out).mono ?_); rintro e w24 ⟨rfl, hb⟩; replace BK395 := u1 BK395 hb; replace BK396 := u1 BK396 hb; replace BK397 := u1 BK397 hb; replace BK398 := u1 BK398 hb; replace HB := u2 HB hb; clear hb; have hnb25 := NB397_398.out; have hnc25 := NB398_397.out; obtain ⟨_, _, _, _⟩ := p2 BK397) | (go_at_call 13; (with_reducible refine (zelligeref06_Can.calls a2_0 a2_1 true _ A9.out).mono ?_); rintro e w27 ⟨rfl, hb⟩; replace BK395 := u1 BK395 hb; replace BK396 := u1 BK396 hb; replace BK397 := u1 BK397 hb; replace BK398 := u1 BK398 hb; replace HB := u2 HB hb; clear hb; obtain ⟨_, _, _, _⟩ := p2 BK398) | (go_at_call 13; (with_reducible refine (zelligeref06_Can.calls a3_0 a3_1 t402 _ A11.out).mono ?_); rintro e w29 ⟨rfl, hb⟩; replace BK395 := u1 BK395 hb; replace BK396 := u1 BK396 hb; replace BK397 := u1 BK397 hb; replace BK398 := u1 BK398 hb; replace HB := u2 HB hb; clear hb))
    go_ret
    exact ⟨by first | rfl | (simp [*, errW_none, errW_some] <;> rfl), bw HB.out⟩
   ·replace c10 := Bool.eq_false_iff.mpr c10
    subst c10
    rw [if_neg (show ¬ (false = true) by decide)] at H
    obtain rfl := Option.some.inj H
    go_enter Try.func11, Try.ntmps11
    go_wp2_with (first | ((with_reducible refine gate_dst (N := 4) rfl ?_); refine bx 4 #[.int .i64 a0_0, .int .i64 a0_1] 23 ?_; intro gb395 hg w30 hbox hb; have BK395 := Aside0.mk hbox; have GW395 := u3 hg HB; have GE395 := u3 hg HB; replace HB := u2 HB hb; clear hb hbox hg) | ((with_reducible refine gate_dst (N := 5) rfl ?_); refine bx 5 #[.int .i64 a1_0, .int .i64 a1_1] 23 ?_; intro gb396 hg w31 hbox hb; have BK396 := Aside0.mk hbox; have GW396 := u3 hg HB; have GE396 := u3 hg HB; have NB395_396 := u4 hg BK395; have NB396_395 := u5 hg BK395; replace BK395 := u1 BK395 hb; replace HB := u2 HB hb; clear hb hbox hg) | ((with_reducible refine gate_dst (N := 6) rfl ?_); refine bx 6 #[.int .i64 a2_0, .int .i64 a2_1] 23 ?_; intro gb397 hg w32 hbox hb; have BK397 := Aside0.mk hbox; have GW397 := u3 hg HB; have GE397 := u3 hg HB; have NB395_397 := u4 hg BK395; have NB397_395 := u5 hg BK395; have NB396_397 := u4 hg BK396; have NB397_396 := u5 hg BK396; replace BK395 := u1 BK395 hb; replace BK396 := u1 BK396 hb; replace HB := u2 HB hb; clear hb hbox hg) | ((with_reducible refine gate_dst (N := 7) rfl ?_); refine bx 7 #[.int .i64 a3_0, .int .i64 a3_1] 23 ?_; intro gb398 hg w33 hbox hb; have BK398 := Aside0.mk hbox; have GW398 := u3 hg HB; have GE398 := u3 hg HB; have NB395_398 := u4 hg BK395; have NB398_395 := u5 hg BK395; have NB396_398 := u4 hg BK396; have NB398_396 := u5 hg BK396; have NB397_398 := u4 hg BK397; have NB398_397 := u5 hg BK397; replace BK395 := u1 BK395 hb; replace BK396 := u1 BK396 hb; replace BK397 := u1 BK397 hb; replace HB := u2 HB hb; clear hb hbox hg; have hnb34 := NB395_396.out; have hnc34 := NB396_395.out; have hnb35 := NB395_397.out; have hnc35 := NB397_395.out; have hnb36 := NB395_398.out; have hnc36 := NB398_395.out; obtain ⟨_, _, _, _⟩ := p2 BK395) | ((with_reducible refine gate_callee (f := 13) rfl ?_); refine gL (some 10) Try.func13 #[.agg #[.int .i64 a0_0, .int .i64 a0_1]] rfl ?_; (with_reducible refine (zelligeref06_Can.calls a0_0 a0_1 true _ A5.out).mono ?_); rintro e w38 ⟨rfl, hb⟩; refine ⟨_, rfl, ?_⟩; replace BK395 := u1 BK395 hb; replace BK396 := u1 BK396 hb; replace BK397 := u1 BK397 hb; replace BK398 := u1 BK398 hb; replace HB := u2 HB hb; clear hb; have hnb39 := NB396_397.out; have hnc39 := NB397_396.out; have hnb40 := NB396_398.out; have hnc40 := NB398_396.out; obtain ⟨_, _, _, _⟩ := p2 BK396) | (go_at_call 13; (with_reducible refine (zelligeref06_Can.calls a1_0 a1_1 true _ A7.out).mono ?_); rintro e w42 ⟨rfl, hb⟩; replace BK395 := u1 BK395 hb; replace BK396 := u1 BK396 hb; replace BK397 := u1 BK397 hb; replace BK398 := u1 BK398 hb; replace HB := u2 HB hb; clear hb; have hnb43 := NB397_398.out; have hnc43 := NB398_397.out; obtain ⟨_, _, _, _⟩ := p2 BK397) | (go_at_call 13; (with_reducible refine (zelligeref06_Can.calls a2_0 a2_1 false _ A9.out).mono ?_); rintro e w45 ⟨rfl, hb⟩; replace BK395 := u1 BK395 hb; replace BK396 := u1 BK396 hb; replace BK397 := u1 BK397 hb; replace BK398 := u1 BK398 hb; replace HB := u2 HB hb; clear hb))
    go_ret
    exact ⟨by first | rfl | (simp [*, errW_none, errW_some] <;> rfl), bw HB.out⟩
  ·replace c8 := Bool.eq_false_iff.mpr c8
   subst c8
   rw [if_neg (show ¬ (false = true) by decide)] at H
   obtain rfl := Option.some.inj H
   go_enter Try.func11, Try.ntmps11
   go_wp2_with (first | ((with_reducible refine gate_dst (N := 4) rfl ?_); refine bx 4 #[.int .i64 a0_0, .int .i64 a0_1] 23 ?_; intro gb395 hg w46 hbox hb; have BK395 := Aside0.mk hbox; have GW395 := u3 hg HB; have GE395 := u3 hg HB; replace HB := u2 HB hb; clear hb hbox hg) | ((with_reducible refine gate_dst (N := 5) rfl ?_); refine bx 5 #[.int .i64 a1_0, .int .i64 a1_1] 23 ?_; intro gb396 hg w47 hbox hb; have BK396 := Aside0.mk hbox; have GW396 := u3 hg HB; have GE396 := u3 hg HB; have NB395_396 := u4 hg BK395; have NB396_395 := u5 hg BK395; replace BK395 := u1 BK395 hb; replace HB := u2 HB hb; clear hb hbox hg) | ((with_reducible refine gate_dst (N := 6) rfl ?_); refine bx 6 #[.int .i64 a2_0, .int .i64 a2_1] 23 ?_; intro gb397 hg w48 hbox hb; have BK397 := Aside0.mk hbox; have GW397 := u3 hg HB; have GE397 := u3 hg HB; have NB395_397 := u4 hg BK395; have NB397_395 := u5 hg BK395; have NB396_397 := u4 hg BK396; have NB397_396 := u5 hg BK396; replace BK395 := u1 BK395 hb; replace BK396 := u1 BK396 hb; replace HB := u2 HB hb; clear hb hbox hg) | ((with_reducible refine gate_dst (N := 7) rfl ?_); refine bx 7 #[.int .i64 a3_0, .int .i64 a3_1] 23 ?_; intro gb398 hg w49 hbox hb; have BK398 := Aside0.mk hbox; have GW398 := u3 hg HB; have GE398 := u3 hg HB; have NB395_398 := u4 hg BK395; have NB398_395 := u5 hg BK395; have NB396_398 := u4 hg BK396; have NB398_396 := u5 hg BK396; have NB397_398 := u4 hg BK397; have NB398_397 := u5 hg BK397; replace BK395 := u1 BK395 hb; replace BK396 := u1 BK396 hb; replace BK397 := u1 BK397 hb; replace HB := u2 HB hb; clear hb hbox hg; have hnb50 := NB395_396.out; have hnc50 := NB396_395.out; have hnb51 := NB395_397.out; have hnc51 := NB397_395.out; have hnb52 := NB395_398.out; have hnc52 := NB398_395.out; obtain ⟨_, _, _, _⟩ := p2 BK395) | ((with_reducible refine gate_callee (f := 13) rfl ?_); refine gL (some 10) Try.func13 #[.agg #[.int .i64 a0_0, .int .i64 a0_1]] rfl ?_; (with_reducible refine (zelligeref06_Can.calls a0_0 a0_1 true _ A5.out).mono ?_); rintro e w54 ⟨rfl, hb⟩; refine ⟨_, rfl, ?_⟩; replace BK395 := u1 BK395 hb; replace BK396 := u1 BK396 hb; replace BK397 := u1 BK397 hb; replace BK398 := u1 BK398 hb; replace HB := u2 HB hb; clear hb; have hnb55 := NB396_397.out; have hnc55 := NB397_396.out; have hnb56 := NB396_398.out; have hnc56 := NB398_396.out; obtain ⟨_, _, _, _⟩ := p2 BK396) | (go_at_call 13; (with_reducible refine (zelligeref06_Can.calls a1_0 a1_1 false _ A7.out).mono ?_); rintro e w58 ⟨rfl, hb⟩; replace BK395 := u1 BK395 hb; replace BK396 := u1 BK396 hb; replace BK397 := u1 BK397 hb; replace BK398 := u1 BK398 hb; replace HB := u2 HB hb; clear hb))
   go_ret
   exact ⟨by first | rfl | (simp [*, errW_none, errW_some] <;> rfl), bw HB.out⟩
 ·replace c6 := Bool.eq_false_iff.mpr c6
  subst c6
  rw [if_neg (show ¬ (false = true) by decide)] at H
  obtain rfl := Option.some.inj H
  go_enter Try.func11, Try.ntmps11
  go_wp2_with (first | ((with_reducible refine gate_dst (N := 4) rfl ?_); refine bx 4 #[.int .i64 a0_0, .int .i64 a0_1] 23 ?_; intro gb395 hg w59 hbox hb; have BK395 := Aside0.mk hbox; have GW395 := u3 hg HB; have GE395 := u3 hg HB; replace HB := u2 HB hb; clear hb hbox hg) | ((with_reducible refine gate_dst (N := 5) rfl ?_); refine bx 5 #[.int .i64 a1_0, .int .i64 a1_1] 23 ?_; intro gb396 hg w60 hbox hb; have BK396 := Aside0.mk hbox; have GW396 := u3 hg HB; have GE396 := u3 hg HB; have NB395_396 := u4 hg BK395; have NB396_395 := u5 hg BK395; replace BK395 := u1 BK395 hb; replace HB := u2 HB hb; clear hb hbox hg) | ((with_reducible refine gate_dst (N := 6) rfl ?_); refine bx 6 #[.int .i64 a2_0, .int .i64 a2_1] 23 ?_; intro gb397 hg w61 hbox hb; have BK397 := Aside0.mk hbox; have GW397 := u3 hg HB; have GE397 := u3 hg HB; have NB395_397 := u4 hg BK395; have NB397_395 := u5 hg BK395; have NB396_397 := u4 hg BK396; have NB397_396 := u5 hg BK396; replace BK395 := u1 BK395 hb; replace BK396 := u1 BK396 hb; replace HB := u2 HB hb; clear hb hbox hg) | ((with_reducible refine gate_dst (N := 7) rfl ?_); refine bx 7 #[.int .i64 a3_0, .int .i64 a3_1] 23 ?_; intro gb398 hg w62 hbox hb; have BK398 := Aside0.mk hbox; have GW398 := u3 hg HB; have GE398 := u3 hg HB; have NB395_398 := u4 hg BK395; have NB398_395 := u5 hg BK395; have NB396_398 := u4 hg BK396; have NB398_396 := u5 hg BK396; have NB397_398 := u4 hg BK397; have NB398_397 := u5 hg BK397; replace BK395 := u1 BK395 hb; replace BK396 := u1 BK396 hb; replace BK397 := u1 BK397 hb; replace HB := u2 HB hb; clear hb hbox hg; have hnb63 := NB395_396.out; have hnc63 := NB396_395.out; have hnb64 := NB395_397.out; have hnc64 := NB397_395.out; have hnb65 := NB395_398.out; have hnc65 := NB398_395.out; obtain ⟨_, _, _, _⟩ := p2 BK395) | ((with_reducible refine gate_callee (f := 13) rfl ?_); refine gL (some 10) Try.func13 #[.agg #[.int .i64 a0_0, .int .i64 a0_1]] rfl ?_; (with_reducible refine (zelligeref06_Can.calls a0_0 a0_1 false _ A5.out).mono ?_); rintro e w67 ⟨rfl, hb⟩; refine ⟨_, rfl, ?_⟩; replace BK395 := u1 BK395 hb; replace BK396 := u1 BK396 hb; replace BK397 := u1 BK397 hb; replace BK398 := u1 BK398 hb; replace HB := u2 HB hb; clear hb))
  go_ret
  exact ⟨by first | rfl | (simp [*, errW_none, errW_some] <;> rfl), bw HB.out⟩
end Go.Proofs.Ytlkngfidohiepaa.F
end
section
namespace Go.Proofs.Ytlkngfidohiepaa.F
open RowKit YtlkngfidohiepaaW.PrintWords YtlkngfidohiepaaW.PrintLast YtlkngfidohiepaaW.PrintMore
set_option linter.unusedVariables false
set_option linter.unusedSimpArgs false
attribute [local go_sem high] eqA23
def zelligeref06_Cmp.j0 : Nat → Bool → Int → Int → Int → Int → Option (Int)
 | 0, _, _, _, _, _ => none
 | k + 1, x23, x502000, x502001, x503000, x503001 => if x23 = true then (some (-1)) else (if (x502000 == x503000 && (x502001 == x503001)) = true then (some 0) else (some 1))
def zelligeref06_Cmp.f (k : Nat) (a0_0 : Int) (a0_1 : Int) (a1_0 : Int) (a1_1 : Int) : Option (Int) := if a0_0 < a1_0 then (zelligeref06_Cmp.j0 k true a0_0 a0_1 a1_0 a1_1) else (if a0_0 = a1_0 then (zelligeref06_Cmp.j0 k (decide (a0_1 < a1_1)) a0_0 a0_1 a1_0 a1_1) else (zelligeref06_Cmp.j0 k false a0_0 a0_1 a1_0 a1_1))
theorem zelligeref06_Cmp.mono_l : ∀ k, (∀ y0 y1 y2 y3 y4, LeO (zelligeref06_Cmp.j0 k y0 y1 y2 y3 y4) (zelligeref06_Cmp.j0 (k + 1) y0 y1 y2 y3 y4))
 | 0 => fun _ _ _ _ _ r h => by simp [zelligeref06_Cmp.j0] at h
 | k + 1 => by
  have ih0 := zelligeref06_Cmp.mono_l k
  ·intro y0 y1 y2 y3 y4
   unfold zelligeref06_Cmp.j0
   repeat' first
   | (with_reducible exact ih0 _ _ _ _ _)
   | (with_reducible exact LeO.refl _)
   | (with_reducible exact LeO.none _)
   | (with_reducible refine LeO.ite ?_ ?_)
   | (with_reducible refine LeO.bind ?_ (fun _ => ?_))
   | exact ih0 _ _ _ _ _
   | exact LeO.none _
   | refine LeO.ite ?_ ?_
   | refine LeO.bind ?_ (fun _ => ?_)
theorem zelligeref06_Cmp.mono : ∀ a0 a1 a2 a3 k, LeO (zelligeref06_Cmp.f k a0 a1 a2 a3) (zelligeref06_Cmp.f (k + 1) a0 a1 a2 a3) := by
 intro a0 a1 a2 a3 k
 have ih0 := zelligeref06_Cmp.mono_l k
 unfold zelligeref06_Cmp.f
 repeat' first
   | (with_reducible exact ih0 _ _ _ _ _)
   | (with_reducible exact LeO.refl _)
   | (with_reducible exact LeO.none _)
   | (with_reducible refine LeO.ite ?_ ?_)
   | (with_reducible refine LeO.bind ?_ (fun _ => ?_))
   | exact ih0 _ _ _ _ _
   | exact LeO.none _
   | refine LeO.ite ?_ ?_
   | refine LeO.bind ?_ (fun _ => ?_)
set_option maxHeartbeats 8000000 in
set_option maxRecDepth 100000 in
theorem zelligeref06_Cmp.calls (k : Nat) (a0_0 : Int) (a0_1 : Int) (a1_0 : Int) (a1_1 : Int) (r : Int) (w : World) (h : zelligeref06_Cmp.f k a0_0 a0_1 a1_0 a1_1 = some r) :
  Calls Try.prog 36 #[.agg #[.int .i64 a0_0, .int .i64 a0_1], .agg #[.int .i64 a1_0, .int .i64 a1_1]] w fun e w' => e = .returned (.int .i64 r) ∧ Below w.heap.size w w' := by
 have hu23 := Try.underlying23
 have HB := Aside0.mk (Below.refl w.heap.size w)
 have H : (if a0_0 < a1_0 then (zelligeref06_Cmp.j0 k true a0_0 a0_1 a1_0 a1_1) else (if a0_0 = a1_0 then (zelligeref06_Cmp.j0 k (decide (a0_1 < a1_1)) a0_0 a0_1 a1_0 a1_1) else (zelligeref06_Cmp.j0 k false a0_0 a0_1 a1_0 a1_1))) = some r := h
 clear h
 have HC3 := Aside0.mk H
 clear H
 go_enter Try.func36, Try.ntmps36
 go_upto_region 1 with (first | ((with_reducible refine gate_dst (N := 2) rfl ?_); refine bx 2 #[.int .i64 a0_0, .int .i64 a0_1] 23 ?_; intro gb501 hg w4 hbox hb; have BK501 := Aside0.mk hbox; have GW501 := u3 hg HB; have GE501 := u3 hg HB; replace HB := u2 HB hb; clear hb hbox hg) | ((with_reducible refine gate_dst (N := 3) rfl ?_); refine bx 3 #[.int .i64 a1_0, .int .i64 a1_1] 23 ?_; intro gb502 hg w5 hbox hb; have BK502 := Aside0.mk hbox; have GW502 := u3 hg HB; have GE502 := u3 hg HB; have NB501_502 := u4 hg BK501; have NB502_501 := u5 hg BK501; replace BK501 := u1 BK501 hb; replace HB := u2 HB hb; clear hb hbox hg))
 (try simp only [Act.put, List.setIfInBounds_toArray, List.set_cons_zero, List.set_cons_succ])
 go_cut [23] (fun v23 wc => ∃ (kq : Nat) (x23_2 : Bool), v23 = .bool x23_2 ∧ Aside0 (zelligeref06_Cmp.j0 kq x23_2 a0_0 a0_1 a1_0 a1_1 = some r) ∧ Aside0 (kq ≤ k) ∧ Aside0 (wc.heap[gb501]? = some (.cells #[.int .i64 a0_0, .int .i64 a0_1] 23 (0, 0))) ∧ Aside0 (wc.heap[gb502]? = some (.cells #[.int .i64 a1_0, .int .i64 a1_1] 23 (0, 0))) ∧ Aside0 (Below w.heap.size w wc))
 case first =>
  have H := HC3.out
  clear HC3
  by_cases c6 : a0_0 < a1_0
  ·rw [if_pos c6] at H
   have c6b0 : decide (a0_0 < a1_0) = true := decide_eq_true c6
   clear c6
   (first | rw [c6b0] | (simp only [i64_w, i32_w]; rw [c6b0]) | skip)
   have H' := Aside0.mk H
   clear H
   have hnb7 := NB501_502.out
   have hnc7 := NB502_501.out
   obtain ⟨hcz8_0, hcz8_1, hfz8_0, hfz8_1⟩ := p2 BK501
   obtain ⟨hcz9_0, hcz9_1, hfz9_0, hfz9_1⟩ := p2 BK502
   go_wp2
   go_meet
   case rel => exact ⟨_, (true), (by first | rfl | (simp; done) | (simp [*]; done)), H', ⟨by first | omega | exact Nat.le_refl _⟩, ⟨bk BK501.out⟩, ⟨bk BK502.out⟩, ⟨bw HB.out⟩⟩
  ·rw [if_neg c6] at H
   have c6b0 : decide (a0_0 < a1_0) = false := decide_eq_false c6
   clear c6
   (first | rw [c6b0] | (simp only [i64_w, i32_w]; rw [c6b0]) | skip)
   by_cases c10 : a0_0 = a1_0
   ·rw [if_pos c10] at H
    have c10b0 : (a0_0 == a1_0) = true := beq_iff_eq.mpr c10
    have c10b1 : (a0_0 != a1_0) = false := bne_eq_false_iff_eq.mpr c10
    clear c10
    have H' := Aside0.mk H
    clear H
    have hnb11 := NB501_502.out
    have hnc11 := NB502_501.out
    obtain ⟨hcz12_0, hcz12_1, hfz12_0, hfz12_1⟩ := p2 BK501
    obtain ⟨hcz13_0, hcz13_1, hfz13_0, hfz13_1⟩ := p2 BK502
    go_wp2
    go_meet
    case rel => exact ⟨_, (decide (a0_1 < a1_1)), (by first | rfl | (simp; done) | (simp [*]; done)), H', ⟨by first | omega | exact Nat.le_refl _⟩, ⟨bk BK501.out⟩, ⟨bk BK502.out⟩, ⟨bw HB.out⟩⟩
   ·rw [if_neg c10] at H
    have c10b0 : (a0_0 == a1_0) = false := beq_eq_false_iff_ne.mpr c10
    have c10b1 : (a0_0 != a1_0) = true := bne_iff_ne.mpr c10
    have H' := Aside0.mk H
    clear H
    have hnb14 := NB501_502.out
    have hnc14 := NB502_501.out
    obtain ⟨hcz15_0, hcz15_1, hfz15_0, hfz15_1⟩ := p2 BK501
    obtain ⟨hcz16_0, hcz16_1, hfz16_0, hfz16_1⟩ := p2 BK502
    go_wp2
    go_meet
    case rel => exact ⟨_, (false), (by first | rfl | (simp; done) | (simp [*]; done)), H', ⟨by first | omega | exact Nat.le_refl _⟩, ⟨bk BK501.out⟩, ⟨bk BK502.out⟩, ⟨bw HB.out⟩⟩
 case rest =>
  clear HC3
  try clear c1
  try clear p2
  try clear c3
  try clear c6
  try clear c6b0
  try clear c7
  try clear c10
  try clear c10b0
  try clear c10b1
  try clear c11
  try clear c14
  try clear hcz12_0
  try clear hcz12_1
  try clear hcz13_0
  try clear hcz13_1
  try clear hcz15_0
  try clear hcz15_1
  try clear hcz16_0
  try clear hcz16_1
  try clear hcz8_0
  try clear hcz8_1
  try clear hcz9_0
  try clear hcz9_1
  try clear hfz12_0
  try clear hfz12_1
  try clear hfz13_0
  try clear hfz13_1
  try clear hfz15_0
  try clear hfz15_1
  try clear hfz16_0
  try clear hfz16_1
  try clear hfz8_0
  try clear hfz8_1
  try clear hfz9_0
  try clear hfz9_1
  obtain ⟨kq, x23_2, rfl, HA, HJ2, BK501, BK502, HB⟩ := hcut
  cases kq with
  | zero => exact absurd HA.out (by simp [zelligeref06_Cmp.j0])
  | succ kj2 =>
   have H := HA.out
   clear HA
   simp only [zelligeref06_Cmp.j0] at H
   by_cases c17 : x23_2 = true
   ·subst c17
    rw [if_pos rfl] at H
    obtain rfl := Option.some.inj H
    go_wp2
    go_ret
    exact ⟨by first | rfl | (simp [*, errW_none, errW_some] <;> rfl), bw HB.out⟩
   ·replace c17 := Bool.eq_false_iff.mpr c17
    subst c17
    rw [if_neg (show ¬ (false = true) by decide)] at H
    by_cases c18 : (a0_0 == a1_0 && (a0_1 == a1_1)) = true
    ·rw [if_pos c18] at H
     have c18b0 : (a0_0 == a1_0 && (a0_1 == a1_1)) = true := c18
     (try (have c18b1 : decide (a0_0 = a1_0 && (a0_1 == a1_1)) = true := by simpa using c18))
     (try (have c18b2 : (a0_0 == a1_0 && (a0_1 == a1_1)) = true := by simpa using c18))
     clear c18
     obtain rfl := Option.some.inj H
     have hnb19 := NB501_502.out
     have hnc19 := NB502_501.out
     obtain ⟨_, _, _, _⟩ := p2 BK501
     obtain ⟨_, _, _, _⟩ := p2 BK502
     go_wp2
     go_ret
     exact ⟨by first | rfl | (simp [*, errW_none, errW_some] <;> rfl), bw HB.out⟩
    ·rw [if_neg c18] at H
     have c18b0 : (a0_0 == a1_0 && (a0_1 == a1_1)) = false := by simpa using c18
     (try (have c18b1 : decide (a0_0 = a1_0 && (a0_1 == a1_1)) = false := by simpa using c18))
     (try (have c18b2 : (a0_0 == a1_0 && (a0_1 == a1_1)) = false := by simpa using c18))
     (try (have c18b3 : ¬ (a0_0 = a1_0 && (a0_1 == a1_1)) := by simpa using c18))
     clear c18
     obtain rfl := Option.some.inj H
     have hnb22 := NB501_502.out
     have hnc22 := NB502_501.out
     obtain ⟨_, _, _, _⟩ := p2 BK501
     obtain ⟨_, _, _, _⟩ := p2 BK502
     go_wp2
     go_ret
     exact ⟨by first | rfl | (simp [*, errW_none, errW_some] <;> rfl), bw HB.out⟩
end Go.Proofs.Ytlkngfidohiepaa.F
end
section
namespace Go.Proofs.Ytlkngfidohiepaa.F
open RowKit YtlkngfidohiepaaW.PrintWords YtlkngfidohiepaaW.PrintLast YtlkngfidohiepaaW.PrintMore
set_option linter.unusedVariables false
set_option linter.unusedSimpArgs false
def zelligeref08_last.f (k : Nat) (a0_0 : Int) (a0_1 : Int) (a1_0 : Int) (a1_1 : Int) (a2_0 : Int) (a2_1 : Int) (a3_0 : Int) (a3_1 : Int) : Option (Bool) := (zelligeref06_Cmp.f k a0_0 a0_1 a1_0 a1_1).bind fun t507 => (if t507 > 0 then ((zelligeref06_Cmp.f k a0_0 a0_1 a2_0 a2_1).bind fun t508 => (if t508 > 0 then ((zelligeref06_Cmp.f k a0_0 a0_1 a3_0 a3_1).bind fun t509 => (some (decide (t509 > 0)))) else (some false))) else (some false))
theorem zelligeref08_last.mono : ∀ a0 a1 a2 a3 a4 a5 a6 a7 k, LeO (zelligeref08_last.f k a0 a1 a2 a3 a4 a5 a6 a7) (zelligeref08_last.f (k + 1) a0 a1 a2 a3 a4 a5 a6 a7) := by
 intro a0 a1 a2 a3 a4 a5 a6 a7 k
 unfold zelligeref08_last.f
 repeat' first
   | (with_reducible exact zelligeref06_Cmp.mono _ _ _ _ _)
   | (with_reducible exact LeO.refl _)
   | (with_reducible exact LeO.none _)
   | (with_reducible refine LeO.ite ?_ ?_)
   | (with_reducible refine LeO.bind ?_ (fun _ => ?_))
   | exact zelligeref06_Cmp.mono _ _ _ _ _
   | exact LeO.none _
   | refine LeO.ite ?_ ?_
   | refine LeO.bind ?_ (fun _ => ?_)
set_option maxHeartbeats 8000000 in
set_option maxRecDepth 100000 in
theorem zelligeref08_last.calls (k : Nat) (a0_0 : Int) (a0_1 : Int) (a1_0 : Int) (a1_1 : Int) (a2_0 : Int) (a2_1 : Int) (a3_0 : Int) (a3_1 : Int) (r : Bool) (w : World) (h : zelligeref08_last.f k a0_0 a0_1 a1_0 a1_1 a2_0 a2_1 a3_0 a3_1 = some r) :
  Calls Try.prog 20 #[.agg #[.int .i64 a0_0, .int .i64 a0_1], .agg #[.int .i64 a1_0, .int .i64 a1_1], .agg #[.int .i64 a2_0, .int .i64 a2_1], .agg #[.int .i64 a3_0, .int .i64 a3_1]] w fun e w' => e = .returned (.bool r) ∧ Below w.heap.size w w' := by
 have hu23 := Try.underlying23
 have HB := Aside0.mk (Below.refl w.heap.size w)
 have H : ((zelligeref06_Cmp.f k a0_0 a0_1 a1_0 a1_1).bind fun t507 => (if t507 > 0 then ((zelligeref06_Cmp.f k a0_0 a0_1 a2_0 a2_1).bind fun t508 => (if t508 > 0 then ((zelligeref06_Cmp.f k a0_0 a0_1 a3_0 a3_1).bind fun t509 => (some (decide (t509 > 0)))) else (some false))) else (some false))) = some r := h
 clear h
 replace H := Option.bind_eq_some_iff.mp H
 obtain ⟨t507, A50, H⟩ := H
 try dsimp only at H
 have A5 := Aside0.mk A50
 clear A50
 by_cases c6 : t507 > 0
 ·rw [if_pos c6] at H
  have c6b0 : decide (0 < t507) = true := decide_eq_true c6
  clear c6
  replace H := Option.bind_eq_some_iff.mp H
  obtain ⟨t508, A70, H⟩ := H
  try dsimp only at H
  have A7 := Aside0.mk A70
  clear A70
  by_cases c8 : t508 > 0
  ·rw [if_pos c8] at H
   have c8b0 : decide (0 < t508) = true := decide_eq_true c8
   clear c8
   replace H := Option.bind_eq_some_iff.mp H
   obtain ⟨t509, A90, H⟩ := H
   try dsimp only at H
   have A9 := Aside0.mk A90
   clear A90
   obtain rfl := Option.some.inj H
   go_enter Try.func20, Try.ntmps20
   go_wp2_with (first | ((with_reducible refine gate_dst (N := 4) rfl ?_); refine bx 4 #[.int .i64 a0_0, .int .i64 a0_1] 23 ?_; intro gb503 hg w10 hbox hb; have BK503 := Aside0.mk hbox; have GW503 := u3 hg HB; have GE503 := u3 hg HB; replace HB := u2 HB hb; clear hb hbox hg) | ((with_reducible refine gate_dst (N := 5) rfl ?_); refine bx 5 #[.int .i64 a1_0, .int .i64 a1_1] 23 ?_; intro gb504 hg w11 hbox hb; have BK504 := Aside0.mk hbox; have GW504 := u3 hg HB; have GE504 := u3 hg HB; have NB503_504 := u4 hg BK503; have NB504_503 := u5 hg BK503; replace BK503 := u1 BK503 hb; replace HB := u2 HB hb; clear hb hbox hg) | ((with_reducible refine gate_dst (N := 6) rfl ?_); refine bx 6 #[.int .i64 a2_0, .int .i64 a2_1] 23 ?_; intro gb505 hg w12 hbox hb; have BK505 := Aside0.mk hbox; have GW505 := u3 hg HB; have GE505 := u3 hg HB; have NB503_505 := u4 hg BK503; have NB505_503 := u5 hg BK503; have NB504_505 := u4 hg BK504; have NB505_504 := u5 hg BK504; replace BK503 := u1 BK503 hb; replace BK504 := u1 BK504 hb; replace HB := u2 HB hb; clear hb hbox hg) | ((with_reducible refine gate_dst (N := 7) rfl ?_); refine bx 7 #[.int .i64 a3_0, .int .i64 a3_1] 23 ?_; intro gb506 hg w13 hbox hb; have BK506 := Aside0.mk hbox; have GW506 := u3 hg HB; have GE506 := u3 hg HB; have NB503_506 := u4 hg BK503; have NB506_503 := u5 hg BK503; have NB504_506 := u4 hg BK504; have NB506_504 := u5 hg BK504; have NB505_506 := u4 hg BK505; have NB506_505 := u5 hg BK505; replace BK503 := u1 BK503 hb; replace BK504 := u1 BK504 hb; replace BK505 := u1 BK505 hb; replace HB := u2 HB hb; clear hb hbox hg; have hnb14 := NB503_504.out; have hnc14 := NB504_503.out; have hnb15 := NB503_505.out; have hnc15 := NB505_503.out; have hnb16 := NB503_506.out; have hnc16 := NB506_503.out; obtain ⟨_, _, _, _⟩ := p2 BK503; have hnb18 := NB504_505.out; have hnc18 := NB505_504.out; have hnb19 := NB504_506.out; have hnc19 := NB506_504.out; obtain ⟨_, _, _, _⟩ := p2 BK504) | ((with_reducible refine gate_callee (f := 36) rfl ?_); refine gL (some 11) Try.func36 #[.agg #[.int .i64 a0_0, .int .i64 a0_1], .agg #[.int .i64 a1_0, .int .i64 a1_1]] rfl ?_; (with_reducible refine (zelligeref06_Cmp.calls k a0_0 a0_1 a1_0 a1_1 t507 _ A5.out).mono ?_); rintro e w21 ⟨rfl, hb⟩; refine ⟨_, rfl, ?_⟩; replace BK503 := u1 BK503 hb; replace BK504 := u1 BK504 hb; replace BK505 := u1 BK505 hb; replace BK506 := u1 BK506 hb; replace HB := u2 HB hb; clear hb; obtain ⟨_, _, _, _⟩ := p2 BK503; have hnb23 := NB505_506.out; have hnc23 := NB506_505.out; obtain ⟨_, _, _, _⟩ := p2 BK505) | (go_at_call 36; (with_reducible refine (zelligeref06_Cmp.calls k a0_0 a0_1 a2_0 a2_1 t508 _ A7.out).mono ?_); rintro e w25 ⟨rfl, hb⟩; replace BK503 := u1 BK503 hb; replace BK504 := u1 BK504 hb; replace BK505 := u1 BK505 hb; replace BK506 := u1 BK506 hb; replace HB := u2 HB hb; clear hb; obtain ⟨_, _, _, _⟩ := p2 BK503; obtain ⟨_, _, _, _⟩ := p2 BK506) | (go_at_call 36; (with_reducible refine (zelligeref06_Cmp.calls k a0_0 a0_1 a3_0 a3_1 t509 _ A9.out).mono ?_); rintro e w28 ⟨rfl, hb⟩; replace BK503 := u1 BK503 hb; replace BK504 := u1 BK504 hb; replace BK505 := u1 BK505 hb; replace BK506 := u1 BK506 hb; replace HB := u2 HB hb; clear hb))
   go_ret
   exact ⟨by first | rfl | (simp [*, errW_none, errW_some] <;> rfl), bw HB.out⟩
  ·rw [if_neg c8] at H
   have c8b0 : decide (0 < t508) = false := decide_eq_false c8
   clear c8
   obtain rfl := Option.some.inj H
   go_enter Try.func20, Try.ntmps20
   go_wp2_with (first | ((with_reducible refine gate_dst (N := 4) rfl ?_); refine bx 4 #[.int .i64 a0_0, .int .i64 a0_1] 23 ?_; intro gb503 hg w29 hbox hb; have BK503 := Aside0.mk hbox; have GW503 := u3 hg HB; have GE503 := u3 hg HB; replace HB := u2 HB hb; clear hb hbox hg) | ((with_reducible refine gate_dst (N := 5) rfl ?_); refine bx 5 #[.int .i64 a1_0, .int .i64 a1_1] 23 ?_; intro gb504 hg w30 hbox hb; have BK504 := Aside0.mk hbox; have GW504 := u3 hg HB; have GE504 := u3 hg HB; have NB503_504 := u4 hg BK503; have NB504_503 := u5 hg BK503; replace BK503 := u1 BK503 hb; replace HB := u2 HB hb; clear hb hbox hg) | ((with_reducible refine gate_dst (N := 6) rfl ?_); refine bx 6 #[.int .i64 a2_0, .int .i64 a2_1] 23 ?_; intro gb505 hg w31 hbox hb; have BK505 := Aside0.mk hbox; have GW505 := u3 hg HB; have GE505 := u3 hg HB; have NB503_505 := u4 hg BK503; have NB505_503 := u5 hg BK503; have NB504_505 := u4 hg BK504; have NB505_504 := u5 hg BK504; replace BK503 := u1 BK503 hb; replace BK504 := u1 BK504 hb; replace HB := u2 HB hb; clear hb hbox hg) | ((with_reducible refine gate_dst (N := 7) rfl ?_); refine bx 7 #[.int .i64 a3_0, .int .i64 a3_1] 23 ?_; intro gb506 hg w32 hbox hb; have BK506 := Aside0.mk hbox; have GW506 := u3 hg HB; have GE506 := u3 hg HB; have NB503_506 := u4 hg BK503; have NB506_503 := u5 hg BK503; have NB504_506 := u4 hg BK504; have NB506_504 := u5 hg BK504; have NB505_506 := u4 hg BK505; have NB506_505 := u5 hg BK505; replace BK503 := u1 BK503 hb; replace BK504 := u1 BK504 hb; replace BK505 := u1 BK505 hb; replace HB := u2 HB hb; clear hb hbox hg; have hnb33 := NB503_504.out; have hnc33 := NB504_503.out; have hnb34 := NB503_505.out; have hnc34 := NB505_503.out; have hnb35 := NB503_506.out; have hnc35 := NB506_503.out; obtain ⟨_, _, _, _⟩ := p2 BK503; have hnb37 := NB504_505.out; have hnc37 := NB505_504.out; have hnb38 := NB504_506.out; have hnc38 := NB506_504.out; obtain ⟨_, _, _, _⟩ := p2 BK504) | ((with_reducible refine gate_callee (f := 36) rfl ?_); refine gL (some 11) Try.func36 #[.agg #[.int .i64 a0_0, .int .i64 a0_1], .agg #[.int .i64 a1_0, .int .i64 a1_1]] rfl ?_; (with_reducible refine (zelligeref06_Cmp.calls k a0_0 a0_1 a1_0 a1_1 t507 _ A5.out).mono ?_); rintro e w40 ⟨rfl, hb⟩; refine ⟨_, rfl, ?_⟩; replace BK503 := u1 BK503 hb; replace BK504 := u1 BK504 hb; replace BK505 := u1 BK505 hb; replace BK506 := u1 BK506 hb; replace HB := u2 HB hb; clear hb; obtain ⟨_, _, _, _⟩ := p2 BK503; have hnb42 := NB505_506.out; have hnc42 := NB506_505.out; obtain ⟨_, _, _, _⟩ := p2 BK505) | (go_at_call 36; (with_reducible refine (zelligeref06_Cmp.calls k a0_0 a0_1 a2_0 a2_1 t508 _ A7.out).mono ?_); rintro e w44 ⟨rfl, hb⟩; replace BK503 := u1 BK503 hb; replace BK504 := u1 BK504 hb; replace BK505 := u1 BK505 hb; replace BK506 := u1 BK506 hb; replace HB := u2 HB hb; clear hb))
   go_ret
   exact ⟨by first | rfl | (simp [*, errW_none, errW_some] <;> rfl), bw HB.out⟩
 ·rw [if_neg c6] at H
  have c6b0 : decide (0 < t507) = false := decide_eq_false c6
  clear c6
  obtain rfl := Option.some.inj H
  go_enter Try.func20, Try.ntmps20
  go_wp2_with (first | ((with_reducible refine gate_dst (N := 4) rfl ?_); refine bx 4 #[.int .i64 a0_0, .int .i64 a0_1] 23 ?_; intro gb503 hg w45 hbox hb; have BK503 := Aside0.mk hbox; have GW503 := u3 hg HB; have GE503 := u3 hg HB; replace HB := u2 HB hb; clear hb hbox hg) | ((with_reducible refine gate_dst (N := 5) rfl ?_); refine bx 5 #[.int .i64 a1_0, .int .i64 a1_1] 23 ?_; intro gb504 hg w46 hbox hb; have BK504 := Aside0.mk hbox; have GW504 := u3 hg HB; have GE504 := u3 hg HB; have NB503_504 := u4 hg BK503; have NB504_503 := u5 hg BK503; replace BK503 := u1 BK503 hb; replace HB := u2 HB hb; clear hb hbox hg) | ((with_reducible refine gate_dst (N := 6) rfl ?_); refine bx 6 #[.int .i64 a2_0, .int .i64 a2_1] 23 ?_; intro gb505 hg w47 hbox hb; have BK505 := Aside0.mk hbox; have GW505 := u3 hg HB; have GE505 := u3 hg HB; have NB503_505 := u4 hg BK503; have NB505_503 := u5 hg BK503; have NB504_505 := u4 hg BK504; have NB505_504 := u5 hg BK504; replace BK503 := u1 BK503 hb; replace BK504 := u1 BK504 hb; replace HB := u2 HB hb; clear hb hbox hg) | ((with_reducible refine gate_dst (N := 7) rfl ?_); refine bx 7 #[.int .i64 a3_0, .int .i64 a3_1] 23 ?_; intro gb506 hg w48 hbox hb; have BK506 := Aside0.mk hbox; have GW506 := u3 hg HB; have GE506 := u3 hg HB; have NB503_506 := u4 hg BK503; have NB506_503 := u5 hg BK503; have NB504_506 := u4 hg BK504; have NB506_504 := u5 hg BK504; have NB505_506 := u4 hg BK505; have NB506_505 := u5 hg BK505; replace BK503 := u1 BK503 hb; replace BK504 := u1 BK504 hb; replace BK505 := u1 BK505 hb; replace HB := u2 HB hb; clear hb hbox hg; have hnb49 := NB503_504.out; have hnc49 := NB504_503.out; have hnb50 := NB503_505.out; have hnc50 := NB505_503.out; have hnb51 := NB503_506.out; have hnc51 := NB506_503.out; obtain ⟨_, _, _, _⟩ := p2 BK503; have hnb53 := NB504_505.out; have hnc53 := NB505_504.out; have hnb54 := NB504_506.out; have hnc54 := NB506_504.out; obtain ⟨_, _, _, _⟩ := p2 BK504) | ((with_reducible refine gate_callee (f := 36) rfl ?_); refine gL (some 11) Try.func36 #[.agg #[.int .i64 a0_0, .int .i64 a0_1], .agg #[.int .i64 a1_0, .int .i64 a1_1]] rfl ?_; (with_reducible refine (zelligeref06_Cmp.calls k a0_0 a0_1 a1_0 a1_1 t507 _ A5.out).mono ?_); rintro e w56 ⟨rfl, hb⟩; refine ⟨_, rfl, ?_⟩; replace BK503 := u1 BK503 hb; replace BK504 := u1 BK504 hb; replace BK505 := u1 BK505 hb; replace BK506 := u1 BK506 hb; replace HB := u2 HB hb; clear hb))
  go_ret
  exact ⟨by first | rfl | (simp [*, errW_none, errW_some] <;> rfl), bw HB.out⟩
end Go.Proofs.Ytlkngfidohiepaa.F
end
section
namespace Go.Proofs.Ytlkngfidohiepaa.Reg
open Go RowKit YtlkngfidohiepaaW.PrintWords YtlkngfidohiepaaW.PrintLast Ytlkngfidohiepaa.Whole
set_option linter.unusedVariables false
def setm (ms : Nat → Value) (i : Nat) (v : Value) : Nat → Value := fun j => if j = i then v else ms j
theorem setm_self (ms : Nat → Value) (i : Nat) (v : Value) : setm ms i v i = v := if_pos rfl
theorem setm_ne {ms : Nat → Value} {i j : Nat} {v : Value} (h : j ≠ i) : setm ms i v j = ms j := if_neg h
def ent (spec : List (Nat × Tmp)) (ms : Nat → Value) : List (Nat × Tmp × Value) := spec.map fun e => (e.1, e.2, ms e.1)
def okAt (spec : List (Nat × Tmp)) (k i : Nat) (t : Tmp) : Bool := (spec[k]? == some (i, t)) && ((spec.take k ++ spec.drop (k + 1)).all fun e => !(e.1 == i) && !(e.2 == t))
theorem ent_get {spec : List (Nat × Tmp)} {ms : Nat → Value} {k i : Nat} {t : Tmp} (h : spec[k]? = some (i, t)) : (ent spec ms)[k]? = some (i, t, ms i) := by
 unfold ent; rw [List.getElem?_map, h]; rfl
theorem ent_all {spec : List (Nat × Tmp)} {ms : Nat → Value} {f : Nat → Tmp → Bool} (h : (spec.all fun e => f e.1 e.2) = true) : ((ent spec ms).all fun e => f e.1 e.2.1) = true := by
 unfold ent; rw [List.all_map]; exact h
theorem okAt_get {spec : List (Nat × Tmp)} {k i : Nat} {t : Tmp} (h : okAt spec k i t = true) : spec[k]? = some (i, t) := by
 unfold okAt at h; rw [Bool.and_eq_true] at h; exact eq_of_beq h.1
theorem okAt_rest {spec : List (Nat × Tmp)} {k i : Nat} {t : Tmp} (h : okAt spec k i t = true) : ((spec.take k ++ spec.drop (k + 1)).all fun e => !(e.1 == i) && !(e.2 == t)) = true := by
 unfold okAt at h; rw [Bool.and_eq_true] at h; exact h.2
theorem ent_cut (spec : List (Nat × Tmp)) (ms : Nat → Value) (k : Nat) : (ent spec ms).take k ++ (ent spec ms).drop (k + 1) = ent (spec.take k ++ spec.drop (k + 1)) ms := by
 unfold ent; rw [List.map_append, List.map_take, List.map_drop]
theorem ent_set {spec : List (Nat × Tmp)} {ms : Nat → Value} {k i : Nat} {t : Tmp} {v : Value} (h : okAt spec k i t = true) : (ent spec ms).set k (i, t, v) = ent spec (setm ms i v) := by
 have hk := (List.getElem?_eq_some_iff.1 (okAt_get h)).1
 have e1 : spec = spec.take k ++ (i, t) :: spec.drop (k + 1) := by
  have h2 : spec[k] = (i, t) := (List.getElem?_eq_some_iff.1 (okAt_get h)).2
  rw [← h2, ← List.drop_eq_getElem_cons hk, List.take_append_drop]
 have far (l : List (Nat × Tmp)) (hl : (l.all fun e => !(e.1 == i) && !(e.2 == t)) = true) : ent l (setm ms i v) = ent l ms := by
  unfold ent
  refine List.map_congr_left (fun e he => ?_)
  have := List.all_eq_true.1 hl e he
  rw [Bool.and_eq_true] at this
  have h3 : e.1 ≠ i := by simpa using this.1
  rw [setm_ne h3]
 have hr := okAt_rest h
 rw [List.all_append, Bool.and_eq_true] at hr
 have e2 : ent spec (setm ms i v) = ent (spec.take k) ms ++ (i, t, v) :: ent (spec.drop (k + 1)) ms := by
  rw [← far _ hr.1, ← far _ hr.2]
  conv => lhs; rw [e1]
  unfold ent
  rw [List.map_append, List.map_cons, setm_self]
 have e3 : ent spec ms = ent (spec.take k) ms ++ (i, t, ms i) :: ent (spec.drop (k + 1)) ms := by
  conv => lhs; rw [e1]
  unfold ent
  rw [List.map_append, List.map_cons]
 have e4 : (ent (spec.take k) ms).length = k := by unfold ent; rw [List.length_map, List.length_take]; omega
 rw [e2, e3, List.set_append_right _ _ (by omega), e4, Nat.sub_self, List.set_cons_zero]
inductive Fk where
 | const (v : Value) | ni (n : Int) | box | put (al c : Nat) | fin (E : (Nat → Value) → World → Prop)
def Fk.one (K0 : Nat) (w : World) (v : Value) : Fk → Prop
 | .const c => v = c
 | .ni n => NI w v n
 | .box => ∃ (g : Nat) (x y : Value), v = .pointer (some ⟨g, 0, none⟩) ∧ K0 ≤ g ∧ w.heap[g]? = some (.cells #[x, y] 42 (0, 0))
 | _ => False
def Fk.isBox : Fk → Bool
 | .box => true
 | _ => false
structure Cx where
 (O : List Nat) (spec : List (Nat × Tmp)) (ks : Nat → Fk) (K0 sh : Nat) (G : World → Prop) (H : World → Prop) (fi : Nat)
def Fk.holds (c : Cx) (b : Nat → Bool) (ms : Nat → Value) (w : World) (j : Nat) : Fk → Prop
 | .put al q => b al = true ∧ b q = true ∧ j = al + c.sh ∧ (c.ks al).isBox = true ∧ ∃ (g : Nat) (x y : Value), ms al = .pointer (some ⟨g, 0, none⟩) ∧ ms q = .agg #[x, y] ∧ w.heap[g]? = some (.cells #[x, y] 42 (0, 0))
 | .fin E => (∀ i ∈ c.O, i ≠ j → b i = true) ∧ E ms w
 | k => k.one c.K0 w (ms j)
def Rg (c : Cx) (a0 : Act) (b : Nat → Bool) (a : Act) (w : World) : Prop :=
 ∃ ms : Nat → Value, a = putSel a0 b (ent c.spec ms) ∧ (∀ j, b j = true → (c.ks j).holds c b ms w j) ∧ (∀ i j, i ≠ j → (c.ks i).isBox = true → (c.ks j).isBox = true → b i = true → b j = true → ms i ≠ ms j) ∧ c.G w ∧ (b c.fi = false → c.H w)
section
variable {c : Cx} {a0 a : Act} {b : Nat → Bool} {w w' : World} {ms : Nat → Value} {i j k : Nat} {t : Tmp} {v : Value}
theorem on_ (k : Nat) (ha : a = putSel a0 b (ent c.spec ms)) (h : okAt c.spec k i t = true) (hb : b i = true) (hs : Nat.ble (t + 1) a0.tmps.size = true) : a.tmps[t]? = some (ms i) := by
 rw [ha]
 have hr := okAt_rest h
 rw [List.all_append, Bool.and_eq_true] at hr
 refine putSel_on (e := (i, t, ms i)) k (ent_get (okAt_get h)) ?_ hb hs
 have : ((spec_ : List (Nat × Tmp)) → (spec_.all fun e => !(e.1 == i) && !(e.2 == t)) = true → ((ent spec_ ms).all fun x => !(x.2.1 == t)) = true) := by
  intro l hl
  refine ent_all (f := fun _ t' => !(t' == t)) ?_
  refine List.all_eq_true.2 (fun e he => ?_)
  have := List.all_eq_true.1 hl e he
  rw [Bool.and_eq_true] at this
  exact this.2
 have := this _ hr.2
 unfold ent at this ⊢
 rw [List.map_drop] at this
 exact this
theorem off_ (ha : a = putSel a0 b (ent c.spec ms)) (h : (c.spec.all fun e => !(e.2 == t)) = true) : a.tmps[t]? = a0.tmps[t]? := by
 rw [ha]
 exact putSel_off (ent_all (f := fun _ t' => !(t' == t)) h)
theorem step_ (k : Nat) (h : a = putSel a0 b (ent c.spec ms) ∧ (∀ j, b j = true → (c.ks j).holds c b ms w j) ∧ (∀ i j, i ≠ j → (c.ks i).isBox = true → (c.ks j).isBox = true → b i = true → b j = true → ms i ≠ ms j) ∧ c.G w ∧ (b c.fi = false → c.H w)) (hk : okAt c.spec k i t = true) (hi : c.O.contains i = true) (hb : b i = false) (hw : Below w.heap.size w w') (hG : c.G w')
  (hv : (c.ks i).one c.K0 w' v) (hx : (c.ks i).isBox = true → v = .pointer (some ⟨w.heap.size, 0, none⟩)) (hH : b c.fi = false → c.H w') (hfi : (c.fi == i) = false) : Rg c a0 (up b i) (a.put (some t) v) w' := by
 obtain ⟨ha, hF, hD, _⟩ := h
 have bne : ∀ j, b j = true → j ≠ i := fun j hj e => by rw [e, hb] at hj; cases hj
 have upb : ∀ j, b j = true → up b i j = true := fun j hj => by rw [up_ne (bne j hj)]; exact hj
 have one_mono : ∀ (f : Fk) (u : Value), f.one c.K0 w u → f.one c.K0 w' u := by
  intro f u hf
  cases f with
  | const _ => exact hf
  | ni _ => exact NI.below hf hw
  | box => obtain ⟨g, x, y, e, hg, hh⟩ := hf; exact ⟨g, x, y, e, hg, blk_below hh hw⟩
  | put _ _ => exact hf
  | fin _ => exact hf
 refine ⟨setm ms i v, ?_, ?_, ?_, hG, fun q => hH (by rw [up_ne (by simpa using hfi)] at q; exact q)⟩
 ·rw [ha, putSel_upk k hb (ent_get (okAt_get hk)) (ent_set hk)]
  rw [ent_cut]
  exact ent_all (f := fun i' t' => !(i' == i) && !(t' == t)) (okAt_rest hk)
 ·intro j hj
  by_cases e : j = i
  ·subst e
   have hv' : (c.ks j).one c.K0 w' (setm ms j v j) := by rw [setm_self]; exact hv
   cases hf : c.ks j with
   | const _ => rw [hf] at hv'; exact hv'
   | ni _ => rw [hf] at hv'; exact hv'
   | box => rw [hf] at hv'; exact hv'
   | put _ _ => rw [hf] at hv'; exact hv'.elim
   | fin _ => rw [hf] at hv'; exact hv'.elim
  ·rw [up_ne e] at hj
   have hf := hF j hj
   cases hk' : c.ks j with
   | const _ => rw [hk'] at hf; show setm ms i v j = _; rw [setm_ne e]; exact hf
   | ni _ => rw [hk'] at hf; show NI w' (setm ms i v j) _; rw [setm_ne e]; exact NI.below hf hw
   | box => rw [hk'] at hf; show Fk.one c.K0 w' (setm ms i v j) .box; rw [setm_ne e]; exact one_mono _ _ hf
   | put al q =>
    rw [hk'] at hf
    obtain ⟨h1, h2, h3, h3', g, x, y, h4, h5, h6⟩ := hf
    refine ⟨upb _ h1, upb _ h2, h3, h3', g, x, y, ?_, ?_, blk_below h6 hw⟩
    ·rw [setm_ne (bne _ h1)]; exact h4
    ·rw [setm_ne (bne _ h2)]; exact h5
   | fin E =>
    rw [hk'] at hf
    have := hf.1 i (List.contains_iff_mem.1 hi) (fun q => e q.symm)
    rw [hb] at this
    cases this
 ·intro i1 j1 hne h1 h2 hb1 hb2
  have old : ∀ j, j ≠ i → (c.ks j).isBox = true → up b i j = true → (c.ks i).isBox = true → ms j ≠ v := by
   intro j hj hbx hbj hbi
   rw [up_ne hj] at hbj
   have hf := hF j hbj
   cases hk' : c.ks j with
   | box =>
    rw [hk'] at hf
    obtain ⟨g, x, y, e, _, hh⟩ := hf
    rw [hx hbi, e]
    intro q
    injection q with q; injection q with q; injection q with q
    have := blk_lt hh
    omega
   | const _ => rw [hk'] at hbx; cases hbx
   | ni _ => rw [hk'] at hbx; cases hbx
   | put _ _ => rw [hk'] at hbx; cases hbx
   | fin _ => rw [hk'] at hbx; cases hbx
  by_cases e1 : i1 = i
  ·by_cases e2 : j1 = i
   ·exact absurd (e1.trans e2.symm) hne
   ·subst e1; rw [setm_self, setm_ne e2]; exact (old _ e2 h2 hb2 h1).symm
  ·by_cases e2 : j1 = i
   ·subst e2; rw [setm_self, setm_ne e1]; exact old _ e1 h1 hb1 h2
   ·rw [setm_ne e1, setm_ne e2]
    rw [up_ne e1] at hb1; rw [up_ne e2] at hb2
    exact hD _ _ hne h1 h2 hb1 hb2
theorem put_ {al q g : Nat} {x y : Value} (h : a = putSel a0 b (ent c.spec ms) ∧ (∀ j, b j = true → (c.ks j).holds c b ms w j) ∧ (∀ i j, i ≠ j → (c.ks i).isBox = true → (c.ks j).isBox = true → b i = true → b j = true → ms i ≠ ms j) ∧ c.G w ∧ (b c.fi = false → c.H w)) (hs : (c.spec.all fun e => !(e.1 == i)) = true) (hi : c.O.contains i = true) (hb : b i = false)
  (hks : c.ks i = .put al q) (hal : c.ks al = .box) (hba : b al = true) (hbq : b q = true) (hsh : i = al + c.sh) (eg : ms al = .pointer (some ⟨g, 0, none⟩)) (ev : ms q = .agg #[x, y])
  (hG : c.G ((w.setCell ⟨g, 0, none⟩ x).setCell ⟨g, 1, none⟩ y)) (hH : b c.fi = false → c.H ((w.setCell ⟨g, 0, none⟩ x).setCell ⟨g, 1, none⟩ y)) (hfi : (c.fi == i) = false) : Rg c a0 (up b i) a ((w.setCell ⟨g, 0, none⟩ x).setCell ⟨g, 1, none⟩ y) := by
 obtain ⟨ha, hF, hD, _⟩ := h
 have bne : ∀ j, b j = true → j ≠ i := fun j hj e => by rw [e, hb] at hj; cases hj
 have upb : ∀ j, b j = true → up b i j = true := fun j hj => by rw [up_ne (bne j hj)]; exact hj
 have hbx := hF al hba
 rw [hal] at hbx
 obtain ⟨g', x0, y0, eg', hK, hg⟩ := hbx
 rw [eg] at eg'
 injection eg' with eg'; injection eg' with eg'; injection eg' with eg'
 subst eg'
 have hg1 := blk_put hg 0 x rfl
 have hg2 := blk_put hg1 1 y rfl
 have far {g1 : Nat} {cs : Array Value} {t1 : TypeId} (hne : g1 ≠ g) (hh : w.heap[g1]? = some (.cells cs t1 (0, 0))) : ((w.setCell ⟨g, 0, none⟩ x).setCell ⟨g, 1, none⟩ y).heap[g1]? = some (.cells cs t1 (0, 0)) := blk_far (blk_far hh hne x) hne y
 refine ⟨ms, ?_, ?_, ?_, hG, fun q => hH (by rw [up_ne (by simpa using hfi)] at q; exact q)⟩
 ·exact ha.trans (putSel_same (ent_all (f := fun i' _ => !(i' == i)) hs)).symm
 ·intro j hj
  by_cases e : j = i
  ·subst e
   rw [hks]
   exact ⟨upb _ hba, upb _ hbq, hsh, (by rw [hal]; rfl), g, x, y, eg, ev, hg2⟩
  ·rw [up_ne e] at hj
   have hf := hF j hj
   cases hk' : c.ks j with
   | const _ => rw [hk'] at hf; exact hf
   | ni _ => rw [hk'] at hf; exact NI.store (NI.store hf hg (by decide) 0 x) hg1 (by decide) 1 y
   | box =>
    rw [hk'] at hf
    obtain ⟨g1, x1, y1, e1, h1, h2⟩ := hf
    by_cases eg1 : g1 = g
    ·subst eg1; exact ⟨g1, x, y, e1, h1, hg2⟩
    ·exact ⟨g1, x1, y1, e1, h1, far eg1 h2⟩
   | put al' q' =>
    rw [hk'] at hf
    obtain ⟨h1, h2, h3, hx, g1, x1, y1, h4, h5, h6⟩ := hf
    have hne : al' ≠ al := fun e2 => e (by rw [h3, hsh, e2])
    refine ⟨upb _ h1, upb _ h2, h3, hx, g1, x1, y1, h4, h5, far ?_ h6⟩
    rintro rfl
    exact hD _ _ hne hx (by rw [hal]; rfl) h1 hba (by rw [h4, eg])
   | fin E =>
    rw [hk'] at hf
    have := hf.1 i (List.contains_iff_mem.1 hi) (fun q => e q.symm)
    rw [hb] at this
    cases this
 ·intro i1 j1 hne h1 h2 hb1 hb2
  have n1 : i1 ≠ i := by rintro rfl; rw [hks] at h1; cases h1
  have n2 : j1 ≠ i := by rintro rfl; rw [hks] at h2; cases h2
  rw [up_ne n1] at hb1; rw [up_ne n2] at hb2
  exact hD _ _ hne h1 h2 hb1 hb2
theorem fin_ {g : Nat} {x0 y0 x y : Value} {E : (Nat → Value) → World → Prop} (h : a = putSel a0 b (ent c.spec ms) ∧ (∀ j, b j = true → (c.ks j).holds c b ms w j) ∧ (∀ i j, i ≠ j → (c.ks i).isBox = true → (c.ks j).isBox = true → b i = true → b j = true → ms i ≠ ms j) ∧ c.G w ∧ (b c.fi = false → c.H w)) (hs : (c.spec.all fun e => !(e.1 == i)) = true)
  (hall : ∀ j ∈ c.O, j ≠ i → b j = true) (hi : c.O.contains i = true) (hb : b i = false) (hks : c.ks i = .fin E) (hg : w.heap[g]? = some (.cells #[x0, y0] 42 (0, 0))) (hK : g < c.K0)
  (hE : E ms ((w.setCell ⟨g, 0, none⟩ x).setCell ⟨g, 1, none⟩ y)) (hG : c.G ((w.setCell ⟨g, 0, none⟩ x).setCell ⟨g, 1, none⟩ y)) (hfi : c.fi = i) : Rg c a0 (up b i) a ((w.setCell ⟨g, 0, none⟩ x).setCell ⟨g, 1, none⟩ y) := by
 obtain ⟨ha, hF, hD, _⟩ := h
 have bne : ∀ j, b j = true → j ≠ i := fun j hj e => by rw [e, hb] at hj; cases hj
 have upb : ∀ j, b j = true → up b i j = true := fun j hj => by rw [up_ne (bne j hj)]; exact hj
 have hg1 := blk_put hg 0 x rfl
 have far {g1 : Nat} {cs : Array Value} {t1 : TypeId} (hne : g1 ≠ g) (hh : w.heap[g1]? = some (.cells cs t1 (0, 0))) : ((w.setCell ⟨g, 0, none⟩ x).setCell ⟨g, 1, none⟩ y).heap[g1]? = some (.cells cs t1 (0, 0)) := blk_far (blk_far hh hne x) hne y
 refine ⟨ms, ha.trans (putSel_same (ent_all (f := fun i' _ => !(i' == i)) hs)).symm, ?_, ?_, hG, fun q => by rw [hfi, up_self] at q; cases q⟩
 ·intro j hj
  by_cases e : j = i
  ·subst e
   rw [hks]
   exact ⟨fun i' hi' hne => upb _ (hall i' hi' hne), hE⟩
  ·rw [up_ne e] at hj
   have hf := hF j hj
   cases hk' : c.ks j with
   | const _ => rw [hk'] at hf; exact hf
   | ni _ => rw [hk'] at hf; exact NI.store (NI.store hf hg (by decide) 0 x) hg1 (by decide) 1 y
   | box =>
    rw [hk'] at hf
    obtain ⟨g1, x1, y1, e1, h1, h2⟩ := hf
    exact ⟨g1, x1, y1, e1, h1, far (by omega) h2⟩
   | put al' q' =>
    rw [hk'] at hf
    obtain ⟨h1, h2, h3, hx, g1, x1, y1, h4, h5, h6⟩ := hf
    refine ⟨upb _ h1, upb _ h2, h3, hx, g1, x1, y1, h4, h5, far ?_ h6⟩
    have hf2 := hF al' h1
    cases hk2 : c.ks al' with
    | box =>
     rw [hk2] at hf2
     obtain ⟨g2, _, _, e2, h7, _⟩ := hf2
     rw [h4] at e2
     injection e2 with e2; injection e2 with e2; injection e2 with e2
     omega
    | const _ => rw [hk2] at hx; cases hx
    | ni _ => rw [hk2] at hx; cases hx
    | put _ _ => rw [hk2] at hx; cases hx
    | fin _ => rw [hk2] at hx; cases hx
   | fin E' =>
    rw [hk'] at hf
    have := hf.1 i (List.contains_iff_mem.1 hi) (fun q => e q.symm)
    rw [hb] at this
    cases this
 ·intro i1 j1 hne h1 h2 hb1 hb2
  have n1 : i1 ≠ i := by rintro rfl; rw [hks] at h1; cases h1
  have n2 : j1 ≠ i := by rintro rfl; rw [hks] at h2; cases h2
  rw [up_ne n1] at hb1; rw [up_ne n2] at hb2
  exact hD _ _ hne h1 h2 hb1 hb2
theorem hall_ {B : List Nat} (q : (c.O.all fun j => j == i || (c.O.contains j && (B.getD i 0).testBit j)) = true) (hon : ∀ j, (c.O.contains j && (B.getD i 0).testBit j) = true → b j = true) : ∀ j ∈ c.O, j ≠ i → b j = true := fun j hj hne => by
 have := List.all_eq_true.1 q j hj
 rw [Bool.or_eq_true] at this
 rcases this with h | h
 ·exact absurd (by simpa using h) hne
 ·exact hon j h
theorem rg0 (hG : c.G w) (hH : c.H w) : Rg c a0 (fun _ => false) a0 w := ⟨fun _ => .bool false, by
 have : ∀ L : List (Nat × Tmp × Value), a0 = putSel a0 (fun _ => false) L := by
  intro L
  induction L with
  | nil => rfl
  | cons e r ih => exact ih
 exact this _, fun j h => (by cases h), fun i j _ _ _ h => (by cases h), hG, fun _ => hH⟩
end
end Go.Proofs.Ytlkngfidohiepaa.Reg
end
section
namespace Go.Proofs.Ytlkngfidohiepaa.Dig
open Go RowKit YtlkngfidohiepaaW.PrintWords Ytlkngfidohiepaa.F
attribute [local irreducible] val P
theorem val_set {l : List Int} {j : Nat} (h : j < l.length) (x : Int) : val (l.set j x) = val l + P j * (x - l.getD j 0) := by
 induction l generalizing j with
 | nil => simp at h
 | cons d l ih =>
  cases j with
  | zero => simp only [List.set_cons_zero, val, P, List.getD_cons_zero]; omega
  | succ j =>
   simp only [List.set_cons_succ, val, P, List.getD_cons_succ]
   rw [ih (by simpa using h)]
   generalize P j = p
   generalize l.getD j 0 = y
   grind
theorem Dg_set {l : List Int} (h : Dg l) {j : Nat} {x : Int} (h0 : 0 ≤ x) (h1 : x < 65536) : Dg (l.set j x) := fun d hd => by
 rcases List.mem_or_eq_of_mem_set hd with hd | rfl
 ·exact h d hd
 ·exact ⟨h0, h1⟩
theorem getD_set_ne {l : List Int} {i j : Nat} (h : i ≠ j) (x : Int) : (l.set i x).getD j 0 = l.getD j 0 := by
 simp [List.getD_eq_getElem?_getD, List.getElem?_set_ne h]
theorem carry {c o a b : Int} (c0 : 0 ≤ c) (c1 : c < 65536) (o0 : 0 ≤ o) (o1 : o < 65536) (a0 : 0 ≤ a) (a1 : a < 65536) (b0 : 0 ≤ b) (b1 : b < 65536) :
  0 ≤ a * b ∧ a * b ≤ 4294836225 ∧ 0 ≤ c + o + a * b ∧ (c + o + a * b) / 65536 < 65536 := by
 have h0 : 0 ≤ a * b := Int.mul_nonneg a0 b0
 have h1 : a * b ≤ 65535 * b := Int.mul_le_mul_of_nonneg_right (by omega) b0
 omega
theorem getD_rep (n j : Nat) : (List.replicate n (0 : Int)).getD j 0 = 0 := by
 simp only [List.getD_eq_getElem?_getD, List.getElem?_replicate]
 split <;> rfl
theorem mul_l1 {a b : List Int} (ha : Dg a) (hb : Dg b) (na : a.length ≤ 10000) (nb : b.length ≤ 10000) {i : Nat} (hi : i < a.length) : ∀ (d k j : Nat) (out : List Int) (c T : Int), b.length - j = d → j ≤ b.length → d + 1 < k →
  out.length = a.length + b.length → Dg out → 0 ≤ c → c < 65536 → (∀ p, i + b.length ≤ p → out.getD p 0 = 0) → Aside0 (val out + P (i + j) * (c + a.getD i 0 * val (b.drop j)) = T) →
  ∃ out', zelligeref03_Mul.l1 k a b out (i : Int) c (j : Int) = zelligeref03_Mul.l0 (k - d - 1) a b out' ((i + 1 : Nat) : Int) ∧ out'.length = a.length + b.length ∧ Dg out' ∧ (∀ p, i + 1 + b.length ≤ p → out'.getD p 0 = 0) ∧ val out' = T := by
 intro d
 induction d with
 | zero =>
  intro k j out c T hd hj hk hl hD c0 c1 hz hT
  obtain ⟨k, rfl⟩ : ∃ m, k = m + 1 := ⟨k - 1, by omega⟩
  obtain rfl : j = b.length := by omega
  have e1 : Aside0 (wrap64 ((i : Int) + (b.length : Int)) = ((i + b.length : Nat) : Int)) := ⟨by rw [w64 (by omega) (by omega)]; omega⟩
  have e2 : Aside0 (wrap64 ((i : Int) + 1) = ((i + 1 : Nat) : Int)) := ⟨by rw [w64 (by omega) (by omega)]; omega⟩
  have hlt : i + b.length < out.length := by omega
  refine ⟨out.set (i + b.length) c, ?_, by rw [List.length_set, hl], Dg_set hD c0 c1, ?_, ?_⟩
  ·rw [zelligeref03_Mul.l1, if_neg (by omega), e1.out, e2.out, if_pos (by omega), if_pos (by omega), show ((i + b.length : Nat) : Int).toNat = i + b.length from by omega, show k + 1 - 0 - 1 = k from by omega]
  ·intro p hp
   rw [getD_set_ne (by omega)]
   exact hz p (by omega)
  ·have hT := hT.out
   rw [val_drop_all (Nat.le_refl _)] at hT
   rw [val_set hlt, hz _ (Nat.le_refl _)]
   generalize P (i + b.length) = p at *
   grind
 | succ d ih =>
  intro k j out c T hd hj hk hl hD c0 c1 hz hT
  obtain ⟨k, rfl⟩ : ∃ m, k = m + 1 := ⟨k - 1, by omega⟩
  have hjl : j < b.length := by omega
  have e1 : Aside0 (wrap64 ((i : Int) + (j : Int)) = ((i + j : Nat) : Int)) := ⟨by rw [w64 (by omega) (by omega)]; omega⟩
  have e2 : Aside0 (wrap64 ((j : Int) + 1) = ((j + 1 : Nat) : Int)) := ⟨by rw [w64 (by omega) (by omega)]; omega⟩
  have hlt : i + j < out.length := by omega
  have gA := Dg_get ha i
  have gB := Dg_get hb j
  have gO := Dg_get hD (i + j)
  have hc := carry c0 c1 gO.1 gO.2 gA.1 gA.2 gB.1 gB.2
  have eB := Aside0.mk (val_drop hjl)
  generalize hs : c + out.getD (i + j) 0 + a.getD i 0 * b.getD j 0 = s at hc
  have es : Aside0 (wrap64 (wrap64 (c + out.getD (i + j) 0) + wrap64 (a.getD i 0 * b.getD j 0)) = s) := ⟨by
   rw [w64 (x := c + out.getD (i + j) 0) (by omega) (by omega), w64 (x := a.getD i 0 * b.getD j 0) (by omega) (by omega), hs, w64 (by omega) (by omega)]⟩
  have g1 : 0 ≤ s % 65536 ∧ s % 65536 < 65536 ∧ 0 ≤ s / 65536 ∧ s / 65536 < 65536 := by omega
  have f1 : b.length - (j + 1) = d := by omega
  have f2 : d + 1 < k := by omega
  obtain ⟨out', h1, h2⟩ := ih k (j + 1) (out.set (i + j) (s % 65536)) (s / 65536) T f1 (by omega) f2 (by rw [List.length_set, hl]) (Dg_set hD g1.1 g1.2.1) g1.2.2.1 g1.2.2.2 (fun p hp => by rw [getD_set_ne (by omega)]; exact hz p hp) ⟨by
   have e : s = s % 65536 + 65536 * (s / 65536) := by omega
   rw [val_set hlt, ← hT.out, eB.out, show i + (j + 1) = (i + j) + 1 from rfl, P]
   clear hT eB
   generalize s % 65536 = m at *
   generalize s / 65536 = q at *
   generalize P (i + j) = p at *
   generalize val (b.drop (j + 1)) = vb at *
   generalize out.getD (i + j) 0 = o at *
   generalize a.getD i 0 = x at *
   generalize b.getD j 0 = y at *
   grind⟩
  refine ⟨out', ?_, h2⟩
  clear eB
  rw [zelligeref03_Mul.l1, if_pos (by omega), e1.out, if_pos (by omega), if_pos (by omega), if_pos (by omega), if_pos (by omega), if_pos (by omega), rd_nat, rd_nat, rd_nat, es.out, e2.out, Int.tmod_eq_emod_of_nonneg (by omega), Int.tdiv_eq_ediv_of_nonneg (by omega), w64 (x := s / 65536) (by omega) (by omega), show ((i + j : Nat) : Int).toNat = i + j from by omega, h1,
   show k + 1 - (d + 1) - 1 = k - d - 1 from by omega]
theorem mul_l0 {a b : List Int} (ha : Dg a) (hb : Dg b) (na : a.length ≤ 10000) (nb : b.length ≤ 10000) : ∀ (d k i : Nat) (out : List Int), a.length - i = d → i ≤ a.length → (d + 1) * (b.length + 2) + a.length + b.length + 4 < k →
  out.length = a.length + b.length → Dg out → (∀ p, i + b.length ≤ p → out.getD p 0 = 0) → Aside0 (val out + P i * (val (a.drop i) * val b) = val a * val b) →
  ∃ r, zelligeref03_Mul.l0 k a b out (i : Int) = some r ∧ Cn r ∧ val r = val a * val b := by
 intro d
 induction d with
 | zero =>
  intro k i out hd hi hk hl hD hz hT
  obtain ⟨k, rfl⟩ : ∃ m, k = m + 1 := ⟨k - 1, by omega⟩
  have hT' := hT.out
  rw [val_drop_all (by omega), Int.zero_mul, Int.mul_zero, Int.add_zero] at hT'
  have hT' := Aside0.mk hT'
  obtain ⟨r, hr, h1, h2⟩ := trim_f (l := out) hD (by omega) (k := k) (by omega)
  refine ⟨r, ?_, h1, h2.trans hT'.out⟩
  rw [zelligeref03_Mul.l0, if_neg (by omega), hr]; rfl
 | succ d ih =>
  intro k i out hd hi hk hl hD hz hT
  obtain ⟨k, rfl⟩ : ∃ m, k = m + 1 := ⟨k - 1, by omega⟩
  have hil : i < a.length := by omega
  have hk' : (d + 1) * (b.length + 2) + (b.length + 2) + a.length + b.length + 4 < k + 1 := by
   have : (d + 1 + 1) * (b.length + 2) = (d + 1) * (b.length + 2) + (b.length + 2) := Nat.succ_mul _ _
   omega
  have eA := Aside0.mk (val_drop hil)
  obtain ⟨out', h1, h2, h3, h4, h5⟩ := mul_l1 ha hb na nb hil b.length k 0 out 0 (val out + P i * (a.getD i 0 * val b)) (by omega) (by omega) (by omega) hl hD (by omega) (by omega) hz ⟨by rw [List.drop_zero, Nat.add_zero, Int.zero_add]⟩
  obtain ⟨r, hr, h6, h7⟩ := ih (k - b.length - 1) (i + 1) out' (by omega) (by omega) (by omega) h2 h3 h4 ⟨by
   rw [h5, P, ← hT.out, eA.out]
   clear hT eA h5
   generalize P i = p at *
   generalize a.getD i 0 = x at *
   generalize val (a.drop (i + 1)) = va at *
   generalize val b = vb at *
   grind⟩
  refine ⟨r, ?_, h6, h7⟩
  rw [zelligeref03_Mul.l0, if_pos (by omega), show zelligeref03_Mul.l1 k a b out (i : Int) 0 0 = _ from h1]
  exact hr
theorem mul_f (a b : Nat) (na : (dig a).length ≤ 3000) (nb : (dig b).length ≤ 3000) {k : Nat} (hk : 20000000 < k) : zelligeref03_Mul.f k (dig a) (dig b) = some (dig (a * b)) := by
 have hb1 : ((dig a).length + 1) * ((dig b).length + 2) ≤ 3001 * 3002 := Nat.mul_le_mul (by omega) (by omega)
 obtain ⟨r, hr, h1, h2⟩ := mul_l0 (dig_Dg a) (dig_Dg b) (by omega) (by omega) (dig a).length k 0 (List.replicate ((dig a).length + (dig b).length) 0) (by omega) (by omega) (by omega) (by simp)
  (fun d hd => by rw [List.eq_of_mem_replicate hd]; omega) (fun p _ => getD_rep _ _) ⟨by
   rw [val_zero_of (fun d hd => List.eq_of_mem_replicate hd), P, List.drop_zero]
   omega⟩
 unfold zelligeref03_Mul.f
 rw [w64 (by omega) (by omega), if_pos (by omega), show ((dig a).length + (dig b).length : Int).toNat = (dig a).length + (dig b).length from by omega, if_pos (by omega)]
 rw [show zelligeref03_Mul.l0 k (dig a) (dig b) (List.replicate ((dig a).length + (dig b).length) 0) 0 = some r from hr]
 congr 1
 refine eq_dig_of h1 ?_
 rw [h2, dig_val, dig_val]
 exact (Int.natCast_mul a b).symm
end Go.Proofs.Ytlkngfidohiepaa.Dig
end
section
namespace Go.Proofs.Ytlkngfidohiepaa.Whole
open Go RowKit YtlkngfidohiepaaW.PrintWords YtlkngfidohiepaaW.PrintLast YtlkngfidohiepaaW.PrintMore Ytlkngfidohiepaa.F Ytlkngfidohiepaa.Dig
set_option linter.unusedVariables false
theorem mul_c (v u : Value) (n m : Int) (hn : Sm n) (hm : Sm m) (w : World) (h : NI w v n) (h' : NI w u m) :
  Calls Try.prog 32 #[v, u] w fun e w' => ∃ r, e = .returned r ∧ NI w' r (n * m) ∧ Below w.heap.size w w' := by
 obtain ⟨A, l, c, rfl, hA⟩ := h
 obtain ⟨B, l', d, rfl, hB⟩ := h'
 unfold Sm at hn hm
 obtain ⟨ql, qc, hA'⟩ := hA.reads
 obtain ⟨ql', qd, hB'⟩ := hB.reads
 have hs : wrap64 (n.sign * m.sign) = (n * m).sign := by
  rw [Int.sign_mul]
  have h1 : -1 ≤ n.sign ∧ n.sign ≤ 1 := by rw [sign_eq]; omega
  have h2 : -1 ≤ m.sign ∧ m.sign ≤ 1 := by rw [sign_eq]; omega
  have h3 : n.sign = -1 ∨ n.sign = 0 ∨ n.sign = 1 := by omega
  rcases h3 with h3 | h3 | h3 <;> rw [h3] <;> exact w64 (by omega) (by omega)
 have hf : zelligeref04_Mul.f 30000000 n.sign (dig n.natAbs) m.sign (dig m.natAbs) = some ((n * m).sign, dig (n * m).natAbs) := by
  unfold zelligeref04_Mul.f zelligeref04_make1.f
  rw [mul_f n.natAbs m.natAbs (by omega) (by omega) (by omega), Option.bind_some, hs, Int.natAbs_mul]
  by_cases h0 : ((dig (n.natAbs * m.natAbs)).length : Int) = 0
  ·have hz : n.natAbs * m.natAbs = 0 := dig_nil.1 (List.length_eq_zero_iff.1 (by omega))
   have hz' : n * m = 0 := Int.natAbs_eq_zero.1 (by rw [Int.natAbs_mul]; exact hz)
   rw [if_pos h0, hz', hz, dig_zero]
   rfl
  ·rw [if_neg h0]; rfl
 subst ql ql'
 refine (zelligeref04_Mul.calls 30000000 n.sign A c (dig n.natAbs) m.sign B d (dig m.natAbs) _ _ w hA' qc hB' qd hf).mono fun e w' ⟨v1, he, hR, hb⟩ => ?_
 have hv := RV.of_R hR
 obtain ⟨A', c', rfl, _⟩ := hv.form
 exact ⟨_, he, ⟨A', _, c', rfl, hv⟩, hb⟩
end Go.Proofs.Ytlkngfidohiepaa.Whole
end
section
namespace Go.Proofs.Ytlkngfidohiepaa.Rf
open Go RowKit YtlkngfidohiepaaW.PrintWords YtlkngfidohiepaaW.PrintLast Ytlkngfidohiepaa.Whole Ytlkngfidohiepaa.Reg Ytlkngfidohiepaa.Pm Ytlkngfidohiepaa.Pd Ytlkngfidohiepaa.Wd
set_option linter.unusedVariables false
set_option linter.unusedSimpArgs false
theorem sm_am {n : Int} {B : Nat} (h : Am n B) (hB : B ≤ 115792089237316195423570985008687907853269984665640564039457584007913129639936) : Sm n := Sm.of (by have := h.le; omega) (by have := h.le; omega)
theorem co_wf {n : Int} (h : Co n) : (Lit.int .i64 n).wf = true := by unfold Co at h; exact WalkArith.wf_i64 (by omega)
theorem four_new (w : World) (o0 o1 o2 o3 : Obj) : ((((w.alloc o0).alloc o1).alloc o2).alloc o3).heap[w.heap.size]? = some o0 ∧ ((((w.alloc o0).alloc o1).alloc o2).alloc o3).heap[w.heap.size + 1]? = some o1 ∧ ((((w.alloc o0).alloc o1).alloc o2).alloc o3).heap[w.heap.size + 1 + 1]? = some o2 ∧ ((((w.alloc o0).alloc o1).alloc o2).alloc o3).heap[w.heap.size + 1 + 1 + 1]? = some o3 ∧
  Below w.heap.size w ((((w.alloc o0).alloc o1).alloc o2).alloc o3) ∧ ((((w.alloc o0).alloc o1).alloc o2).alloc o3).heap.size = w.heap.size + 1 + 1 + 1 + 1 := by
 obtain ⟨n0, n1, n2, bw, nw⟩ := three_new w o0 o1 o2
 generalize (((w.alloc o0).alloc o1).alloc o2) = W at *
 have e := blk_new W o3
 rw [nw] at e
 have hb : Below W.heap.size W (W.alloc o3) := (Below.refl _ _).alloc (Nat.le_refl _) _
 exact ⟨blk_below n0 hb, blk_below n1 hb, blk_below n2 hb, e, below_then bw bw.size hb, by rw [World.alloc]; simp [nw]⟩
theorem diff_c (x y : Int) (hx : (Lit.int .i64 x).wf = true) (hy : (Lit.int .i64 y).wf = true) (w : World) :
  Calls Try.prog 31 #[.int .i64 x, .int .i64 y] w fun e w' => ∃ r, e = .returned r ∧ NI w' r (y - x) ∧ Below w.heap.size w w' := by
 have bx := bounds_i64 hx; have bY := bounds_i64 hy
 have SX := Aside0.mk (Sm.of (n := x) (by omega) (by omega)); have SY := Aside0.mk (Sm.of (n := y) (by omega) (by omega))
 go_enter Try.func31, Try.ntmps31
 go_wp2_with fail
 obtain ⟨n0, bw⟩ := one_new w (.cells #[.int .i64 0, .slice none 0 0] 42)
 generalize (w.alloc (.cells #[.int .i64 0, .slice none 0 0] 42)) = W at n0 bw ⊢
 refine (long_c y hy _).mono ?_
 rintro e w1 ⟨v, rfl, hN, hb⟩
 have N1 := Aside0.mk (blk_below n0 hb); have B1 := Aside0.mk (below_step bw hb); have HN := Aside0.mk hN
 clear n0 bw hb hN
 go_wp2_with fail
 refine (long_c x hx _).mono ?_
 rintro e w2 ⟨u, rfl, hN, hb⟩
 have N2 := Aside0.mk (blk_below N1.out hb); have B2 := Aside0.mk (below_step B1.out hb); have HM := Aside0.mk (HN.out.below hb); have HU := Aside0.mk hN
 clear N1 B1 HN hb hN
 go_wp2_with fail
 refine (sub_c _ _ y x SY.out SX.out _ HM.out HU.out).mono ?_
 rintro e w3 ⟨z, rfl, hN, hb⟩
 obtain ⟨s3, A3, l3, c3, rfl⟩ := hN.shape
 have m2 := blk_below N2.out hb
 have M2 := Aside0.mk m2; have B3 := Aside0.mk (below_step B2.out hb); have HZ := Aside0.mk hN
 clear N2 B2 HM HU hb hN
 have e4 : w3.cell? ⟨w.heap.size, 0, none⟩ = some (.int .i64 0) := (blk_cell m2 0).trans rfl
 have e5 : w3.cell? ⟨w.heap.size, 1, none⟩ = some (.slice none 0 0) := (blk_cell m2 1).trans rfl
 have g3 := blk_frozen m2 0; have g4 := blk_frozen m2 1
 clear m2
 go_wp2
 refine bodyPost_ret (results_cell_row rfl _ _ w.heap.size 42 #[.int .i64 s3, .slice A3 l3 c3] (0, 0) _ rfl (blk_put (cs := #[.int .i64 s3, .slice none 0 0]) (blk_put (cs := #[.int .i64 0, .slice none 0 0]) M2.out 0 _ rfl) 1 _ rfl) Try.underlying42 rfl (by kernel_rfl)) rfl ?_
 exact ⟨_, rfl, (HZ.out.store M2.out (by decide) 0 _).store (blk_put (cs := #[.int .i64 0, .slice none 0 0]) M2.out 0 _ rfl) (by decide) 1 _, below_set2 B3.out (by omega) _ _ _ _⟩
def area.T : Bool × List (List Nat × List Nat) := (true, [([], []), ([0], [0]), ([], []), ([2], [2]), ([1, 3], [1, 3]), ([], []), ([5], [5]), ([], []), ([7], [7]), ([6, 8, 4], [6, 8]), ([4, 9, 9], [4, 9]), ([], []), ([11], [11]), ([], []), ([13], [13]), ([12, 14, 10], [12, 14]), ([], []), ([16], [16]), ([], []), ([18], [18]), ([17, 19, 15], [17, 19]), ([15, 20, 20], [15, 20]), ([10, 21, 21], [10, 21]), ([22, 22, 0, 1, 2, 3, 4, 5, 6, 7, 8, 9, 10, 11, 12, 13, 14, 15, 16, 17, 18, 19, 20, 21, 22], [22])])
def area.B : List Nat := [0, 1, 0, 4, 15, 0, 32, 0, 128, 511, 1023, 0, 2048, 0, 8192, 32767, 0, 65536, 0, 262144, 1048575, 2097151, 4194303, 8388607]
theorem area.tab : rtab .any (opsOf Try.f23 1) = area.T := by kernel_rfl
theorem area.bits : waitsOk area.T.2 area.B = true := by kernel_rfl
set_option maxHeartbeats 8000000 in
set_option maxRecDepth 100000 in
theorem area_c {a0 a1 b0 b1 c0 c1 : Int} (ha : CoP a0 a1) (hb : CoP b0 b1) (hc : CoP c0 c1) (w : World) :
  Calls Try.prog 23 #[.agg #[.int .i64 a0, .int .i64 a1], .agg #[.int .i64 b0, .int .i64 b1], .agg #[.int .i64 c0, .int .i64 c1]] w fun e w' => ∃ r, e = .returned r ∧ NI w' r (ar a0 a1 b0 b1 c0 c1) ∧ Below w.heap.size w w' := by
 have x0 := hb.1.way ha.1; have x1 := hb.2.way ha.2; have y0 := hc.1.way ha.1; have y1 := hc.2.way ha.2
 have s1 := sm_am x0 (by omega); have s2 := sm_am y1 (by omega); have s3 := sm_am x1 (by omega); have s4 := sm_am y0 (by omega)
 have s5 := sm_am (Am.mul x0 y1) (by omega); have s6 := sm_am (Am.mul x1 y0) (by omega)
 have h_a0 := co_wf ha.1; have h_a1 := co_wf ha.2; have h_b0 := co_wf hb.1; have h_b1 := co_wf hb.2; have h_c0 := co_wf hc.1; have h_c1 := co_wf hc.2
 clear x0 x1 y0 y1
 unfold ar
 go_enter Try.func23, Try.ntmps23
 go_wp2_with fail
 obtain ⟨n0, n1, n2, n3, bw, nw⟩ := four_new w (.cells #[.int .i64 a0, .int .i64 a1] 23) (.cells #[.int .i64 b0, .int .i64 b1] 23) (.cells #[.int .i64 c0, .int .i64 c1] 23) (.cells #[.int .i64 0, .slice none 0 0] 42)
 generalize ((((w.alloc (.cells #[.int .i64 a0, .int .i64 a1] 23)).alloc (.cells #[.int .i64 b0, .int .i64 b1] 23)).alloc (.cells #[.int .i64 c0, .int .i64 c1] 23)).alloc (.cells #[.int .i64 0, .slice none 0 0] 42)) = W at n0 n1 n2 n3 bw nw ⊢
 obtain ⟨G, hGd⟩ : ∃ G : World → Prop, G = (fun w' => Below w.heap.size w w' ∧ w.heap.size + 1 + 1 + 1 + 1 ≤ w'.heap.size ∧ w'.heap[w.heap.size]? = some (.cells #[.int .i64 a0, .int .i64 a1] 23 (0, 0)) ∧ w'.heap[w.heap.size + 1]? = some (.cells #[.int .i64 b0, .int .i64 b1] 23 (0, 0)) ∧ w'.heap[w.heap.size + 1 + 1]? = some (.cells #[.int .i64 c0, .int .i64 c1] 23 (0, 0)) ∧ ∃ x y, w'.heap[w.heap.size + 1 + 1 + 1]? = some (.cells #[x, y] 42 (0, 0))) := ⟨_, rfl⟩
 have GM : ∀ w1 w2 : World, G w1 → Below w1.heap.size w1 w2 → G w2 := by
  subst hGd
  rintro w1 w2 ⟨HBl, HSz, Bx3, Bx4, Bx5, Rs⟩ hb
  exact ⟨below_step HBl hb, Nat.le_trans HSz hb.size, blk_below Bx3 hb, blk_below Bx4 hb, blk_below Bx5 hb, (Rs.elim fun x h => h.elim fun y h => ⟨x, y, blk_below h hb⟩)⟩
 have HM : ∀ w1 w2 : World, (fun _ => True) w1 → Below w1.heap.size w1 w2 → (fun _ => True) w2 := fun _ _ _ _ => True.intro
 have GR : ∀ (w1 : World) (x0 y0 x y : Value), G w1 → w1.heap[w.heap.size + 1 + 1 + 1]? = some (.cells #[x0, y0] 42 (0, 0)) → G ((w1.setCell ⟨w.heap.size + 1 + 1 + 1, 0, none⟩ x).setCell ⟨w.heap.size + 1 + 1 + 1, 1, none⟩ y) := by
  subst hGd
  rintro w1 x0 y0 x y ⟨HBl, HSz, Bx3, Bx4, Bx5, Rs⟩ hgh
  have hle : w.heap.size ≤ w.heap.size + 1 + 1 + 1 := by omega
  exact ⟨below_set2 HBl hle _ _ _ _, (by simpa [World.setCell] using HSz), blk_far (blk_far Bx3 (fun e => by have e1 : (w.heap.size : Nat) = w.heap.size + 1 + 1 + 1 := e; omega) _) (fun e => by have e1 : (w.heap.size : Nat) = w.heap.size + 1 + 1 + 1 := e; omega) _, blk_far (blk_far Bx4 (fun e => by have e1 : (w.heap.size + 1 : Nat) = w.heap.size + 1 + 1 + 1 := e; omega) _) (fun e => by have e1 : (w.heap.size + 1 : Nat) = w.heap.size + 1 + 1 + 1 := e; omega) _, blk_far (blk_far Bx5 (fun e => by have e1 : (w.heap.size + 1 + 1 : Nat) = w.heap.size + 1 + 1 + 1 := e; omega) _) (fun e => by have e1 : (w.heap.size + 1 + 1 : Nat) = w.heap.size + 1 + 1 + 1 := e; omega) _, _, _, blk_put (blk_put hgh 0 _ rfl) 1 _ rfl⟩
 refine start_ (n := 24) (S := fun w' => True) (ds := []) #[false, false, false, false, false, false, false, false, false, false, false, false, false, false, false, false, false, false, false, false, false, false, false, false] (by kernel_rfl) rfl rfl trivial (fun _ => ?_); refine with_tabW area.tab area.bits (fun HT_ HW_ => ?_)
 have hG0 : G W.drew := by subst hGd; exact ⟨below_drew bw, Nat.le_of_eq nw.symm, n0, n1, n2, _, _, n3⟩
 generalize W.drew = W1 at hG0 ⊢
 refine inv_at [0, 1, 2, 3, 4, 5, 6, 7, 8, 9, 10, 11, 12, 13, 14, 15, 16, 17, 18, 19, 20, 21, 22, 23] (fun a0_ b a w' => Rg ⟨[0, 1, 2, 3, 4, 5, 6, 7, 8, 9, 10, 11, 12, 13, 14, 15, 16, 17, 18, 19, 20, 21, 22, 23], [(0, 7), (1, 8), (2, 9), (3, 10), (4, 11), (5, 12), (6, 13), (7, 14), (8, 15), (9, 16), (10, 17), (11, 18), (12, 19), (13, 20), (14, 21), (15, 22), (16, 23), (17, 24), (18, 25), (19, 26), (20, 27), (21, 28), (22, 29)], fun j => [.const (.pointer (some ⟨w.heap.size, 0, none⟩)), .const (.int .i64 a0), .const (.pointer (some ⟨w.heap.size + 1, 0, none⟩)), .const (.int .i64 b0), .ni (b0 - a0), .const (.pointer (some ⟨w.heap.size, 1, none⟩)), .const (.int .i64 a1), .const (.pointer (some ⟨w.heap.size + 1 + 1, 1, none⟩)), .const (.int .i64 c1), .ni (c1 - a1), .ni ((b0 - a0) * (c1 - a1)), .const (.pointer (some ⟨w.heap.size, 1, none⟩)), .const (.int .i64 a1), .const (.pointer (some ⟨w.heap.size + 1, 1, none⟩)), .const (.int .i64 b1), .ni (b1 - a1), .const (.pointer (some ⟨w.heap.size, 0, none⟩)), .const (.int .i64 a0), .const (.pointer (some ⟨w.heap.size + 1 + 1, 0, none⟩)), .const (.int .i64 c0), .ni (c0 - a0), .ni ((b1 - a1) * (c0 - a0)), .ni (((b0 - a0) * (c1 - a1)) - ((b1 - a1) * (c0 - a0))), .fin (fun ms w' => ∃ x y, w'.heap[w.heap.size + 1 + 1 + 1]? = some (.cells #[x, y] 42 (0, 0)) ∧ NI w' (.agg #[x, y]) (((b0 - a0) * (c1 - a1)) - ((b1 - a1) * (c0 - a0))))].getD j .box, w.heap.size + 1 + 1 + 1 + 1, 0, G, fun _ => True, 23⟩ a0_ b a w') HT_.out HW_.out (by kernel_rfl) (by kernel_rfl) ?_ ?_ ?_
 ·exact rg0 hG0 True.intro
 ·refine steps_cons ?_ ?_
  ·rintro b a w' ⟨ms, hR⟩ hb_ hon hoff
   obtain ⟨ha, hF, hD, hG, _⟩ := id hR
   have HH := hR.2.2.2.2 (hoff 23 (by kernel_rfl))
   refine ⟨_, rfl, fun K hK => ?_⟩
   have e3 : a.tmps[3]? = some (.pointer (some ⟨w.heap.size, 0, none⟩)) := (off_ ha rfl).trans rfl
   have HR := Aside0.mk hR
   clear hR ha hF
   refine value_ (w1 := w') (v := .pointer (some ⟨w.heap.size, 0, none⟩)) (by rfl) rfl ?_ ?_
   ·go_simp
    try rfl
   exact hK.out _ _ (step_ 0 HR.out rfl rfl hb_ (Below.refl _ _) hG rfl (fun h => by cases h) (fun _ => HH) rfl)
  refine steps_cons ?_ ?_
  ·rintro b a w' ⟨ms, hR⟩ hb_ hon hoff
   obtain ⟨ha, hF, hD, hG, _⟩ := id hR
   have hG1 := hG
   rw [hGd] at hG1
   obtain ⟨_, _, Bx3, _, _, _⟩ := hG1
   have HH := hR.2.2.2.2 (hoff 23 (by kernel_rfl))
   refine ⟨_, rfl, fun K hK => ?_⟩
   have e7 : a.tmps[7]? = some (.pointer (some ⟨w.heap.size, 0, none⟩)) := (on_ 0 ha rfl (hon 0 (by kernel_rfl)) rfl).trans (congrArg some (hF 0 (hon 0 (by kernel_rfl))))
   have hc : w'.cell? ⟨w.heap.size, 0, none⟩ = some (.int .i64 a0) := (blk_cell Bx3 0).trans rfl
   have HR := Aside0.mk hR
   clear hR ha hF
   refine value_ (w1 := w') (v := .int .i64 a0) (by rfl) rfl ?_ ?_
   ·go_simp
    (try simp only [i64_w])
    try rfl
   exact hK.out _ _ (step_ 1 HR.out rfl rfl hb_ (Below.refl _ _) hG rfl (fun h => by cases h) (fun _ => HH) rfl)
  refine steps_cons ?_ ?_
  ·rintro b a w' ⟨ms, hR⟩ hb_ hon hoff
   obtain ⟨ha, hF, hD, hG, _⟩ := id hR
   have HH := hR.2.2.2.2 (hoff 23 (by kernel_rfl))
   refine ⟨_, rfl, fun K hK => ?_⟩
   have e4 : a.tmps[4]? = some (.pointer (some ⟨w.heap.size + 1, 0, none⟩)) := (off_ ha rfl).trans rfl
   have HR := Aside0.mk hR
   clear hR ha hF
   refine value_ (w1 := w') (v := .pointer (some ⟨w.heap.size + 1, 0, none⟩)) (by rfl) rfl ?_ ?_
   ·go_simp
    try rfl
   exact hK.out _ _ (step_ 2 HR.out rfl rfl hb_ (Below.refl _ _) hG rfl (fun h => by cases h) (fun _ => HH) rfl)
  refine steps_cons ?_ ?_
  ·rintro b a w' ⟨ms, hR⟩ hb_ hon hoff
   obtain ⟨ha, hF, hD, hG, _⟩ := id hR
   have hG1 := hG
   rw [hGd] at hG1
   obtain ⟨_, _, _, Bx4, _, _⟩ := hG1
   have HH := hR.2.2.2.2 (hoff 23 (by kernel_rfl))
   refine ⟨_, rfl, fun K hK => ?_⟩
   have e9 : a.tmps[9]? = some (.pointer (some ⟨w.heap.size + 1, 0, none⟩)) := (on_ 2 ha rfl (hon 2 (by kernel_rfl)) rfl).trans (congrArg some (hF 2 (hon 2 (by kernel_rfl))))
   have hc : w'.cell? ⟨w.heap.size + 1, 0, none⟩ = some (.int .i64 b0) := (blk_cell Bx4 0).trans rfl
   have HR := Aside0.mk hR
   clear hR ha hF
   refine value_ (w1 := w') (v := .int .i64 b0) (by rfl) rfl ?_ ?_
   ·go_simp
    (try simp only [i64_w])
    try rfl
   exact hK.out _ _ (step_ 3 HR.out rfl rfl hb_ (Below.refl _ _) hG rfl (fun h => by cases h) (fun _ => HH) rfl)
  refine steps_cons ?_ ?_
  ·rintro b a w' ⟨ms, hR⟩ hb_ hon hoff
   obtain ⟨ha, hF, hD, hG, _⟩ := id hR
   have HH := hR.2.2.2.2 (hoff 23 (by kernel_rfl))
   refine ⟨_, rfl, fun K hK => ?_⟩
   have e8 : a.tmps[8]? = some (.int .i64 a0) := (on_ 1 ha rfl (hon 1 (by kernel_rfl)) rfl).trans (congrArg some (hF 1 (hon 1 (by kernel_rfl))))
   have e10 : a.tmps[10]? = some (.int .i64 b0) := (on_ 3 ha rfl (hon 3 (by kernel_rfl)) rfl).trans (congrArg some (hF 3 (hon 3 (by kernel_rfl))))
   refine goes_ Try.func31 (by kernel_rfl) rfl #[.int .i64 a0, .int .i64 b0] (by rfl) rfl rfl (by first | (simp only [List.map_toArray, List.map_cons, List.map_nil, Act.eval, Array.getD_eq_getD_getElem?, Option.getD_some, e8, e10]; done) | (simp only [List.map_toArray, List.map_cons, List.map_nil, Act.eval, Array.getD_eq_getD_getElem?, Option.getD_some, e8, e10]; rfl)) ?_
   with_reducible refine (diff_c a0 b0 h_a0 h_b0 _).mono ?_
   rintro e w1 ⟨r, rfl, hN, hb⟩
   exact ⟨_, rfl, hK.out _ _ (step_ 4 hR rfl rfl hb_ hb (GM _ _ hG hb) hN (fun h => by cases h) (fun _ => HM _ _ HH hb) rfl)⟩
  refine steps_cons ?_ ?_
  ·rintro b a w' ⟨ms, hR⟩ hb_ hon hoff
   obtain ⟨ha, hF, hD, hG, _⟩ := id hR
   have HH := hR.2.2.2.2 (hoff 23 (by kernel_rfl))
   refine ⟨_, rfl, fun K hK => ?_⟩
   have e3 : a.tmps[3]? = some (.pointer (some ⟨w.heap.size, 0, none⟩)) := (off_ ha rfl).trans rfl
   have HR := Aside0.mk hR
   clear hR ha hF
   refine value_ (w1 := w') (v := .pointer (some ⟨w.heap.size, 1, none⟩)) (by rfl) rfl ?_ ?_
   ·go_simp
    try rfl
   exact hK.out _ _ (step_ 5 HR.out rfl rfl hb_ (Below.refl _ _) hG rfl (fun h => by cases h) (fun _ => HH) rfl)
  refine steps_cons ?_ ?_
  ·rintro b a w' ⟨ms, hR⟩ hb_ hon hoff
   obtain ⟨ha, hF, hD, hG, _⟩ := id hR
   have hG1 := hG
   rw [hGd] at hG1
   obtain ⟨_, _, Bx3, _, _, _⟩ := hG1
   have HH := hR.2.2.2.2 (hoff 23 (by kernel_rfl))
   refine ⟨_, rfl, fun K hK => ?_⟩
   have e12 : a.tmps[12]? = some (.pointer (some ⟨w.heap.size, 1, none⟩)) := (on_ 5 ha rfl (hon 5 (by kernel_rfl)) rfl).trans (congrArg some (hF 5 (hon 5 (by kernel_rfl))))
   have hc : w'.cell? ⟨w.heap.size, 1, none⟩ = some (.int .i64 a1) := (blk_cell Bx3 1).trans rfl
   have HR := Aside0.mk hR
   clear hR ha hF
   refine value_ (w1 := w') (v := .int .i64 a1) (by rfl) rfl ?_ ?_
   ·go_simp
    (try simp only [i64_w])
    try rfl
   exact hK.out _ _ (step_ 6 HR.out rfl rfl hb_ (Below.refl _ _) hG rfl (fun h => by cases h) (fun _ => HH) rfl)
  refine steps_cons ?_ ?_
  ·rintro b a w' ⟨ms, hR⟩ hb_ hon hoff
   obtain ⟨ha, hF, hD, hG, _⟩ := id hR
   have HH := hR.2.2.2.2 (hoff 23 (by kernel_rfl))
   refine ⟨_, rfl, fun K hK => ?_⟩
   have e5 : a.tmps[5]? = some (.pointer (some ⟨w.heap.size + 1 + 1, 0, none⟩)) := (off_ ha rfl).trans rfl
   have HR := Aside0.mk hR
   clear hR ha hF
   refine value_ (w1 := w') (v := .pointer (some ⟨w.heap.size + 1 + 1, 1, none⟩)) (by rfl) rfl ?_ ?_
   ·go_simp
    try rfl
   exact hK.out _ _ (step_ 7 HR.out rfl rfl hb_ (Below.refl _ _) hG rfl (fun h => by cases h) (fun _ => HH) rfl)
  refine steps_cons ?_ ?_
  ·rintro b a w' ⟨ms, hR⟩ hb_ hon hoff
   obtain ⟨ha, hF, hD, hG, _⟩ := id hR
   have hG1 := hG
   rw [hGd] at hG1
   obtain ⟨_, _, _, _, Bx5, _⟩ := hG1
   have HH := hR.2.2.2.2 (hoff 23 (by kernel_rfl))
   refine ⟨_, rfl, fun K hK => ?_⟩
   have e14 : a.tmps[14]? = some (.pointer (some ⟨w.heap.size + 1 + 1, 1, none⟩)) := (on_ 7 ha rfl (hon 7 (by kernel_rfl)) rfl).trans (congrArg some (hF 7 (hon 7 (by kernel_rfl))))
   have hc : w'.cell? ⟨w.heap.size + 1 + 1, 1, none⟩ = some (.int .i64 c1) := (blk_cell Bx5 1).trans rfl
   have HR := Aside0.mk hR
   clear hR ha hF
   refine value_ (w1 := w') (v := .int .i64 c1) (by rfl) rfl ?_ ?_
   ·go_simp
    (try simp only [i64_w])
    try rfl
   exact hK.out _ _ (step_ 8 HR.out rfl rfl hb_ (Below.refl _ _) hG rfl (fun h => by cases h) (fun _ => HH) rfl)
  refine steps_cons ?_ ?_
  ·rintro b a w' ⟨ms, hR⟩ hb_ hon hoff
   obtain ⟨ha, hF, hD, hG, _⟩ := id hR
   have HH := hR.2.2.2.2 (hoff 23 (by kernel_rfl))
   refine ⟨_, rfl, fun K hK => ?_⟩
   have e13 : a.tmps[13]? = some (.int .i64 a1) := (on_ 6 ha rfl (hon 6 (by kernel_rfl)) rfl).trans (congrArg some (hF 6 (hon 6 (by kernel_rfl))))
   have e15 : a.tmps[15]? = some (.int .i64 c1) := (on_ 8 ha rfl (hon 8 (by kernel_rfl)) rfl).trans (congrArg some (hF 8 (hon 8 (by kernel_rfl))))
   refine goes_ Try.func31 (by kernel_rfl) rfl #[.int .i64 a1, .int .i64 c1] (by rfl) rfl rfl (by first | (simp only [List.map_toArray, List.map_cons, List.map_nil, Act.eval, Array.getD_eq_getD_getElem?, Option.getD_some, e13, e15]; done) | (simp only [List.map_toArray, List.map_cons, List.map_nil, Act.eval, Array.getD_eq_getD_getElem?, Option.getD_some, e13, e15]; rfl)) ?_
   with_reducible refine (diff_c a1 c1 h_a1 h_c1 _).mono ?_
   rintro e w1 ⟨r, rfl, hN, hb⟩
   exact ⟨_, rfl, hK.out _ _ (step_ 9 hR rfl rfl hb_ hb (GM _ _ hG hb) hN (fun h => by cases h) (fun _ => HM _ _ HH hb) rfl)⟩
  refine steps_cons ?_ ?_
  ·rintro b a w' ⟨ms, hR⟩ hb_ hon hoff
   obtain ⟨ha, hF, hD, hG, _⟩ := id hR
   have HH := hR.2.2.2.2 (hoff 23 (by kernel_rfl))
   refine ⟨_, rfl, fun K hK => ?_⟩
   have e11 : a.tmps[11]? = some (ms 4) := on_ 4 ha rfl (hon 4 (by kernel_rfl)) rfl
   have q4 : NI w' (ms 4) (b0 - a0) := hF 4 (hon 4 (by kernel_rfl))
   have e16 : a.tmps[16]? = some (ms 9) := on_ 9 ha rfl (hon 9 (by kernel_rfl)) rfl
   have q9 : NI w' (ms 9) (c1 - a1) := hF 9 (hon 9 (by kernel_rfl))
   refine goes_ Try.func32 (by kernel_rfl) rfl #[ms 4, ms 9] (by rfl) rfl rfl (by first | (simp only [List.map_toArray, List.map_cons, List.map_nil, Act.eval, Array.getD_eq_getD_getElem?, Option.getD_some, e11, e16]; done) | (simp only [List.map_toArray, List.map_cons, List.map_nil, Act.eval, Array.getD_eq_getD_getElem?, Option.getD_some, e11, e16]; rfl)) ?_
   with_reducible refine (mul_c _ _ (b0 - a0) (c1 - a1) s1 s2 _ (q4) (q9)).mono ?_
   rintro e w1 ⟨r, rfl, hN, hb⟩
   exact ⟨_, rfl, hK.out _ _ (step_ 10 hR rfl rfl hb_ hb (GM _ _ hG hb) hN (fun h => by cases h) (fun _ => HM _ _ HH hb) rfl)⟩
  refine steps_cons ?_ ?_
  ·rintro b a w' ⟨ms, hR⟩ hb_ hon hoff
   obtain ⟨ha, hF, hD, hG, _⟩ := id hR
   have HH := hR.2.2.2.2 (hoff 23 (by kernel_rfl))
   refine ⟨_, rfl, fun K hK => ?_⟩
   have e3 : a.tmps[3]? = some (.pointer (some ⟨w.heap.size, 0, none⟩)) := (off_ ha rfl).trans rfl
   have HR := Aside0.mk hR
   clear hR ha hF
   refine value_ (w1 := w') (v := .pointer (some ⟨w.heap.size, 1, none⟩)) (by rfl) rfl ?_ ?_
   ·go_simp
    try rfl
   exact hK.out _ _ (step_ 11 HR.out rfl rfl hb_ (Below.refl _ _) hG rfl (fun h => by cases h) (fun _ => HH) rfl)
  refine steps_cons ?_ ?_
  ·rintro b a w' ⟨ms, hR⟩ hb_ hon hoff
   obtain ⟨ha, hF, hD, hG, _⟩ := id hR
   have hG1 := hG
   rw [hGd] at hG1
   obtain ⟨_, _, Bx3, _, _, _⟩ := hG1
   have HH := hR.2.2.2.2 (hoff 23 (by kernel_rfl))
   refine ⟨_, rfl, fun K hK => ?_⟩
   have e18 : a.tmps[18]? = some (.pointer (some ⟨w.heap.size, 1, none⟩)) := (on_ 11 ha rfl (hon 11 (by kernel_rfl)) rfl).trans (congrArg some (hF 11 (hon 11 (by kernel_rfl))))
   have hc : w'.cell? ⟨w.heap.size, 1, none⟩ = some (.int .i64 a1) := (blk_cell Bx3 1).trans rfl
   have HR := Aside0.mk hR
   clear hR ha hF
   refine value_ (w1 := w') (v := .int .i64 a1) (by rfl) rfl ?_ ?_
   ·go_simp
    (try simp only [i64_w])
    try rfl
   exact hK.out _ _ (step_ 12 HR.out rfl rfl hb_ (Below.refl _ _) hG rfl (fun h => by cases h) (fun _ => HH) rfl)
  refine steps_cons ?_ ?_
  ·rintro b a w' ⟨ms, hR⟩ hb_ hon hoff
   obtain ⟨ha, hF, hD, hG, _⟩ := id hR
   have HH := hR.2.2.2.2 (hoff 23 (by kernel_rfl))
   refine ⟨_, rfl, fun K hK => ?_⟩
   have e4 : a.tmps[4]? = some (.pointer (some ⟨w.heap.size + 1, 0, none⟩)) := (off_ ha rfl).trans rfl
   have HR := Aside0.mk hR
   clear hR ha hF
   refine value_ (w1 := w') (v := .pointer (some ⟨w.heap.size + 1, 1, none⟩)) (by rfl) rfl ?_ ?_
   ·go_simp
    try rfl
   exact hK.out _ _ (step_ 13 HR.out rfl rfl hb_ (Below.refl _ _) hG rfl (fun h => by cases h) (fun _ => HH) rfl)
  refine steps_cons ?_ ?_
  ·rintro b a w' ⟨ms, hR⟩ hb_ hon hoff
   obtain ⟨ha, hF, hD, hG, _⟩ := id hR
   have hG1 := hG
   rw [hGd] at hG1
   obtain ⟨_, _, _, Bx4, _, _⟩ := hG1
   have HH := hR.2.2.2.2 (hoff 23 (by kernel_rfl))
   refine ⟨_, rfl, fun K hK => ?_⟩
   have e20 : a.tmps[20]? = some (.pointer (some ⟨w.heap.size + 1, 1, none⟩)) := (on_ 13 ha rfl (hon 13 (by kernel_rfl)) rfl).trans (congrArg some (hF 13 (hon 13 (by kernel_rfl))))
   have hc : w'.cell? ⟨w.heap.size + 1, 1, none⟩ = some (.int .i64 b1) := (blk_cell Bx4 1).trans rfl
   have HR := Aside0.mk hR
   clear hR ha hF
   refine value_ (w1 := w') (v := .int .i64 b1) (by rfl) rfl ?_ ?_
   ·go_simp
    (try simp only [i64_w])
    try rfl
   exact hK.out _ _ (step_ 14 HR.out rfl rfl hb_ (Below.refl _ _) hG rfl (fun h => by cases h) (fun _ => HH) rfl)
  refine steps_cons ?_ ?_
  ·rintro b a w' ⟨ms, hR⟩ hb_ hon hoff
   obtain ⟨ha, hF, hD, hG, _⟩ := id hR
   have HH := hR.2.2.2.2 (hoff 23 (by kernel_rfl))
   refine ⟨_, rfl, fun K hK => ?_⟩
   have e19 : a.tmps[19]? = some (.int .i64 a1) := (on_ 12 ha rfl (hon 12 (by kernel_rfl)) rfl).trans (congrArg some (hF 12 (hon 12 (by kernel_rfl))))
   have e21 : a.tmps[21]? = some (.int .i64 b1) := (on_ 14 ha rfl (hon 14 (by kernel_rfl)) rfl).trans (congrArg some (hF 14 (hon 14 (by kernel_rfl))))
   refine goes_ Try.func31 (by kernel_rfl) rfl #[.int .i64 a1, .int .i64 b1] (by rfl) rfl rfl (by first | (simp only [List.map_toArray, List.map_cons, List.map_nil, Act.eval, Array.getD_eq_getD_getElem?, Option.getD_some, e19, e21]; done) | (simp only [List.map_toArray, List.map_cons, List.map_nil, Act.eval, Array.getD_eq_getD_getElem?, Option.getD_some, e19, e21]; rfl)) ?_
   with_reducible refine (diff_c a1 b1 h_a1 h_b1 _).mono ?_
   rintro e w1 ⟨r, rfl, hN, hb⟩
   exact ⟨_, rfl, hK.out _ _ (step_ 15 hR rfl rfl hb_ hb (GM _ _ hG hb) hN (fun h => by cases h) (fun _ => HM _ _ HH hb) rfl)⟩
  refine steps_cons ?_ ?_
  ·rintro b a w' ⟨ms, hR⟩ hb_ hon hoff
   obtain ⟨ha, hF, hD, hG, _⟩ := id hR
   have HH := hR.2.2.2.2 (hoff 23 (by kernel_rfl))
   refine ⟨_, rfl, fun K hK => ?_⟩
   have e3 : a.tmps[3]? = some (.pointer (some ⟨w.heap.size, 0, none⟩)) := (off_ ha rfl).trans rfl
   have HR := Aside0.mk hR
   clear hR ha hF
   refine value_ (w1 := w') (v := .pointer (some ⟨w.heap.size, 0, none⟩)) (by rfl) rfl ?_ ?_
   ·go_simp
    try rfl
   exact hK.out _ _ (step_ 16 HR.out rfl rfl hb_ (Below.refl _ _) hG rfl (fun h => by cases h) (fun _ => HH) rfl)
  refine steps_cons ?_ ?_
  ·rintro b a w' ⟨ms, hR⟩ hb_ hon hoff
   obtain ⟨ha, hF, hD, hG, _⟩ := id hR
   have hG1 := hG
   rw [hGd] at hG1
   obtain ⟨_, _, Bx3, _, _, _⟩ := hG1
   have HH := hR.2.2.2.2 (hoff 23 (by kernel_rfl))
   refine ⟨_, rfl, fun K hK => ?_⟩
   have e23 : a.tmps[23]? = some (.pointer (some ⟨w.heap.size, 0, none⟩)) := (on_ 16 ha rfl (hon 16 (by kernel_rfl)) rfl).trans (congrArg some (hF 16 (hon 16 (by kernel_rfl))))
   have hc : w'.cell? ⟨w.heap.size, 0, none⟩ = some (.int .i64 a0) := (blk_cell Bx3 0).trans rfl
   have HR := Aside0.mk hR
   clear hR ha hF
   refine value_ (w1 := w') (v := .int .i64 a0) (by rfl) rfl ?_ ?_
   ·go_simp
    (try simp only [i64_w])
    try rfl
   exact hK.out _ _ (step_ 17 HR.out rfl rfl hb_ (Below.refl _ _) hG rfl (fun h => by cases h) (fun _ => HH) rfl)
  refine steps_cons ?_ ?_
  ·rintro b a w' ⟨ms, hR⟩ hb_ hon hoff
   obtain ⟨ha, hF, hD, hG, _⟩ := id hR
   have HH := hR.2.2.2.2 (hoff 23 (by kernel_rfl))
   refine ⟨_, rfl, fun K hK => ?_⟩
   have e5 : a.tmps[5]? = some (.pointer (some ⟨w.heap.size + 1 + 1, 0, none⟩)) := (off_ ha rfl).trans rfl
   have HR := Aside0.mk hR
   clear hR ha hF
   refine value_ (w1 := w') (v := .pointer (some ⟨w.heap.size + 1 + 1, 0, none⟩)) (by rfl) rfl ?_ ?_
   ·go_simp
    try rfl
   exact hK.out _ _ (step_ 18 HR.out rfl rfl hb_ (Below.refl _ _) hG rfl (fun h => by cases h) (fun _ => HH) rfl)
  refine steps_cons ?_ ?_
  ·rintro b a w' ⟨ms, hR⟩ hb_ hon hoff
   obtain ⟨ha, hF, hD, hG, _⟩ := id hR
   have hG1 := hG
   rw [hGd] at hG1
   obtain ⟨_, _, _, _, Bx5, _⟩ := hG1
   have HH := hR.2.2.2.2 (hoff 23 (by kernel_rfl))
   refine ⟨_, rfl, fun K hK => ?_⟩
   have e25 : a.tmps[25]? = some (.pointer (some ⟨w.heap.size + 1 + 1, 0, none⟩)) := (on_ 18 ha rfl (hon 18 (by kernel_rfl)) rfl).trans (congrArg some (hF 18 (hon 18 (by kernel_rfl))))
   have hc : w'.cell? ⟨w.heap.size + 1 + 1, 0, none⟩ = some (.int .i64 c0) := (blk_cell Bx5 0).trans rfl
   have HR := Aside0.mk hR
   clear hR ha hF
   refine value_ (w1 := w') (v := .int .i64 c0) (by rfl) rfl ?_ ?_
   ·go_simp
    (try simp only [i64_w])
    try rfl
   exact hK.out _ _ (step_ 19 HR.out rfl rfl hb_ (Below.refl _ _) hG rfl (fun h => by cases h) (fun _ => HH) rfl)
  refine steps_cons ?_ ?_
  ·rintro b a w' ⟨ms, hR⟩ hb_ hon hoff
   obtain ⟨ha, hF, hD, hG, _⟩ := id hR
   have HH := hR.2.2.2.2 (hoff 23 (by kernel_rfl))
   refine ⟨_, rfl, fun K hK => ?_⟩
   have e24 : a.tmps[24]? = some (.int .i64 a0) := (on_ 17 ha rfl (hon 17 (by kernel_rfl)) rfl).trans (congrArg some (hF 17 (hon 17 (by kernel_rfl))))
   have e26 : a.tmps[26]? = some (.int .i64 c0) := (on_ 19 ha rfl (hon 19 (by kernel_rfl)) rfl).trans (congrArg some (hF 19 (hon 19 (by kernel_rfl))))
   refine goes_ Try.func31 (by kernel_rfl) rfl #[.int .i64 a0, .int .i64 c0] (by rfl) rfl rfl (by first | (simp only [List.map_toArray, List.map_cons, List.map_nil, Act.eval, Array.getD_eq_getD_getElem?, Option.getD_some, e24, e26]; done) | (simp only [List.map_toArray, List.map_cons, List.map_nil, Act.eval, Array.getD_eq_getD_getElem?, Option.getD_some, e24, e26]; rfl)) ?_
   with_reducible refine (diff_c a0 c0 h_a0 h_c0 _).mono ?_
   rintro e w1 ⟨r, rfl, hN, hb⟩
   exact ⟨_, rfl, hK.out _ _ (step_ 20 hR rfl rfl hb_ hb (GM _ _ hG hb) hN (fun h => by cases h) (fun _ => HM _ _ HH hb) rfl)⟩
  refine steps_cons ?_ ?_
  ·rintro b a w' ⟨ms, hR⟩ hb_ hon hoff
   obtain ⟨ha, hF, hD, hG, _⟩ := id hR
   have HH := hR.2.2.2.2 (hoff 23 (by kernel_rfl))
   refine ⟨_, rfl, fun K hK => ?_⟩
   have e22 : a.tmps[22]? = some (ms 15) := on_ 15 ha rfl (hon 15 (by kernel_rfl)) rfl
   have q15 : NI w' (ms 15) (b1 - a1) := hF 15 (hon 15 (by kernel_rfl))
   have e27 : a.tmps[27]? = some (ms 20) := on_ 20 ha rfl (hon 20 (by kernel_rfl)) rfl
   have q20 : NI w' (ms 20) (c0 - a0) := hF 20 (hon 20 (by kernel_rfl))
   refine goes_ Try.func32 (by kernel_rfl) rfl #[ms 15, ms 20] (by rfl) rfl rfl (by first | (simp only [List.map_toArray, List.map_cons, List.map_nil, Act.eval, Array.getD_eq_getD_getElem?, Option.getD_some, e22, e27]; done) | (simp only [List.map_toArray, List.map_cons, List.map_nil, Act.eval, Array.getD_eq_getD_getElem?, Option.getD_some, e22, e27]; rfl)) ?_
   with_reducible refine (mul_c _ _ (b1 - a1) (c0 - a0) s3 s4 _ (q15) (q20)).mono ?_
   rintro e w1 ⟨r, rfl, hN, hb⟩
   exact ⟨_, rfl, hK.out _ _ (step_ 21 hR rfl rfl hb_ hb (GM _ _ hG hb) hN (fun h => by cases h) (fun _ => HM _ _ HH hb) rfl)⟩
  refine steps_cons ?_ ?_
  ·rintro b a w' ⟨ms, hR⟩ hb_ hon hoff
   obtain ⟨ha, hF, hD, hG, _⟩ := id hR
   have HH := hR.2.2.2.2 (hoff 23 (by kernel_rfl))
   refine ⟨_, rfl, fun K hK => ?_⟩
   have e17 : a.tmps[17]? = some (ms 10) := on_ 10 ha rfl (hon 10 (by kernel_rfl)) rfl
   have q10 : NI w' (ms 10) ((b0 - a0) * (c1 - a1)) := hF 10 (hon 10 (by kernel_rfl))
   have e28 : a.tmps[28]? = some (ms 21) := on_ 21 ha rfl (hon 21 (by kernel_rfl)) rfl
   have q21 : NI w' (ms 21) ((b1 - a1) * (c0 - a0)) := hF 21 (hon 21 (by kernel_rfl))
   refine goes_ Try.func34 (by kernel_rfl) rfl #[ms 10, ms 21] (by rfl) rfl rfl (by first | (simp only [List.map_toArray, List.map_cons, List.map_nil, Act.eval, Array.getD_eq_getD_getElem?, Option.getD_some, e17, e28]; done) | (simp only [List.map_toArray, List.map_cons, List.map_nil, Act.eval, Array.getD_eq_getD_getElem?, Option.getD_some, e17, e28]; rfl)) ?_
   with_reducible refine (sub_c _ _ ((b0 - a0) * (c1 - a1)) ((b1 - a1) * (c0 - a0)) s5 s6 _ (q10) (q21)).mono ?_
   rintro e w1 ⟨r, rfl, hN, hb⟩
   exact ⟨_, rfl, hK.out _ _ (step_ 22 hR rfl rfl hb_ hb (GM _ _ hG hb) hN (fun h => by cases h) (fun _ => HM _ _ HH hb) rfl)⟩
  refine steps_cons ?_ ?_
  ·rintro b a w' ⟨ms, hR⟩ hb_ hon hoff
   obtain ⟨ha, hF, hD, hG, _⟩ := id hR
   have hG1 := hG
   rw [hGd] at hG1
   obtain ⟨_, _, _, _, _, Rs⟩ := hG1
   refine ⟨_, rfl, fun K hK => ?_⟩
   have hn := hF 22 (hon 22 (by kernel_rfl))
   obtain ⟨sz, Az, lz, cz, ev⟩ := NI.shape hn
   have e29 : a.tmps[29]? = some (.agg #[.int .i64 sz, .slice Az lz cz]) := (on_ 22 ha rfl (hon 22 (by kernel_rfl)) rfl).trans (congrArg some ev)
   have e6 : a.tmps[6]? = some (.pointer (some ⟨w.heap.size + 1 + 1 + 1, 0, none⟩)) := (off_ ha rfl).trans rfl
   obtain ⟨x0, y0, hgh⟩ := Rs
   have h0 : w'.cell? ⟨w.heap.size + 1 + 1 + 1, 0, none⟩ = some x0 := (blk_cell hgh 0).trans rfl
   have h1 : w'.cell? ⟨w.heap.size + 1 + 1 + 1, 1, none⟩ = some y0 := (blk_cell hgh 1).trans rfl
   have f0 := blk_frozen hgh 0
   have f1 := blk_frozen hgh 1
   have HR := Aside0.mk hR
   clear hR ha
   refine skip_ (w1 := ?_) (by rfl) rfl ?_ ?_
   rotate_left
   ·go_simp
    rfl
   exact hK.out _ _ (fin_ HR.out rfl (hall_ (by kernel_rfl) hon) rfl hb_ rfl hgh (by show w.heap.size + 1 + 1 + 1 < w.heap.size + 1 + 1 + 1 + 1; omega) ⟨_, _, blk_put (blk_put hgh 0 _ rfl) 1 _ rfl, by rw [← ev]; exact NI.store (NI.store hn hgh (by decide) 0 _) (blk_put hgh 0 _ rfl) (by decide) 1 _⟩ (GR _ _ _ _ _ hG hgh) rfl)
  exact steps_nil
 rintro b a V hall ⟨ms, ha, hF, hD, hG, _⟩
 rw [hGd] at hG
 obtain ⟨HBl, HSz, Bx3, Bx4, Bx5, Rs⟩ := hG
 have bb1_0 := hall 0 (by kernel_rfl)
 have bb1_1 := hall 1 (by kernel_rfl)
 have bb1_2 := hall 2 (by kernel_rfl)
 have bb1_3 := hall 3 (by kernel_rfl)
 have bb1_4 := hall 4 (by kernel_rfl)
 have bb1_5 := hall 5 (by kernel_rfl)
 have bb1_6 := hall 6 (by kernel_rfl)
 have bb1_7 := hall 7 (by kernel_rfl)
 have bb1_8 := hall 8 (by kernel_rfl)
 have bb1_9 := hall 9 (by kernel_rfl)
 have bb1_10 := hall 10 (by kernel_rfl)
 have bb1_11 := hall 11 (by kernel_rfl)
 have bb1_12 := hall 12 (by kernel_rfl)
 have bb1_13 := hall 13 (by kernel_rfl)
 have bb1_14 := hall 14 (by kernel_rfl)
 have bb1_15 := hall 15 (by kernel_rfl)
 have bb1_16 := hall 16 (by kernel_rfl)
 have bb1_17 := hall 17 (by kernel_rfl)
 have bb1_18 := hall 18 (by kernel_rfl)
 have bb1_19 := hall 19 (by kernel_rfl)
 have bb1_20 := hall 20 (by kernel_rfl)
 have bb1_21 := hall 21 (by kernel_rfl)
 have bb1_22 := hall 22 (by kernel_rfl)
 have bb1_23 := hall 23 (by kernel_rfl)
 have m1_0 : ms 0 = .pointer (some ⟨w.heap.size, 0, none⟩) := hF 0 bb1_0
 have m1_1 : ms 1 = .int .i64 a0 := hF 1 bb1_1
 have m1_2 : ms 2 = .pointer (some ⟨w.heap.size + 1, 0, none⟩) := hF 2 bb1_2
 have m1_3 : ms 3 = .int .i64 b0 := hF 3 bb1_3
 have m1_4 : NI V (ms 4) (b0 - a0) := hF 4 bb1_4
 have m1_5 : ms 5 = .pointer (some ⟨w.heap.size, 1, none⟩) := hF 5 bb1_5
 have m1_6 : ms 6 = .int .i64 a1 := hF 6 bb1_6
 have m1_7 : ms 7 = .pointer (some ⟨w.heap.size + 1 + 1, 1, none⟩) := hF 7 bb1_7
 have m1_8 : ms 8 = .int .i64 c1 := hF 8 bb1_8
 have m1_9 : NI V (ms 9) (c1 - a1) := hF 9 bb1_9
 have m1_10 : NI V (ms 10) ((b0 - a0) * (c1 - a1)) := hF 10 bb1_10
 have m1_11 : ms 11 = .pointer (some ⟨w.heap.size, 1, none⟩) := hF 11 bb1_11
 have m1_12 : ms 12 = .int .i64 a1 := hF 12 bb1_12
 have m1_13 : ms 13 = .pointer (some ⟨w.heap.size + 1, 1, none⟩) := hF 13 bb1_13
 have m1_14 : ms 14 = .int .i64 b1 := hF 14 bb1_14
 have m1_15 : NI V (ms 15) (b1 - a1) := hF 15 bb1_15
 have m1_16 : ms 16 = .pointer (some ⟨w.heap.size, 0, none⟩) := hF 16 bb1_16
 have m1_17 : ms 17 = .int .i64 a0 := hF 17 bb1_17
 have m1_18 : ms 18 = .pointer (some ⟨w.heap.size + 1 + 1, 0, none⟩) := hF 18 bb1_18
 have m1_19 : ms 19 = .int .i64 c0 := hF 19 bb1_19
 have m1_20 : NI V (ms 20) (c0 - a0) := hF 20 bb1_20
 have m1_21 : NI V (ms 21) ((b1 - a1) * (c0 - a0)) := hF 21 bb1_21
 have m1_22 : NI V (ms 22) (((b0 - a0) * (c1 - a1)) - ((b1 - a1) * (c0 - a0))) := hF 22 bb1_22
 obtain ⟨_, x1_23, y1_23, h1_23, m1_23⟩ := hF 23 bb1_23
 subst ha
 simp only [ent, List.map_cons, List.map_nil, putSel, bb1_0, bb1_1, bb1_2, bb1_3, bb1_4, bb1_5, bb1_6, bb1_7, bb1_8, bb1_9, bb1_10, bb1_11, bb1_12, bb1_13, bb1_14, bb1_15, bb1_16, bb1_17, bb1_18, bb1_19, bb1_20, bb1_21, bb1_22, m1_0, m1_1, m1_2, m1_3, m1_5, m1_6, m1_7, m1_8, m1_11, m1_12, m1_13, m1_14, m1_16, m1_17, m1_18, m1_19, if_true, Act.put, List.setIfInBounds_toArray, List.set_cons_zero, List.set_cons_succ]
 clear hF hD bb1_0 bb1_1 bb1_2 bb1_3 bb1_4 bb1_5 bb1_6 bb1_7 bb1_8 bb1_9 bb1_10 bb1_11 bb1_12 bb1_13 bb1_14 bb1_15 bb1_16 bb1_17 bb1_18 bb1_19 bb1_20 bb1_21 bb1_22 bb1_23
 go_wp2
 refine bodyPost_ret (results_cell_row rfl _ _ (w.heap.size + 1 + 1 + 1) 42 #[x1_23, y1_23] (0, 0) _ rfl h1_23 Try.underlying42 rfl (by kernel_rfl)) rfl ?_
 exact ⟨_, rfl, m1_23, HBl⟩
def dist1.T : Bool × List (List Nat × List Nat) := (true, [([], []), ([0], [0]), ([], []), ([2], [2]), ([1, 3], [1, 3]), ([], []), ([5], [5]), ([], []), ([7], [7]), ([6, 8, 4], [6, 8]), ([], []), ([], []), ([10, 4, 9, 0, 1, 2, 3, 4, 10, 11], [4, 10]), ([11, 9, 12, 0, 1, 2, 3, 4, 5, 6, 7, 8, 9, 10, 11, 12], [9, 11])])
def dist1.B : List Nat := [0, 1, 0, 4, 15, 0, 32, 0, 128, 511, 0, 0, 4095, 8191]
theorem dist1.tab : rtab .any (opsOf Try.f33 1) = dist1.T := by kernel_rfl
theorem dist1.bits : waitsOk dist1.T.2 dist1.B = true := by kernel_rfl
def dist2.T : Bool × List (List Nat × List Nat) := (true, [([], []), ([], []), ([0, 1], [0, 1]), ([], []), ([], []), ([3, 4, 2], [3, 4]), ([2, 5, 5], [2, 5]), ([6, 6, 0, 1, 2, 3, 4, 5, 6], [6])])
def dist2.B : List Nat := [0, 0, 3, 0, 0, 31, 63, 127]
theorem dist2.tab : rtab .any (opsOf Try.f33 2) = dist2.T := by kernel_rfl
theorem dist2.bits : waitsOk dist2.T.2 dist2.B = true := by kernel_rfl
set_option maxHeartbeats 8000000 in
set_option maxRecDepth 100000 in
theorem dist_c {a0 a1 b0 b1 : Int} (ha : CoP a0 a1) (hb : CoP b0 b1) (w : World) :
  Calls Try.prog 33 #[.agg #[.int .i64 a0, .int .i64 a1], .agg #[.int .i64 b0, .int .i64 b1]] w fun e w' => ∃ r, e = .returned r ∧ NI w' r (ds a0 a1 b0 b1) ∧ Below w.heap.size w w' := by
 have x0 := hb.1.way ha.1; have x1 := hb.2.way ha.2
 have s1 := sm_am x0 (by omega); have s2 := sm_am x1 (by omega); have s3 := sm_am (Am.mul x0 x0) (by omega); have s4 := sm_am (Am.mul x1 x1) (by omega)
 have h_a0 := co_wf ha.1; have h_a1 := co_wf ha.2; have h_b0 := co_wf hb.1; have h_b1 := co_wf hb.2
 clear x0 x1
 unfold ds
 go_enter Try.func33, Try.ntmps33
 go_wp2_with fail
 obtain ⟨n0, n1, n2, bw, nw⟩ := three_new w (.cells #[.int .i64 a0, .int .i64 a1] 23) (.cells #[.int .i64 b0, .int .i64 b1] 23) (.cells #[.int .i64 0, .slice none 0 0] 42)
 generalize (((w.alloc (.cells #[.int .i64 a0, .int .i64 a1] 23)).alloc (.cells #[.int .i64 b0, .int .i64 b1] 23)).alloc (.cells #[.int .i64 0, .slice none 0 0] 42)) = W at n0 n1 n2 bw nw ⊢
 obtain ⟨G, hGd⟩ : ∃ G : World → Prop, G = (fun w' => Below w.heap.size w w' ∧ w.heap.size + 1 + 1 + 1 ≤ w'.heap.size ∧ w'.heap[w.heap.size]? = some (.cells #[.int .i64 a0, .int .i64 a1] 23 (0, 0)) ∧ w'.heap[w.heap.size + 1]? = some (.cells #[.int .i64 b0, .int .i64 b1] 23 (0, 0)) ∧ ∃ x y, w'.heap[w.heap.size + 1 + 1]? = some (.cells #[x, y] 42 (0, 0))) := ⟨_, rfl⟩
 have GM : ∀ w1 w2 : World, G w1 → Below w1.heap.size w1 w2 → G w2 := by
  subst hGd
  rintro w1 w2 ⟨HBl, HSz, Bx2, Bx3, Rs⟩ hb
  exact ⟨below_step HBl hb, Nat.le_trans HSz hb.size, blk_below Bx2 hb, blk_below Bx3 hb, (Rs.elim fun x h => h.elim fun y h => ⟨x, y, blk_below h hb⟩)⟩
 have HM : ∀ w1 w2 : World, (fun _ => True) w1 → Below w1.heap.size w1 w2 → (fun _ => True) w2 := fun _ _ _ _ => True.intro
 have GS : ∀ (w1 : World) (g : Nat) (x0 y0 x y : Value), G w1 → w1.heap[g]? = some (.cells #[x0, y0] 42 (0, 0)) → w.heap.size ≤ g → ((w.heap.size = g ∨ w.heap.size + 1 = g ∨ w.heap.size + 1 + 1 = g) → False) → G ((w1.setCell ⟨g, 0, none⟩ x).setCell ⟨g, 1, none⟩ y) := by
  subst hGd
  rintro w1 g x0 y0 x y ⟨HBl, HSz, Bx2, Bx3, Rs⟩ hgh hle hne
  exact ⟨below_set2 HBl hle _ _ _ _, (by simpa [World.setCell] using HSz), blk_far (blk_far Bx2 (fun e => hne (by simp [e])) _) (fun e => hne (by simp [e])) _, blk_far (blk_far Bx3 (fun e => hne (by simp [e])) _) (fun e => hne (by simp [e])) _, (Rs.elim fun x h => h.elim fun y h => ⟨x, y, blk_far (blk_far h (fun e => hne (by simp [e])) _) (fun e => hne (by simp [e])) _⟩)⟩
 refine start_ (n := 14) (S := fun w' => True) (ds := []) #[false, false, false, false, false, false, false, false, false, false, false, false, false, false] (by kernel_rfl) rfl rfl trivial (fun _ => ?_); refine with_tabW dist1.tab dist1.bits (fun HT_ HW_ => ?_)
 have hG0 : G W.drew := by subst hGd; exact ⟨below_drew bw, Nat.le_of_eq nw.symm, n0, n1, _, _, n2⟩
 generalize W.drew = W1 at hG0 ⊢
 refine inv_at [0, 1, 2, 3, 4, 5, 6, 7, 8, 9, 10, 11, 12, 13] (fun a0_ b a w' => Rg ⟨[0, 1, 2, 3, 4, 5, 6, 7, 8, 9, 10, 11, 12, 13], [(0, 7), (1, 8), (2, 9), (3, 10), (4, 11), (5, 12), (6, 13), (7, 14), (8, 15), (9, 16), (10, 5), (11, 6)], fun j => [.const (.pointer (some ⟨w.heap.size, 0, none⟩)), .const (.int .i64 a0), .const (.pointer (some ⟨w.heap.size + 1, 0, none⟩)), .const (.int .i64 b0), .ni (b0 - a0), .const (.pointer (some ⟨w.heap.size, 1, none⟩)), .const (.int .i64 a1), .const (.pointer (some ⟨w.heap.size + 1, 1, none⟩)), .const (.int .i64 b1), .ni (b1 - a1), .box, .box, .put 10 4, .put 11 9].getD j .box, w.heap.size + 1 + 1 + 1, 2, G, fun _ => True, 1000⟩ a0_ b a w') HT_.out HW_.out (by kernel_rfl) (by kernel_rfl) ?_ ?_ ?_
 ·exact rg0 hG0 True.intro
 ·refine steps_cons ?_ ?_
  ·rintro b a w' ⟨ms, hR⟩ hb_ hon hoff
   obtain ⟨ha, hF, hD, hG, _⟩ := id hR
   have HH := True.intro
   refine ⟨_, rfl, fun K hK => ?_⟩
   have e2 : a.tmps[2]? = some (.pointer (some ⟨w.heap.size, 0, none⟩)) := (off_ ha rfl).trans rfl
   have HR := Aside0.mk hR
   clear hR ha hF
   refine value_ (w1 := w') (v := .pointer (some ⟨w.heap.size, 0, none⟩)) (by rfl) rfl ?_ ?_
   ·go_simp
    try rfl
   exact hK.out _ _ (step_ 0 HR.out rfl rfl hb_ (Below.refl _ _) hG rfl (fun h => by cases h) (fun _ => HH) rfl)
  refine steps_cons ?_ ?_
  ·rintro b a w' ⟨ms, hR⟩ hb_ hon hoff
   obtain ⟨ha, hF, hD, hG, _⟩ := id hR
   have hG1 := hG
   rw [hGd] at hG1
   obtain ⟨_, _, Bx2, _, _⟩ := hG1
   have HH := True.intro
   refine ⟨_, rfl, fun K hK => ?_⟩
   have e7 : a.tmps[7]? = some (.pointer (some ⟨w.heap.size, 0, none⟩)) := (on_ 0 ha rfl (hon 0 (by kernel_rfl)) rfl).trans (congrArg some (hF 0 (hon 0 (by kernel_rfl))))
   have hc : w'.cell? ⟨w.heap.size, 0, none⟩ = some (.int .i64 a0) := (blk_cell Bx2 0).trans rfl
   have HR := Aside0.mk hR
   clear hR ha hF
   refine value_ (w1 := w') (v := .int .i64 a0) (by rfl) rfl ?_ ?_
   ·go_simp
    (try simp only [i64_w])
    try rfl
   exact hK.out _ _ (step_ 1 HR.out rfl rfl hb_ (Below.refl _ _) hG rfl (fun h => by cases h) (fun _ => HH) rfl)
  refine steps_cons ?_ ?_
  ·rintro b a w' ⟨ms, hR⟩ hb_ hon hoff
   obtain ⟨ha, hF, hD, hG, _⟩ := id hR
   have HH := True.intro
   refine ⟨_, rfl, fun K hK => ?_⟩
   have e3 : a.tmps[3]? = some (.pointer (some ⟨w.heap.size + 1, 0, none⟩)) := (off_ ha rfl).trans rfl
   have HR := Aside0.mk hR
   clear hR ha hF
   refine value_ (w1 := w') (v := .pointer (some ⟨w.heap.size + 1, 0, none⟩)) (by rfl) rfl ?_ ?_
   ·go_simp
    try rfl
   exact hK.out _ _ (step_ 2 HR.out rfl rfl hb_ (Below.refl _ _) hG rfl (fun h => by cases h) (fun _ => HH) rfl)
  refine steps_cons ?_ ?_
  ·rintro b a w' ⟨ms, hR⟩ hb_ hon hoff
   obtain ⟨ha, hF, hD, hG, _⟩ := id hR
   have hG1 := hG
   rw [hGd] at hG1
   obtain ⟨_, _, _, Bx3, _⟩ := hG1
   have HH := True.intro
   refine ⟨_, rfl, fun K hK => ?_⟩
   have e9 : a.tmps[9]? = some (.pointer (some ⟨w.heap.size + 1, 0, none⟩)) := (on_ 2 ha rfl (hon 2 (by kernel_rfl)) rfl).trans (congrArg some (hF 2 (hon 2 (by kernel_rfl))))
   have hc : w'.cell? ⟨w.heap.size + 1, 0, none⟩ = some (.int .i64 b0) := (blk_cell Bx3 0).trans rfl
   have HR := Aside0.mk hR
   clear hR ha hF
   refine value_ (w1 := w') (v := .int .i64 b0) (by rfl) rfl ?_ ?_
   ·go_simp
    (try simp only [i64_w])
    try rfl
   exact hK.out _ _ (step_ 3 HR.out rfl rfl hb_ (Below.refl _ _) hG rfl (fun h => by cases h) (fun _ => HH) rfl)
  refine steps_cons ?_ ?_
  ·rintro b a w' ⟨ms, hR⟩ hb_ hon hoff
   obtain ⟨ha, hF, hD, hG, _⟩ := id hR
   have HH := True.intro
   refine ⟨_, rfl, fun K hK => ?_⟩
   have e8 : a.tmps[8]? = some (.int .i64 a0) := (on_ 1 ha rfl (hon 1 (by kernel_rfl)) rfl).trans (congrArg some (hF 1 (hon 1 (by kernel_rfl))))
   have e10 : a.tmps[10]? = some (.int .i64 b0) := (on_ 3 ha rfl (hon 3 (by kernel_rfl)) rfl).trans (congrArg some (hF 3 (hon 3 (by kernel_rfl))))
   refine goes_ Try.func31 (by kernel_rfl) rfl #[.int .i64 a0, .int .i64 b0] (by rfl) rfl rfl (by first | (simp only [List.map_toArray, List.map_cons, List.map_nil, Act.eval, Array.getD_eq_getD_getElem?, Option.getD_some, e8, e10]; done) | (simp only [List.map_toArray, List.map_cons, List.map_nil, Act.eval, Array.getD_eq_getD_getElem?, Option.getD_some, e8, e10]; rfl)) ?_
   with_reducible refine (diff_c a0 b0 h_a0 h_b0 _).mono ?_
   rintro e w1 ⟨r, rfl, hN, hb⟩
   exact ⟨_, rfl, hK.out _ _ (step_ 4 hR rfl rfl hb_ hb (GM _ _ hG hb) hN (fun h => by cases h) (fun _ => HM _ _ HH hb) rfl)⟩
  refine steps_cons ?_ ?_
  ·rintro b a w' ⟨ms, hR⟩ hb_ hon hoff
   obtain ⟨ha, hF, hD, hG, _⟩ := id hR
   have HH := True.intro
   refine ⟨_, rfl, fun K hK => ?_⟩
   have e2 : a.tmps[2]? = some (.pointer (some ⟨w.heap.size, 0, none⟩)) := (off_ ha rfl).trans rfl
   have HR := Aside0.mk hR
   clear hR ha hF
   refine value_ (w1 := w') (v := .pointer (some ⟨w.heap.size, 1, none⟩)) (by rfl) rfl ?_ ?_
   ·go_simp
    try rfl
   exact hK.out _ _ (step_ 5 HR.out rfl rfl hb_ (Below.refl _ _) hG rfl (fun h => by cases h) (fun _ => HH) rfl)
  refine steps_cons ?_ ?_
  ·rintro b a w' ⟨ms, hR⟩ hb_ hon hoff
   obtain ⟨ha, hF, hD, hG, _⟩ := id hR
   have hG1 := hG
   rw [hGd] at hG1
   obtain ⟨_, _, Bx2, _, _⟩ := hG1
   have HH := True.intro
   refine ⟨_, rfl, fun K hK => ?_⟩
   have e12 : a.tmps[12]? = some (.pointer (some ⟨w.heap.size, 1, none⟩)) := (on_ 5 ha rfl (hon 5 (by kernel_rfl)) rfl).trans (congrArg some (hF 5 (hon 5 (by kernel_rfl))))
   have hc : w'.cell? ⟨w.heap.size, 1, none⟩ = some (.int .i64 a1) := (blk_cell Bx2 1).trans rfl
   have HR := Aside0.mk hR
   clear hR ha hF
   refine value_ (w1 := w') (v := .int .i64 a1) (by rfl) rfl ?_ ?_
   ·go_simp
    (try simp only [i64_w])
    try rfl
   exact hK.out _ _ (step_ 6 HR.out rfl rfl hb_ (Below.refl _ _) hG rfl (fun h => by cases h) (fun _ => HH) rfl)
  refine steps_cons ?_ ?_
  ·rintro b a w' ⟨ms, hR⟩ hb_ hon hoff
   obtain ⟨ha, hF, hD, hG, _⟩ := id hR
   have HH := True.intro
   refine ⟨_, rfl, fun K hK => ?_⟩
   have e3 : a.tmps[3]? = some (.pointer (some ⟨w.heap.size + 1, 0, none⟩)) := (off_ ha rfl).trans rfl
   have HR := Aside0.mk hR
   clear hR ha hF
   refine value_ (w1 := w') (v := .pointer (some ⟨w.heap.size + 1, 1, none⟩)) (by rfl) rfl ?_ ?_
   ·go_simp
    try rfl
   exact hK.out _ _ (step_ 7 HR.out rfl rfl hb_ (Below.refl _ _) hG rfl (fun h => by cases h) (fun _ => HH) rfl)
  refine steps_cons ?_ ?_
  ·rintro b a w' ⟨ms, hR⟩ hb_ hon hoff
   obtain ⟨ha, hF, hD, hG, _⟩ := id hR
   have hG1 := hG
   rw [hGd] at hG1
   obtain ⟨_, _, _, Bx3, _⟩ := hG1
   have HH := True.intro
   refine ⟨_, rfl, fun K hK => ?_⟩
   have e14 : a.tmps[14]? = some (.pointer (some ⟨w.heap.size + 1, 1, none⟩)) := (on_ 7 ha rfl (hon 7 (by kernel_rfl)) rfl).trans (congrArg some (hF 7 (hon 7 (by kernel_rfl))))
   have hc : w'.cell? ⟨w.heap.size + 1, 1, none⟩ = some (.int .i64 b1) := (blk_cell Bx3 1).trans rfl
   have HR := Aside0.mk hR
   clear hR ha hF
   refine value_ (w1 := w') (v := .int .i64 b1) (by rfl) rfl ?_ ?_
   ·go_simp
    (try simp only [i64_w])
    try rfl
   exact hK.out _ _ (step_ 8 HR.out rfl rfl hb_ (Below.refl _ _) hG rfl (fun h => by cases h) (fun _ => HH) rfl)
  refine steps_cons ?_ ?_
  ·rintro b a w' ⟨ms, hR⟩ hb_ hon hoff
   obtain ⟨ha, hF, hD, hG, _⟩ := id hR
   have HH := True.intro
   refine ⟨_, rfl, fun K hK => ?_⟩
   have e13 : a.tmps[13]? = some (.int .i64 a1) := (on_ 6 ha rfl (hon 6 (by kernel_rfl)) rfl).trans (congrArg some (hF 6 (hon 6 (by kernel_rfl))))
   have e15 : a.tmps[15]? = some (.int .i64 b1) := (on_ 8 ha rfl (hon 8 (by kernel_rfl)) rfl).trans (congrArg some (hF 8 (hon 8 (by kernel_rfl))))
   refine goes_ Try.func31 (by kernel_rfl) rfl #[.int .i64 a1, .int .i64 b1] (by rfl) rfl rfl (by first | (simp only [List.map_toArray, List.map_cons, List.map_nil, Act.eval, Array.getD_eq_getD_getElem?, Option.getD_some, e13, e15]; done) | (simp only [List.map_toArray, List.map_cons, List.map_nil, Act.eval, Array.getD_eq_getD_getElem?, Option.getD_some, e13, e15]; rfl)) ?_
   with_reducible refine (diff_c a1 b1 h_a1 h_b1 _).mono ?_
   rintro e w1 ⟨r, rfl, hN, hb⟩
   exact ⟨_, rfl, hK.out _ _ (step_ 9 hR rfl rfl hb_ hb (GM _ _ hG hb) hN (fun h => by cases h) (fun _ => HM _ _ HH hb) rfl)⟩
  refine steps_cons ?_ ?_
  ·rintro b a w' ⟨ms, hR⟩ hb_ hon hoff
   obtain ⟨ha, hF, hD, hG, _⟩ := id hR
   have hG1 := hG
   rw [hGd] at hG1
   obtain ⟨_, HSz, _, _, _⟩ := hG1
   have HH := True.intro
   refine ⟨_, rfl, fun K hK => ?_⟩
   refine box_step ?hg (N := 5) ?hd (cs := #[.int .i64 0, .slice none 0 0]) (t := 42) ?hr ?_; (case hd => rfl); (case hg => rfl); (case hr => first | (go_simp; done) | (go_simp; rfl))
   intro g hg w1 hbox hb
   exact hK.out _ _ (step_ 10 hR rfl rfl hb_ hb (GM _ _ hG hb) ⟨g, _, _, rfl, by rw [hg]; exact HSz, hbox⟩ (fun _ => by rw [hg]) (fun _ => HM _ _ HH hb) rfl)
  refine steps_cons ?_ ?_
  ·rintro b a w' ⟨ms, hR⟩ hb_ hon hoff
   obtain ⟨ha, hF, hD, hG, _⟩ := id hR
   have hG1 := hG
   rw [hGd] at hG1
   obtain ⟨_, HSz, _, _, _⟩ := hG1
   have HH := True.intro
   refine ⟨_, rfl, fun K hK => ?_⟩
   refine box_step ?hg (N := 6) ?hd (cs := #[.int .i64 0, .slice none 0 0]) (t := 42) ?hr ?_; (case hd => rfl); (case hg => rfl); (case hr => first | (go_simp; done) | (go_simp; rfl))
   intro g hg w1 hbox hb
   exact hK.out _ _ (step_ 11 hR rfl rfl hb_ hb (GM _ _ hG hb) ⟨g, _, _, rfl, by rw [hg]; exact HSz, hbox⟩ (fun _ => by rw [hg]) (fun _ => HM _ _ HH hb) rfl)
  refine steps_cons ?_ ?_
  ·rintro b a w' ⟨ms, hR⟩ hb_ hon hoff
   obtain ⟨ha, hF, hD, hG, _⟩ := id hR
   have HH := True.intro
   refine ⟨_, rfl, fun K hK => ?_⟩
   have hn := hF 4 (hon 4 (by kernel_rfl))
   obtain ⟨sz, Az, lz, cz, ev⟩ := NI.shape hn
   have e11 : a.tmps[11]? = some (.agg #[.int .i64 sz, .slice Az lz cz]) := (on_ 4 ha rfl (hon 4 (by kernel_rfl)) rfl).trans (congrArg some ev)
   obtain ⟨g, x0, y0, eg, hgK, hgh⟩ := hF 10 (hon 10 (by kernel_rfl))
   replace hgK : w.heap.size + 1 + 1 + 1 ≤ g := hgK
   have e5 : a.tmps[5]? = some (.pointer (some ⟨g, 0, none⟩)) := (on_ 10 ha rfl (hon 10 (by kernel_rfl)) rfl).trans (congrArg some eg)
   have h0 : w'.cell? ⟨g, 0, none⟩ = some x0 := (blk_cell hgh 0).trans rfl
   have h1 : w'.cell? ⟨g, 1, none⟩ = some y0 := (blk_cell hgh 1).trans rfl
   have f0 := blk_frozen hgh 0
   have f1 := blk_frozen hgh 1
   have HR := Aside0.mk hR
   clear hR ha
   refine skip_ (w1 := ?_) (by rfl) rfl ?_ ?_
   rotate_left
   ·go_simp
    rfl
   exact hK.out _ _ (put_ HR.out rfl rfl hb_ rfl rfl (hon 10 (by kernel_rfl)) (hon 4 (by kernel_rfl)) rfl eg ev (GS _ g _ _ _ _ hG hgh (by omega) (fun h => by omega)) (fun _ => HH) rfl)
  refine steps_cons ?_ ?_
  ·rintro b a w' ⟨ms, hR⟩ hb_ hon hoff
   obtain ⟨ha, hF, hD, hG, _⟩ := id hR
   have HH := True.intro
   refine ⟨_, rfl, fun K hK => ?_⟩
   have hn := hF 9 (hon 9 (by kernel_rfl))
   obtain ⟨sz, Az, lz, cz, ev⟩ := NI.shape hn
   have e16 : a.tmps[16]? = some (.agg #[.int .i64 sz, .slice Az lz cz]) := (on_ 9 ha rfl (hon 9 (by kernel_rfl)) rfl).trans (congrArg some ev)
   obtain ⟨g, x0, y0, eg, hgK, hgh⟩ := hF 11 (hon 11 (by kernel_rfl))
   replace hgK : w.heap.size + 1 + 1 + 1 ≤ g := hgK
   have e6 : a.tmps[6]? = some (.pointer (some ⟨g, 0, none⟩)) := (on_ 11 ha rfl (hon 11 (by kernel_rfl)) rfl).trans (congrArg some eg)
   have h0 : w'.cell? ⟨g, 0, none⟩ = some x0 := (blk_cell hgh 0).trans rfl
   have h1 : w'.cell? ⟨g, 1, none⟩ = some y0 := (blk_cell hgh 1).trans rfl
   have f0 := blk_frozen hgh 0
   have f1 := blk_frozen hgh 1
   have HR := Aside0.mk hR
   clear hR ha
   refine skip_ (w1 := ?_) (by rfl) rfl ?_ ?_
   rotate_left
   ·go_simp
    rfl
   exact hK.out _ _ (put_ HR.out rfl rfl hb_ rfl rfl (hon 11 (by kernel_rfl)) (hon 9 (by kernel_rfl)) rfl eg ev (GS _ g _ _ _ _ hG hgh (by omega) (fun h => by omega)) (fun _ => HH) rfl)
  exact steps_nil
 rintro b a V1 hall ⟨ms, ha, hF, hD, hG, _⟩
 rw [hGd] at hG
 obtain ⟨HBl, HSz, Bx2, Bx3, Rs⟩ := hG
 have bb1_0 := hall 0 (by kernel_rfl)
 have bb1_1 := hall 1 (by kernel_rfl)
 have bb1_2 := hall 2 (by kernel_rfl)
 have bb1_3 := hall 3 (by kernel_rfl)
 have bb1_4 := hall 4 (by kernel_rfl)
 have bb1_5 := hall 5 (by kernel_rfl)
 have bb1_6 := hall 6 (by kernel_rfl)
 have bb1_7 := hall 7 (by kernel_rfl)
 have bb1_8 := hall 8 (by kernel_rfl)
 have bb1_9 := hall 9 (by kernel_rfl)
 have bb1_10 := hall 10 (by kernel_rfl)
 have bb1_11 := hall 11 (by kernel_rfl)
 have bb1_12 := hall 12 (by kernel_rfl)
 have bb1_13 := hall 13 (by kernel_rfl)
 have m1_0 : ms 0 = .pointer (some ⟨w.heap.size, 0, none⟩) := hF 0 bb1_0
 have m1_1 : ms 1 = .int .i64 a0 := hF 1 bb1_1
 have m1_2 : ms 2 = .pointer (some ⟨w.heap.size + 1, 0, none⟩) := hF 2 bb1_2
 have m1_3 : ms 3 = .int .i64 b0 := hF 3 bb1_3
 have m1_4 : NI V1 (ms 4) (b0 - a0) := hF 4 bb1_4
 have m1_5 : ms 5 = .pointer (some ⟨w.heap.size, 1, none⟩) := hF 5 bb1_5
 have m1_6 : ms 6 = .int .i64 a1 := hF 6 bb1_6
 have m1_7 : ms 7 = .pointer (some ⟨w.heap.size + 1, 1, none⟩) := hF 7 bb1_7
 have m1_8 : ms 8 = .int .i64 b1 := hF 8 bb1_8
 have m1_9 : NI V1 (ms 9) (b1 - a1) := hF 9 bb1_9
 obtain ⟨g1_10, _, _, m1_10, k1_10, _⟩ := hF 10 bb1_10
 replace k1_10 : w.heap.size + 1 + 1 + 1 ≤ g1_10 := k1_10
 obtain ⟨g1_11, _, _, m1_11, k1_11, _⟩ := hF 11 bb1_11
 replace k1_11 : w.heap.size + 1 + 1 + 1 ≤ g1_11 := k1_11
 obtain ⟨_, _, _, _, z1_12, x1_12, y1_12, n1_12, e1_12, h1_12⟩ := hF 12 bb1_12
 obtain rfl : g1_10 = z1_12 := by rw [m1_10] at n1_12; injection n1_12 with q; injection q with q; injection q with q
 rw [e1_12] at m1_4
 obtain ⟨_, _, _, _, z1_13, x1_13, y1_13, n1_13, e1_13, h1_13⟩ := hF 13 bb1_13
 obtain rfl : g1_11 = z1_13 := by rw [m1_11] at n1_13; injection n1_13 with q; injection q with q; injection q with q
 rw [e1_13] at m1_9
 subst ha
 simp only [ent, List.map_cons, List.map_nil, putSel, bb1_0, bb1_1, bb1_2, bb1_3, bb1_4, bb1_5, bb1_6, bb1_7, bb1_8, bb1_9, bb1_10, bb1_11, m1_0, m1_1, m1_2, m1_3, m1_5, m1_6, m1_7, m1_8, m1_10, m1_11, if_true, Act.put, List.setIfInBounds_toArray, List.set_cons_zero, List.set_cons_succ]
 clear hF hD bb1_0 bb1_1 bb1_2 bb1_3 bb1_4 bb1_5 bb1_6 bb1_7 bb1_8 bb1_9 bb1_10 bb1_11 bb1_12 bb1_13
 go_wp2_with fail
 obtain ⟨G, hGd⟩ : ∃ G : World → Prop, G = (fun w' => Below w.heap.size w w' ∧ w.heap.size + 1 + 1 + 1 ≤ w'.heap.size ∧ w'.heap[g1_10]? = some (.cells #[x1_12, y1_12] 42 (0, 0)) ∧ w'.heap[g1_11]? = some (.cells #[x1_13, y1_13] 42 (0, 0)) ∧ NI w' (.agg #[x1_12, y1_12]) (b0 - a0) ∧ NI w' (.agg #[x1_13, y1_13]) (b1 - a1) ∧ ∃ x y, w'.heap[w.heap.size + 1 + 1]? = some (.cells #[x, y] 42 (0, 0))) := ⟨_, rfl⟩
 have GM : ∀ w1 w2 : World, G w1 → Below w1.heap.size w1 w2 → G w2 := by
  subst hGd
  rintro w1 w2 ⟨HBl, HSz, Bx5, Bx6, Ni0, Ni1, Rs⟩ hb
  exact ⟨below_step HBl hb, Nat.le_trans HSz hb.size, blk_below Bx5 hb, blk_below Bx6 hb, NI.below Ni0 hb, NI.below Ni1 hb, (Rs.elim fun x h => h.elim fun y h => ⟨x, y, blk_below h hb⟩)⟩
 have HM : ∀ w1 w2 : World, (fun _ => True) w1 → Below w1.heap.size w1 w2 → (fun _ => True) w2 := fun _ _ _ _ => True.intro
 have GR : ∀ (w1 : World) (x0 y0 x y : Value), G w1 → w1.heap[w.heap.size + 1 + 1]? = some (.cells #[x0, y0] 42 (0, 0)) → G ((w1.setCell ⟨w.heap.size + 1 + 1, 0, none⟩ x).setCell ⟨w.heap.size + 1 + 1, 1, none⟩ y) := by
  subst hGd
  rintro w1 x0 y0 x y ⟨HBl, HSz, Bx5, Bx6, Ni0, Ni1, Rs⟩ hgh
  have hle : w.heap.size ≤ w.heap.size + 1 + 1 := by omega
  exact ⟨below_set2 HBl hle _ _ _ _, (by simpa [World.setCell] using HSz), blk_far (blk_far Bx5 (fun e => by have e1 : (g1_10 : Nat) = w.heap.size + 1 + 1 := e; omega) _) (fun e => by have e1 : (g1_10 : Nat) = w.heap.size + 1 + 1 := e; omega) _, blk_far (blk_far Bx6 (fun e => by have e1 : (g1_11 : Nat) = w.heap.size + 1 + 1 := e; omega) _) (fun e => by have e1 : (g1_11 : Nat) = w.heap.size + 1 + 1 := e; omega) _, NI.store (NI.store Ni0 hgh (by decide) 0 _) (blk_put hgh 0 _ rfl) (by decide) 1 _, NI.store (NI.store Ni1 hgh (by decide) 0 _) (blk_put hgh 0 _ rfl) (by decide) 1 _, _, _, blk_put (blk_put hgh 0 _ rfl) 1 _ rfl⟩
 refine start_ (n := 8) (S := fun w' => True) (ds := []) #[false, false, false, false, false, false, false, false] (by kernel_rfl) rfl rfl trivial (fun _ => ?_); refine with_tabW dist2.tab dist2.bits (fun HT_ HW_ => ?_)
 have hG0 : G V1.drew := by subst hGd; exact ⟨below_drew HBl, HSz, h1_12, h1_13, m1_4.drewN 1, m1_9.drewN 1, Rs⟩
 generalize V1.drew = W1 at hG0 ⊢
 refine inv_at [0, 1, 2, 3, 4, 5, 6, 7] (fun a0_ b a w' => Rg ⟨[0, 1, 2, 3, 4, 5, 6, 7], [(0, 17), (1, 18), (2, 19), (3, 20), (4, 21), (5, 22), (6, 23)], fun j => [.const (.agg #[x1_12, y1_12]), .const (.agg #[x1_12, y1_12]), .ni ((b0 - a0) * (b0 - a0)), .const (.agg #[x1_13, y1_13]), .const (.agg #[x1_13, y1_13]), .ni ((b1 - a1) * (b1 - a1)), .ni (((b0 - a0) * (b0 - a0)) + ((b1 - a1) * (b1 - a1))), .fin (fun ms w' => ∃ x y, w'.heap[w.heap.size + 1 + 1]? = some (.cells #[x, y] 42 (0, 0)) ∧ NI w' (.agg #[x, y]) (((b0 - a0) * (b0 - a0)) + ((b1 - a1) * (b1 - a1))))].getD j .box, w.heap.size + 1 + 1 + 1, 0, G, fun _ => True, 7⟩ a0_ b a w') HT_.out HW_.out (by kernel_rfl) (by kernel_rfl) ?_ ?_ ?_
 ·exact rg0 hG0 True.intro
 ·refine steps_cons ?_ ?_
  ·rintro b a w' ⟨ms, hR⟩ hb_ hon hoff
   obtain ⟨ha, hF, hD, hG, _⟩ := id hR
   have hG1 := hG
   rw [hGd] at hG1
   obtain ⟨_, _, Bx5, _, _, _, _⟩ := hG1
   have HH := hR.2.2.2.2 (hoff 7 (by kernel_rfl))
   refine ⟨_, rfl, fun K hK => ?_⟩
   have e5 : a.tmps[5]? = some (.pointer (some ⟨g1_10, 0, none⟩)) := (off_ ha rfl).trans rfl
   have hc0 : w'.cell? ⟨g1_10, 0, none⟩ = some (x1_12) := (blk_cell Bx5 0).trans rfl
   have hc1 : w'.cell? ⟨g1_10, 1, none⟩ = some (y1_12) := (blk_cell Bx5 1).trans rfl
   have HR := Aside0.mk hR
   clear hR ha hF
   refine value_ (w1 := w') (v := .agg #[x1_12, y1_12]) (by rfl) rfl ?_ ?_
   ·go_simp
    (try simp only [i64_w])
    try rfl
   exact hK.out _ _ (step_ 0 HR.out rfl rfl hb_ (Below.refl _ _) hG rfl (fun h => by cases h) (fun _ => HH) rfl)
  refine steps_cons ?_ ?_
  ·rintro b a w' ⟨ms, hR⟩ hb_ hon hoff
   obtain ⟨ha, hF, hD, hG, _⟩ := id hR
   have hG1 := hG
   rw [hGd] at hG1
   obtain ⟨_, _, Bx5, _, _, _, _⟩ := hG1
   have HH := hR.2.2.2.2 (hoff 7 (by kernel_rfl))
   refine ⟨_, rfl, fun K hK => ?_⟩
   have e5 : a.tmps[5]? = some (.pointer (some ⟨g1_10, 0, none⟩)) := (off_ ha rfl).trans rfl
   have hc0 : w'.cell? ⟨g1_10, 0, none⟩ = some (x1_12) := (blk_cell Bx5 0).trans rfl
   have hc1 : w'.cell? ⟨g1_10, 1, none⟩ = some (y1_12) := (blk_cell Bx5 1).trans rfl
   have HR := Aside0.mk hR
   clear hR ha hF
   refine value_ (w1 := w') (v := .agg #[x1_12, y1_12]) (by rfl) rfl ?_ ?_
   ·go_simp
    (try simp only [i64_w])
    try rfl
   exact hK.out _ _ (step_ 1 HR.out rfl rfl hb_ (Below.refl _ _) hG rfl (fun h => by cases h) (fun _ => HH) rfl)
  refine steps_cons ?_ ?_
  ·rintro b a w' ⟨ms, hR⟩ hb_ hon hoff
   obtain ⟨ha, hF, hD, hG, _⟩ := id hR
   have hG1 := hG
   rw [hGd] at hG1
   obtain ⟨_, _, _, _, Ni0, _, _⟩ := hG1
   have HH := hR.2.2.2.2 (hoff 7 (by kernel_rfl))
   refine ⟨_, rfl, fun K hK => ?_⟩
   have e17 : a.tmps[17]? = some (.agg #[x1_12, y1_12]) := (on_ 0 ha rfl (hon 0 (by kernel_rfl)) rfl).trans (congrArg some (hF 0 (hon 0 (by kernel_rfl))))
   have e18 : a.tmps[18]? = some (.agg #[x1_12, y1_12]) := (on_ 1 ha rfl (hon 1 (by kernel_rfl)) rfl).trans (congrArg some (hF 1 (hon 1 (by kernel_rfl))))
   refine goes_ Try.func32 (by kernel_rfl) rfl #[.agg #[x1_12, y1_12], .agg #[x1_12, y1_12]] (by rfl) rfl rfl (by first | (simp only [List.map_toArray, List.map_cons, List.map_nil, Act.eval, Array.getD_eq_getD_getElem?, Option.getD_some, e17, e18]; done) | (simp only [List.map_toArray, List.map_cons, List.map_nil, Act.eval, Array.getD_eq_getD_getElem?, Option.getD_some, e17, e18]; rfl)) ?_
   with_reducible refine (mul_c _ _ (b0 - a0) (b0 - a0) s1 s1 _ (Ni0) (Ni0)).mono ?_
   rintro e w1 ⟨r, rfl, hN, hb⟩
   exact ⟨_, rfl, hK.out _ _ (step_ 2 hR rfl rfl hb_ hb (GM _ _ hG hb) hN (fun h => by cases h) (fun _ => HM _ _ HH hb) rfl)⟩
  refine steps_cons ?_ ?_
  ·rintro b a w' ⟨ms, hR⟩ hb_ hon hoff
   obtain ⟨ha, hF, hD, hG, _⟩ := id hR
   have hG1 := hG
   rw [hGd] at hG1
   obtain ⟨_, _, _, Bx6, _, _, _⟩ := hG1
   have HH := hR.2.2.2.2 (hoff 7 (by kernel_rfl))
   refine ⟨_, rfl, fun K hK => ?_⟩
   have e6 : a.tmps[6]? = some (.pointer (some ⟨g1_11, 0, none⟩)) := (off_ ha rfl).trans rfl
   have hc0 : w'.cell? ⟨g1_11, 0, none⟩ = some (x1_13) := (blk_cell Bx6 0).trans rfl
   have hc1 : w'.cell? ⟨g1_11, 1, none⟩ = some (y1_13) := (blk_cell Bx6 1).trans rfl
   have HR := Aside0.mk hR
   clear hR ha hF
   refine value_ (w1 := w') (v := .agg #[x1_13, y1_13]) (by rfl) rfl ?_ ?_
   ·go_simp
    (try simp only [i64_w])
    try rfl
   exact hK.out _ _ (step_ 3 HR.out rfl rfl hb_ (Below.refl _ _) hG rfl (fun h => by cases h) (fun _ => HH) rfl)
  refine steps_cons ?_ ?_
  ·rintro b a w' ⟨ms, hR⟩ hb_ hon hoff
   obtain ⟨ha, hF, hD, hG, _⟩ := id hR
   have hG1 := hG
   rw [hGd] at hG1
   obtain ⟨_, _, _, Bx6, _, _, _⟩ := hG1
   have HH := hR.2.2.2.2 (hoff 7 (by kernel_rfl))
   refine ⟨_, rfl, fun K hK => ?_⟩
   have e6 : a.tmps[6]? = some (.pointer (some ⟨g1_11, 0, none⟩)) := (off_ ha rfl).trans rfl
   have hc0 : w'.cell? ⟨g1_11, 0, none⟩ = some (x1_13) := (blk_cell Bx6 0).trans rfl
   have hc1 : w'.cell? ⟨g1_11, 1, none⟩ = some (y1_13) := (blk_cell Bx6 1).trans rfl
   have HR := Aside0.mk hR
   clear hR ha hF
   refine value_ (w1 := w') (v := .agg #[x1_13, y1_13]) (by rfl) rfl ?_ ?_
   ·go_simp
    (try simp only [i64_w])
    try rfl
   exact hK.out _ _ (step_ 4 HR.out rfl rfl hb_ (Below.refl _ _) hG rfl (fun h => by cases h) (fun _ => HH) rfl)
  refine steps_cons ?_ ?_
  ·rintro b a w' ⟨ms, hR⟩ hb_ hon hoff
   obtain ⟨ha, hF, hD, hG, _⟩ := id hR
   have hG1 := hG
   rw [hGd] at hG1
   obtain ⟨_, _, _, _, _, Ni1, _⟩ := hG1
   have HH := hR.2.2.2.2 (hoff 7 (by kernel_rfl))
   refine ⟨_, rfl, fun K hK => ?_⟩
   have e20 : a.tmps[20]? = some (.agg #[x1_13, y1_13]) := (on_ 3 ha rfl (hon 3 (by kernel_rfl)) rfl).trans (congrArg some (hF 3 (hon 3 (by kernel_rfl))))
   have e21 : a.tmps[21]? = some (.agg #[x1_13, y1_13]) := (on_ 4 ha rfl (hon 4 (by kernel_rfl)) rfl).trans (congrArg some (hF 4 (hon 4 (by kernel_rfl))))
   refine goes_ Try.func32 (by kernel_rfl) rfl #[.agg #[x1_13, y1_13], .agg #[x1_13, y1_13]] (by rfl) rfl rfl (by first | (simp only [List.map_toArray, List.map_cons, List.map_nil, Act.eval, Array.getD_eq_getD_getElem?, Option.getD_some, e20, e21]; done) | (simp only [List.map_toArray, List.map_cons, List.map_nil, Act.eval, Array.getD_eq_getD_getElem?, Option.getD_some, e20, e21]; rfl)) ?_
   with_reducible refine (mul_c _ _ (b1 - a1) (b1 - a1) s2 s2 _ (Ni1) (Ni1)).mono ?_
   rintro e w1 ⟨r, rfl, hN, hb⟩
   exact ⟨_, rfl, hK.out _ _ (step_ 5 hR rfl rfl hb_ hb (GM _ _ hG hb) hN (fun h => by cases h) (fun _ => HM _ _ HH hb) rfl)⟩
  refine steps_cons ?_ ?_
  ·rintro b a w' ⟨ms, hR⟩ hb_ hon hoff
   obtain ⟨ha, hF, hD, hG, _⟩ := id hR
   have HH := hR.2.2.2.2 (hoff 7 (by kernel_rfl))
   refine ⟨_, rfl, fun K hK => ?_⟩
   have e19 : a.tmps[19]? = some (ms 2) := on_ 2 ha rfl (hon 2 (by kernel_rfl)) rfl
   have q2 : NI w' (ms 2) ((b0 - a0) * (b0 - a0)) := hF 2 (hon 2 (by kernel_rfl))
   have e22 : a.tmps[22]? = some (ms 5) := on_ 5 ha rfl (hon 5 (by kernel_rfl)) rfl
   have q5 : NI w' (ms 5) ((b1 - a1) * (b1 - a1)) := hF 5 (hon 5 (by kernel_rfl))
   refine goes_ Try.func35 (by kernel_rfl) rfl #[ms 2, ms 5] (by rfl) rfl rfl (by first | (simp only [List.map_toArray, List.map_cons, List.map_nil, Act.eval, Array.getD_eq_getD_getElem?, Option.getD_some, e19, e22]; done) | (simp only [List.map_toArray, List.map_cons, List.map_nil, Act.eval, Array.getD_eq_getD_getElem?, Option.getD_some, e19, e22]; rfl)) ?_
   with_reducible refine (add_c _ _ ((b0 - a0) * (b0 - a0)) ((b1 - a1) * (b1 - a1)) s3 s4 _ (q2) (q5)).mono ?_
   rintro e w1 ⟨r, rfl, hN, hb⟩
   exact ⟨_, rfl, hK.out _ _ (step_ 6 hR rfl rfl hb_ hb (GM _ _ hG hb) hN (fun h => by cases h) (fun _ => HM _ _ HH hb) rfl)⟩
  refine steps_cons ?_ ?_
  ·rintro b a w' ⟨ms, hR⟩ hb_ hon hoff
   obtain ⟨ha, hF, hD, hG, _⟩ := id hR
   have hG1 := hG
   rw [hGd] at hG1
   obtain ⟨_, _, _, _, _, _, Rs⟩ := hG1
   refine ⟨_, rfl, fun K hK => ?_⟩
   have hn := hF 6 (hon 6 (by kernel_rfl))
   obtain ⟨sz, Az, lz, cz, ev⟩ := NI.shape hn
   have e23 : a.tmps[23]? = some (.agg #[.int .i64 sz, .slice Az lz cz]) := (on_ 6 ha rfl (hon 6 (by kernel_rfl)) rfl).trans (congrArg some ev)
   have e4 : a.tmps[4]? = some (.pointer (some ⟨w.heap.size + 1 + 1, 0, none⟩)) := (off_ ha rfl).trans rfl
   obtain ⟨x0, y0, hgh⟩ := Rs
   have h0 : w'.cell? ⟨w.heap.size + 1 + 1, 0, none⟩ = some x0 := (blk_cell hgh 0).trans rfl
   have h1 : w'.cell? ⟨w.heap.size + 1 + 1, 1, none⟩ = some y0 := (blk_cell hgh 1).trans rfl
   have f0 := blk_frozen hgh 0
   have f1 := blk_frozen hgh 1
   have HR := Aside0.mk hR
   clear hR ha
   refine skip_ (w1 := ?_) (by rfl) rfl ?_ ?_
   rotate_left
   ·go_simp
    rfl
   exact hK.out _ _ (fin_ HR.out rfl (hall_ (by kernel_rfl) hon) rfl hb_ rfl hgh (by show w.heap.size + 1 + 1 < w.heap.size + 1 + 1 + 1; omega) ⟨_, _, blk_put (blk_put hgh 0 _ rfl) 1 _ rfl, by rw [← ev]; exact NI.store (NI.store hn hgh (by decide) 0 _) (blk_put hgh 0 _ rfl) (by decide) 1 _⟩ (GR _ _ _ _ _ hG hgh) rfl)
  exact steps_nil
 rintro b a V2 hall ⟨ms, ha, hF, hD, hG, _⟩
 rw [hGd] at hG
 obtain ⟨HBl, HSz, Bx5, Bx6, Ni0, Ni1, Rs⟩ := hG
 have bb2_0 := hall 0 (by kernel_rfl)
 have bb2_1 := hall 1 (by kernel_rfl)
 have bb2_2 := hall 2 (by kernel_rfl)
 have bb2_3 := hall 3 (by kernel_rfl)
 have bb2_4 := hall 4 (by kernel_rfl)
 have bb2_5 := hall 5 (by kernel_rfl)
 have bb2_6 := hall 6 (by kernel_rfl)
 have bb2_7 := hall 7 (by kernel_rfl)
 have m2_0 : ms 0 = .agg #[x1_12, y1_12] := hF 0 bb2_0
 have m2_1 : ms 1 = .agg #[x1_12, y1_12] := hF 1 bb2_1
 have m2_2 : NI V2 (ms 2) ((b0 - a0) * (b0 - a0)) := hF 2 bb2_2
 have m2_3 : ms 3 = .agg #[x1_13, y1_13] := hF 3 bb2_3
 have m2_4 : ms 4 = .agg #[x1_13, y1_13] := hF 4 bb2_4
 have m2_5 : NI V2 (ms 5) ((b1 - a1) * (b1 - a1)) := hF 5 bb2_5
 have m2_6 : NI V2 (ms 6) (((b0 - a0) * (b0 - a0)) + ((b1 - a1) * (b1 - a1))) := hF 6 bb2_6
 obtain ⟨_, x2_7, y2_7, h2_7, m2_7⟩ := hF 7 bb2_7
 subst ha
 simp only [ent, List.map_cons, List.map_nil, putSel, bb2_0, bb2_1, bb2_2, bb2_3, bb2_4, bb2_5, bb2_6, m2_0, m2_1, m2_3, m2_4, if_true, Act.put, List.setIfInBounds_toArray, List.set_cons_zero, List.set_cons_succ]
 clear hF hD bb2_0 bb2_1 bb2_2 bb2_3 bb2_4 bb2_5 bb2_6 bb2_7
 go_wp2
 refine bodyPost_ret (results_cell_row rfl _ _ (w.heap.size + 1 + 1) 42 #[x2_7, y2_7] (0, 0) _ rfl h2_7 Try.underlying42 rfl (by kernel_rfl)) rfl ?_
 exact ⟨_, rfl, m2_7, HBl⟩
end Go.Proofs.Ytlkngfidohiepaa.Rf
end
section
namespace Go.Proofs.Ytlkngfidohiepaa.F
open RowKit YtlkngfidohiepaaW.PrintWords YtlkngfidohiepaaW.PrintLast YtlkngfidohiepaaW.PrintMore
set_option linter.unusedVariables false
set_option linter.unusedSimpArgs false
def zelligeref07_near.f (a0_0 : Int) (a0_1 : Int) (a1_0 : Int) (a1_1 : Int) : Option (Bool) := if (wrap64 (a1_0 - a0_0)) > (-8192) then (if (wrap64 (a1_0 - a0_0)) < 8192 then (if (wrap64 (a1_1 - a0_1)) > (-8192) then (some (decide ((wrap64 (a1_1 - a0_1)) < 8192))) else (some false)) else (some false)) else (some false)
set_option maxHeartbeats 8000000 in
set_option maxRecDepth 100000 in
theorem zelligeref07_near.calls (a0_0 : Int) (a0_1 : Int) (a1_0 : Int) (a1_1 : Int) (r : Bool) (w : World) (h : zelligeref07_near.f a0_0 a0_1 a1_0 a1_1 = some r) :
  Calls Try.prog 21 #[.agg #[.int .i64 a0_0, .int .i64 a0_1], .agg #[.int .i64 a1_0, .int .i64 a1_1]] w fun e w' => e = .returned (.bool r) ∧ Below w.heap.size w w' := by
 have hu23 := Try.underlying23
 have HB := Aside0.mk (Below.refl w.heap.size w)
 have H : (if (wrap64 (a1_0 - a0_0)) > (-8192) then (if (wrap64 (a1_0 - a0_0)) < 8192 then (if (wrap64 (a1_1 - a0_1)) > (-8192) then (some (decide ((wrap64 (a1_1 - a0_1)) < 8192))) else (some false)) else (some false)) else (some false)) = some r := h
 clear h
 by_cases c3 : (wrap64 (a1_0 - a0_0)) > (-8192)
 ·rw [if_pos c3] at H
  have c3b0 : decide ((-8192) < (wrap64 (a1_0 - a0_0))) = true := decide_eq_true c3
  clear c3
  by_cases c4 : (wrap64 (a1_0 - a0_0)) < 8192
  ·rw [if_pos c4] at H
   have c4b0 : decide ((wrap64 (a1_0 - a0_0)) < 8192) = true := decide_eq_true c4
   clear c4
   by_cases c5 : (wrap64 (a1_1 - a0_1)) > (-8192)
   ·rw [if_pos c5] at H
    have c5b0 : decide ((-8192) < (wrap64 (a1_1 - a0_1))) = true := decide_eq_true c5
    clear c5
    obtain rfl := Option.some.inj H
    go_enter Try.func21, Try.ntmps21
    go_wp2_with (first | ((with_reducible refine gate_dst (N := 2) rfl ?_); refine bx 2 #[.int .i64 a0_0, .int .i64 a0_1] 23 ?_; intro gb403 hg w6 hbox hb; have BK403 := Aside0.mk hbox; have GW403 := u3 hg HB; have GE403 := u3 hg HB; replace HB := u2 HB hb; clear hb hbox hg) | ((with_reducible refine gate_dst (N := 3) rfl ?_); refine bx 3 #[.int .i64 a1_0, .int .i64 a1_1] 23 ?_; intro gb404 hg w7 hbox hb; have BK404 := Aside0.mk hbox; have GW404 := u3 hg HB; have GE404 := u3 hg HB; have NB403_404 := u4 hg BK403; have NB404_403 := u5 hg BK403; replace BK403 := u1 BK403 hb; replace HB := u2 HB hb; clear hb hbox hg; have hnb8 := NB404_403.out; have hnc8 := NB403_404.out; obtain ⟨hcz9_0, hcz9_1, hfz9_0, hfz9_1⟩ := p2 BK404; obtain ⟨hcz10_0, hcz10_1, hfz10_0, hfz10_1⟩ := p2 BK403))
    repeat (go_quiet (first | ((with_reducible refine gate_dst (N := 2) rfl ?_); refine bx 2 #[.int .i64 a0_0, .int .i64 a0_1] 23 ?_; intro gb403 hg w6 hbox hb; have BK403 := Aside0.mk hbox; have GW403 := u3 hg HB; have GE403 := u3 hg HB; replace HB := u2 HB hb; clear hb hbox hg) | ((with_reducible refine gate_dst (N := 3) rfl ?_); refine bx 3 #[.int .i64 a1_0, .int .i64 a1_1] 23 ?_; intro gb404 hg w7 hbox hb; have BK404 := Aside0.mk hbox; have GW404 := u3 hg HB; have GE404 := u3 hg HB; have NB403_404 := u4 hg BK403; have NB404_403 := u5 hg BK403; replace BK403 := u1 BK403 hb; replace HB := u2 HB hb; clear hb hbox hg; have hnb8 := NB404_403.out; have hnc8 := NB403_404.out; obtain ⟨hcz9_0, hcz9_1, hfz9_0, hfz9_1⟩ := p2 BK404; obtain ⟨hcz10_0, hcz10_1, hfz10_0, hfz10_1⟩ := p2 BK403)); try go_wp2_with (first | ((with_reducible refine gate_dst (N := 2) rfl ?_); refine bx 2 #[.int .i64 a0_0, .int .i64 a0_1] 23 ?_; intro gb403 hg w6 hbox hb; have BK403 := Aside0.mk hbox; have GW403 := u3 hg HB; have GE403 := u3 hg HB; replace HB := u2 HB hb; clear hb hbox hg) | ((with_reducible refine gate_dst (N := 3) rfl ?_); refine bx 3 #[.int .i64 a1_0, .int .i64 a1_1] 23 ?_; intro gb404 hg w7 hbox hb; have BK404 := Aside0.mk hbox; have GW404 := u3 hg HB; have GE404 := u3 hg HB; have NB403_404 := u4 hg BK403; have NB404_403 := u5 hg BK403; replace BK403 := u1 BK403 hb; replace HB := u2 HB hb; clear hb hbox hg; have hnb8 := NB404_403.out; have hnc8 := NB403_404.out; obtain ⟨hcz9_0, hcz9_1, hfz9_0, hfz9_1⟩ := p2 BK404; obtain ⟨hcz10_0, hcz10_1, hfz10_0, hfz10_1⟩ := p2 BK403)))
    go_ret
    exact ⟨by first | rfl | (simp [*, errW_none, errW_some] <;> rfl), bw HB.out⟩
   ·rw [if_neg c5] at H
    have c5b0 : decide ((-8192) < (wrap64 (a1_1 - a0_1))) = false := decide_eq_false c5
    clear c5
    obtain rfl := Option.some.inj H
    go_enter Try.func21, Try.ntmps21
    go_wp2_with (first | ((with_reducible refine gate_dst (N := 2) rfl ?_); refine bx 2 #[.int .i64 a0_0, .int .i64 a0_1] 23 ?_; intro gb403 hg w11 hbox hb; have BK403 := Aside0.mk hbox; have GW403 := u3 hg HB; have GE403 := u3 hg HB; replace HB := u2 HB hb; clear hb hbox hg) | ((with_reducible refine gate_dst (N := 3) rfl ?_); refine bx 3 #[.int .i64 a1_0, .int .i64 a1_1] 23 ?_; intro gb404 hg w12 hbox hb; have BK404 := Aside0.mk hbox; have GW404 := u3 hg HB; have GE404 := u3 hg HB; have NB403_404 := u4 hg BK403; have NB404_403 := u5 hg BK403; replace BK403 := u1 BK403 hb; replace HB := u2 HB hb; clear hb hbox hg; have hnb13 := NB404_403.out; have hnc13 := NB403_404.out; obtain ⟨hcz14_0, hcz14_1, hfz14_0, hfz14_1⟩ := p2 BK404; obtain ⟨hcz15_0, hcz15_1, hfz15_0, hfz15_1⟩ := p2 BK403))
    repeat (go_quiet (first | ((with_reducible refine gate_dst (N := 2) rfl ?_); refine bx 2 #[.int .i64 a0_0, .int .i64 a0_1] 23 ?_; intro gb403 hg w11 hbox hb; have BK403 := Aside0.mk hbox; have GW403 := u3 hg HB; have GE403 := u3 hg HB; replace HB := u2 HB hb; clear hb hbox hg) | ((with_reducible refine gate_dst (N := 3) rfl ?_); refine bx 3 #[.int .i64 a1_0, .int .i64 a1_1] 23 ?_; intro gb404 hg w12 hbox hb; have BK404 := Aside0.mk hbox; have GW404 := u3 hg HB; have GE404 := u3 hg HB; have NB403_404 := u4 hg BK403; have NB404_403 := u5 hg BK403; replace BK403 := u1 BK403 hb; replace HB := u2 HB hb; clear hb hbox hg; have hnb13 := NB404_403.out; have hnc13 := NB403_404.out; obtain ⟨hcz14_0, hcz14_1, hfz14_0, hfz14_1⟩ := p2 BK404; obtain ⟨hcz15_0, hcz15_1, hfz15_0, hfz15_1⟩ := p2 BK403)); try go_wp2_with (first | ((with_reducible refine gate_dst (N := 2) rfl ?_); refine bx 2 #[.int .i64 a0_0, .int .i64 a0_1] 23 ?_; intro gb403 hg w11 hbox hb; have BK403 := Aside0.mk hbox; have GW403 := u3 hg HB; have GE403 := u3 hg HB; replace HB := u2 HB hb; clear hb hbox hg) | ((with_reducible refine gate_dst (N := 3) rfl ?_); refine bx 3 #[.int .i64 a1_0, .int .i64 a1_1] 23 ?_; intro gb404 hg w12 hbox hb; have BK404 := Aside0.mk hbox; have GW404 := u3 hg HB; have GE404 := u3 hg HB; have NB403_404 := u4 hg BK403; have NB404_403 := u5 hg BK403; replace BK403 := u1 BK403 hb; replace HB := u2 HB hb; clear hb hbox hg; have hnb13 := NB404_403.out; have hnc13 := NB403_404.out; obtain ⟨hcz14_0, hcz14_1, hfz14_0, hfz14_1⟩ := p2 BK404; obtain ⟨hcz15_0, hcz15_1, hfz15_0, hfz15_1⟩ := p2 BK403)))
    go_ret
    exact ⟨by first | rfl | (simp [*, errW_none, errW_some] <;> rfl), bw HB.out⟩
  ·rw [if_neg c4] at H
   have c4b0 : decide ((wrap64 (a1_0 - a0_0)) < 8192) = false := decide_eq_false c4
   clear c4
   obtain rfl := Option.some.inj H
   go_enter Try.func21, Try.ntmps21
   go_wp2_with (first | ((with_reducible refine gate_dst (N := 2) rfl ?_); refine bx 2 #[.int .i64 a0_0, .int .i64 a0_1] 23 ?_; intro gb403 hg w16 hbox hb; have BK403 := Aside0.mk hbox; have GW403 := u3 hg HB; have GE403 := u3 hg HB; replace HB := u2 HB hb; clear hb hbox hg) | ((with_reducible refine gate_dst (N := 3) rfl ?_); refine bx 3 #[.int .i64 a1_0, .int .i64 a1_1] 23 ?_; intro gb404 hg w17 hbox hb; have BK404 := Aside0.mk hbox; have GW404 := u3 hg HB; have GE404 := u3 hg HB; have NB403_404 := u4 hg BK403; have NB404_403 := u5 hg BK403; replace BK403 := u1 BK403 hb; replace HB := u2 HB hb; clear hb hbox hg; have hnb18 := NB404_403.out; have hnc18 := NB403_404.out; obtain ⟨hcz19_0, hcz19_1, hfz19_0, hfz19_1⟩ := p2 BK404; obtain ⟨hcz20_0, hcz20_1, hfz20_0, hfz20_1⟩ := p2 BK403))
   repeat (go_quiet (first | ((with_reducible refine gate_dst (N := 2) rfl ?_); refine bx 2 #[.int .i64 a0_0, .int .i64 a0_1] 23 ?_; intro gb403 hg w16 hbox hb; have BK403 := Aside0.mk hbox; have GW403 := u3 hg HB; have GE403 := u3 hg HB; replace HB := u2 HB hb; clear hb hbox hg) | ((with_reducible refine gate_dst (N := 3) rfl ?_); refine bx 3 #[.int .i64 a1_0, .int .i64 a1_1] 23 ?_; intro gb404 hg w17 hbox hb; have BK404 := Aside0.mk hbox; have GW404 := u3 hg HB; have GE404 := u3 hg HB; have NB403_404 := u4 hg BK403; have NB404_403 := u5 hg BK403; replace BK403 := u1 BK403 hb; replace HB := u2 HB hb; clear hb hbox hg; have hnb18 := NB404_403.out; have hnc18 := NB403_404.out; obtain ⟨hcz19_0, hcz19_1, hfz19_0, hfz19_1⟩ := p2 BK404; obtain ⟨hcz20_0, hcz20_1, hfz20_0, hfz20_1⟩ := p2 BK403)); try go_wp2_with (first | ((with_reducible refine gate_dst (N := 2) rfl ?_); refine bx 2 #[.int .i64 a0_0, .int .i64 a0_1] 23 ?_; intro gb403 hg w16 hbox hb; have BK403 := Aside0.mk hbox; have GW403 := u3 hg HB; have GE403 := u3 hg HB; replace HB := u2 HB hb; clear hb hbox hg) | ((with_reducible refine gate_dst (N := 3) rfl ?_); refine bx 3 #[.int .i64 a1_0, .int .i64 a1_1] 23 ?_; intro gb404 hg w17 hbox hb; have BK404 := Aside0.mk hbox; have GW404 := u3 hg HB; have GE404 := u3 hg HB; have NB403_404 := u4 hg BK403; have NB404_403 := u5 hg BK403; replace BK403 := u1 BK403 hb; replace HB := u2 HB hb; clear hb hbox hg; have hnb18 := NB404_403.out; have hnc18 := NB403_404.out; obtain ⟨hcz19_0, hcz19_1, hfz19_0, hfz19_1⟩ := p2 BK404; obtain ⟨hcz20_0, hcz20_1, hfz20_0, hfz20_1⟩ := p2 BK403)))
   go_ret
   exact ⟨by first | rfl | (simp [*, errW_none, errW_some] <;> rfl), bw HB.out⟩
 ·rw [if_neg c3] at H
  have c3b0 : decide ((-8192) < (wrap64 (a1_0 - a0_0))) = false := decide_eq_false c3
  clear c3
  obtain rfl := Option.some.inj H
  go_enter Try.func21, Try.ntmps21
  go_wp2_with (first | ((with_reducible refine gate_dst (N := 2) rfl ?_); refine bx 2 #[.int .i64 a0_0, .int .i64 a0_1] 23 ?_; intro gb403 hg w21 hbox hb; have BK403 := Aside0.mk hbox; have GW403 := u3 hg HB; have GE403 := u3 hg HB; replace HB := u2 HB hb; clear hb hbox hg) | ((with_reducible refine gate_dst (N := 3) rfl ?_); refine bx 3 #[.int .i64 a1_0, .int .i64 a1_1] 23 ?_; intro gb404 hg w22 hbox hb; have BK404 := Aside0.mk hbox; have GW404 := u3 hg HB; have GE404 := u3 hg HB; have NB403_404 := u4 hg BK403; have NB404_403 := u5 hg BK403; replace BK403 := u1 BK403 hb; replace HB := u2 HB hb; clear hb hbox hg; have hnb23 := NB404_403.out; have hnc23 := NB403_404.out; obtain ⟨hcz24_0, hcz24_1, hfz24_0, hfz24_1⟩ := p2 BK404; obtain ⟨hcz25_0, hcz25_1, hfz25_0, hfz25_1⟩ := p2 BK403))
  repeat (go_quiet (first | ((with_reducible refine gate_dst (N := 2) rfl ?_); refine bx 2 #[.int .i64 a0_0, .int .i64 a0_1] 23 ?_; intro gb403 hg w21 hbox hb; have BK403 := Aside0.mk hbox; have GW403 := u3 hg HB; have GE403 := u3 hg HB; replace HB := u2 HB hb; clear hb hbox hg) | ((with_reducible refine gate_dst (N := 3) rfl ?_); refine bx 3 #[.int .i64 a1_0, .int .i64 a1_1] 23 ?_; intro gb404 hg w22 hbox hb; have BK404 := Aside0.mk hbox; have GW404 := u3 hg HB; have GE404 := u3 hg HB; have NB403_404 := u4 hg BK403; have NB404_403 := u5 hg BK403; replace BK403 := u1 BK403 hb; replace HB := u2 HB hb; clear hb hbox hg; have hnb23 := NB404_403.out; have hnc23 := NB403_404.out; obtain ⟨hcz24_0, hcz24_1, hfz24_0, hfz24_1⟩ := p2 BK404; obtain ⟨hcz25_0, hcz25_1, hfz25_0, hfz25_1⟩ := p2 BK403)); try go_wp2_with (first | ((with_reducible refine gate_dst (N := 2) rfl ?_); refine bx 2 #[.int .i64 a0_0, .int .i64 a0_1] 23 ?_; intro gb403 hg w21 hbox hb; have BK403 := Aside0.mk hbox; have GW403 := u3 hg HB; have GE403 := u3 hg HB; replace HB := u2 HB hb; clear hb hbox hg) | ((with_reducible refine gate_dst (N := 3) rfl ?_); refine bx 3 #[.int .i64 a1_0, .int .i64 a1_1] 23 ?_; intro gb404 hg w22 hbox hb; have BK404 := Aside0.mk hbox; have GW404 := u3 hg HB; have GE404 := u3 hg HB; have NB403_404 := u4 hg BK403; have NB404_403 := u5 hg BK403; replace BK403 := u1 BK403 hb; replace HB := u2 HB hb; clear hb hbox hg; have hnb23 := NB404_403.out; have hnc23 := NB403_404.out; obtain ⟨hcz24_0, hcz24_1, hfz24_0, hfz24_1⟩ := p2 BK404; obtain ⟨hcz25_0, hcz25_1, hfz25_0, hfz25_1⟩ := p2 BK403)))
  go_ret
  exact ⟨by first | rfl | (simp [*, errW_none, errW_some] <;> rfl), bw HB.out⟩
end Go.Proofs.Ytlkngfidohiepaa.F
end
section
namespace Go.Proofs.Ytlkngfidohiepaa.F
open RowKit YtlkngfidohiepaaW.PrintWords YtlkngfidohiepaaW.PrintLast YtlkngfidohiepaaW.PrintMore
set_option linter.unusedVariables false
set_option linter.unusedSimpArgs false
def zelligeref07_sign.f (a0 : Int) : Option (Int) := if a0 < 0 then (some (-1)) else (if a0 > 0 then (some 1) else (some 0))
set_option maxHeartbeats 8000000 in
set_option maxRecDepth 100000 in
theorem zelligeref07_sign.calls (a0 : Int) (r : Int) (w : World) (h : zelligeref07_sign.f a0 = some r) :
  Calls Try.prog 22 #[.int .i64 a0] w fun e w' => e = .returned (.int .i64 r) ∧ Drawn0 w w' := by
 have H : (if a0 < 0 then (some (-1)) else (if a0 > 0 then (some 1) else (some 0))) = some r := h
 clear h
 by_cases c2 : a0 < 0
 ·rw [if_pos c2] at H
  have c2b0 : decide (a0 < 0) = true := decide_eq_true c2
  clear c2
  obtain rfl := Option.some.inj H
  go_enter Try.func22, Try.ntmps22
  go_wp2
  go_ret
  exact ⟨by first | rfl | (simp; done) | (simp [*]; done), by repeat (first | exact Drawn0.refl _ | apply Drawn0.step)⟩
 ·rw [if_neg c2] at H
  have c2b0 : decide (a0 < 0) = false := decide_eq_false c2
  clear c2
  by_cases c3 : a0 > 0
  ·rw [if_pos c3] at H
   have c3b0 : decide (0 < a0) = true := decide_eq_true c3
   clear c3
   obtain rfl := Option.some.inj H
   go_enter Try.func22, Try.ntmps22
   go_wp2
   go_ret
   exact ⟨by first | rfl | (simp; done) | (simp [*]; done), by repeat (first | exact Drawn0.refl _ | apply Drawn0.step)⟩
  ·rw [if_neg c3] at H
   have c3b0 : decide (0 < a0) = false := decide_eq_false c3
   clear c3
   obtain rfl := Option.some.inj H
   go_enter Try.func22, Try.ntmps22
   go_wp2
   go_ret
   exact ⟨by first | rfl | (simp; done) | (simp [*]; done), by repeat (first | exact Drawn0.refl _ | apply Drawn0.step)⟩
end Go.Proofs.Ytlkngfidohiepaa.F
end
section
namespace Go.Proofs.Ytlkngfidohiepaa.F
open RowKit YtlkngfidohiepaaW.PrintWords YtlkngfidohiepaaW.PrintLast YtlkngfidohiepaaW.PrintMore
set_option linter.unusedVariables false
set_option linter.unusedSimpArgs false
def zelligeref07_flat.f (a0_0 : Int) (a0_1 : Int) (a1_0 : Int) (a1_1 : Int) (a2_0 : Int) (a2_1 : Int) (a3_0 : Int) (a3_1 : Int) : Option (Int) := (zelligeref07_sign.f (wrap64 ((wrap64 ((wrap64 ((wrap64 ((wrap64 ((wrap64 (a0_0 - a3_0)) * (wrap64 (a0_0 - a3_0)))) + (wrap64 ((wrap64 (a0_1 - a3_1)) * (wrap64 (a0_1 - a3_1)))))) * (wrap64 ((wrap64 ((wrap64 (a1_0 - a3_0)) * (wrap64 (a2_1 - a3_1)))) - (wrap64 ((wrap64 (a1_1 - a3_1)) * (wrap64 (a2_0 - a3_0)))))))) - (wrap64 ((wrap64 ((wrap64 ((wrap64 (a1_0 - a3_0)) * (wrap64 (a1_0 - a3_0)))) + (wrap64 ((wrap64 (a1_1 - a3_1)) * (wrap64 (a1_1 - a3_1)))))) * (wrap64 ((wrap64 ((wrap64 (a0_0 - a3_0)) * (wrap64 (a2_1 - a3_1)))) - (wrap64 ((wrap64 (a0_1 - a3_1)) * (wrap64 (a2_0 - a3_0)))))))))) + (wrap64 ((wrap64 ((wrap64 ((wrap64 (a2_0 - a3_0)) * (wrap64 (a2_0 - a3_0)))) + (wrap64 ((wrap64 (a2_1 - a3_1)) * (wrap64 (a2_1 - a3_1)))))) * (wrap64 ((wrap64 ((wrap64 (a0_0 - a3_0)) * (wrap64 (a1_1 - a3_1)))) - (wrap64 ((wrap64 (a0_1 - a3_1)) * (wrap64 (a1_0 - a3_0))))))))))).bind fun t475 => (some t475)
set_option maxHeartbeats 8000000 in
set_option maxRecDepth 100000 in
theorem zelligeref07_flat.calls (a0_0 : Int) (a0_1 : Int) (a1_0 : Int) (a1_1 : Int) (a2_0 : Int) (a2_1 : Int) (a3_0 : Int) (a3_1 : Int) (r : Int) (w : World) (h : zelligeref07_flat.f a0_0 a0_1 a1_0 a1_1 a2_0 a2_1 a3_0 a3_1 = some r) :
  Calls Try.prog 30 #[.agg #[.int .i64 a0_0, .int .i64 a0_1], .agg #[.int .i64 a1_0, .int .i64 a1_1], .agg #[.int .i64 a2_0, .int .i64 a2_1], .agg #[.int .i64 a3_0, .int .i64 a3_1]] w fun e w' => e = .returned (.int .i64 r) ∧ Below w.heap.size w w' := by
 have hu23 := Try.underlying23
 have HB := Aside0.mk (Below.refl w.heap.size w)
 have H : ((zelligeref07_sign.f (wrap64 ((wrap64 ((wrap64 ((wrap64 ((wrap64 ((wrap64 (a0_0 - a3_0)) * (wrap64 (a0_0 - a3_0)))) + (wrap64 ((wrap64 (a0_1 - a3_1)) * (wrap64 (a0_1 - a3_1)))))) * (wrap64 ((wrap64 ((wrap64 (a1_0 - a3_0)) * (wrap64 (a2_1 - a3_1)))) - (wrap64 ((wrap64 (a1_1 - a3_1)) * (wrap64 (a2_0 - a3_0)))))))) - (wrap64 ((wrap64 ((wrap64 ((wrap64 (a1_0 - a3_0)) * (wrap64 (a1_0 - a3_0)))) + (wrap64 ((wrap64 (a1_1 - a3_1)) * (wrap64 (a1_1 - a3_1)))))) * (wrap64 ((wrap64 ((wrap64 (a0_0 - a3_0)) * (wrap64 (a2_1 - a3_1)))) - (wrap64 ((wrap64 (a0_1 - a3_1)) * (wrap64 (a2_0 - a3_0)))))))))) + (wrap64 ((wrap64 ((wrap64 ((wrap64 (a2_0 - a3_0)) * (wrap64 (a2_0 - a3_0)))) + (wrap64 ((wrap64 (a2_1 - a3_1)) * (wrap64 (a2_1 - a3_1)))))) * (wrap64 ((wrap64 ((wrap64 (a0_0 - a3_0)) * (wrap64 (a1_1 - a3_1)))) - (wrap64 ((wrap64 (a0_1 - a3_1)) * (wrap64 (a1_0 - a3_0))))))))))).bind fun t475 => (some t475)) = some r := h
 clear h
 replace H := Option.bind_eq_some_iff.mp H
 obtain ⟨t475, A50, H⟩ := H
 try dsimp only at H
 have A5 := Aside0.mk A50
 clear A50
 obtain rfl := Option.some.inj H
 go_enter Try.func30, Try.ntmps30
 go_wp2_with (first | ((with_reducible refine gate_dst (N := 4) rfl ?_); refine bx 4 #[.int .i64 a0_0, .int .i64 a0_1] 23 ?_; intro gb471 hg w6 hbox hb; have BK471 := Aside0.mk hbox; have GW471 := u3 hg HB; have GE471 := u3 hg HB; replace HB := u2 HB hb; clear hb hbox hg) | ((with_reducible refine gate_dst (N := 5) rfl ?_); refine bx 5 #[.int .i64 a1_0, .int .i64 a1_1] 23 ?_; intro gb472 hg w7 hbox hb; have BK472 := Aside0.mk hbox; have GW472 := u3 hg HB; have GE472 := u3 hg HB; have NB471_472 := u4 hg BK471; have NB472_471 := u5 hg BK471; replace BK471 := u1 BK471 hb; replace HB := u2 HB hb; clear hb hbox hg) | ((with_reducible refine gate_dst (N := 6) rfl ?_); refine bx 6 #[.int .i64 a2_0, .int .i64 a2_1] 23 ?_; intro gb473 hg w8 hbox hb; have BK473 := Aside0.mk hbox; have GW473 := u3 hg HB; have GE473 := u3 hg HB; have NB471_473 := u4 hg BK471; have NB473_471 := u5 hg BK471; have NB472_473 := u4 hg BK472; have NB473_472 := u5 hg BK472; replace BK471 := u1 BK471 hb; replace BK472 := u1 BK472 hb; replace HB := u2 HB hb; clear hb hbox hg) | ((with_reducible refine gate_dst (N := 7) rfl ?_); refine bx 7 #[.int .i64 a3_0, .int .i64 a3_1] 23 ?_; intro gb474 hg w9 hbox hb; have BK474 := Aside0.mk hbox; have GW474 := u3 hg HB; have GE474 := u3 hg HB; have NB471_474 := u4 hg BK471; have NB474_471 := u5 hg BK471; have NB472_474 := u4 hg BK472; have NB474_472 := u5 hg BK472; have NB473_474 := u4 hg BK473; have NB474_473 := u5 hg BK473; replace BK471 := u1 BK471 hb; replace BK472 := u1 BK472 hb; replace BK473 := u1 BK473 hb; replace HB := u2 HB hb; clear hb hbox hg; have hnb10 := NB471_472.out; have hnc10 := NB472_471.out; have hnb11 := NB471_473.out; have hnc11 := NB473_471.out; have hnb12 := NB471_474.out; have hnc12 := NB474_471.out; obtain ⟨hcz13_0, hcz13_1, hfz13_0, hfz13_1⟩ := p2 BK471; have hnb14 := NB474_472.out; have hnc14 := NB472_474.out; have hnb15 := NB474_473.out; have hnc15 := NB473_474.out; obtain ⟨hcz16_0, hcz16_1, hfz16_0, hfz16_1⟩ := p2 BK474; have hnb17 := NB472_473.out; have hnc17 := NB473_472.out; obtain ⟨hcz18_0, hcz18_1, hfz18_0, hfz18_1⟩ := p2 BK472; obtain ⟨hcz19_0, hcz19_1, hfz19_0, hfz19_1⟩ := p2 BK473) | (go_at_call 22; (with_reducible refine (zelligeref07_sign.calls (wrap64 ((wrap64 ((wrap64 ((wrap64 ((wrap64 ((wrap64 (a0_0 - a3_0)) * (wrap64 (a0_0 - a3_0)))) + (wrap64 ((wrap64 (a0_1 - a3_1)) * (wrap64 (a0_1 - a3_1)))))) * (wrap64 ((wrap64 ((wrap64 (a1_0 - a3_0)) * (wrap64 (a2_1 - a3_1)))) - (wrap64 ((wrap64 (a1_1 - a3_1)) * (wrap64 (a2_0 - a3_0)))))))) - (wrap64 ((wrap64 ((wrap64 ((wrap64 (a1_0 - a3_0)) * (wrap64 (a1_0 - a3_0)))) + (wrap64 ((wrap64 (a1_1 - a3_1)) * (wrap64 (a1_1 - a3_1)))))) * (wrap64 ((wrap64 ((wrap64 (a0_0 - a3_0)) * (wrap64 (a2_1 - a3_1)))) - (wrap64 ((wrap64 (a0_1 - a3_1)) * (wrap64 (a2_0 - a3_0)))))))))) + (wrap64 ((wrap64 ((wrap64 ((wrap64 (a2_0 - a3_0)) * (wrap64 (a2_0 - a3_0)))) + (wrap64 ((wrap64 (a2_1 - a3_1)) * (wrap64 (a2_1 - a3_1)))))) * (wrap64 ((wrap64 ((wrap64 (a0_0 - a3_0)) * (wrap64 (a1_1 - a3_1)))) - (wrap64 ((wrap64 (a0_1 - a3_1)) * (wrap64 (a1_0 - a3_0)))))))))) t475 _ A5.out).mono ?_); rintro e w' ⟨rfl, ⟨nd, rfl⟩⟩; (try first | exact ⟨rfl, _, World.drewN_drewN _ _ _⟩ | exact ⟨rfl, _, Eq.trans (World.drewN_drewN _ _ _) (congrArg (World.drewN _) (Nat.add_assoc _ _ _))⟩)))
 repeat (go_quiet (first | ((with_reducible refine gate_dst (N := 4) rfl ?_); refine bx 4 #[.int .i64 a0_0, .int .i64 a0_1] 23 ?_; intro gb471 hg w6 hbox hb; have BK471 := Aside0.mk hbox; have GW471 := u3 hg HB; have GE471 := u3 hg HB; replace HB := u2 HB hb; clear hb hbox hg) | ((with_reducible refine gate_dst (N := 5) rfl ?_); refine bx 5 #[.int .i64 a1_0, .int .i64 a1_1] 23 ?_; intro gb472 hg w7 hbox hb; have BK472 := Aside0.mk hbox; have GW472 := u3 hg HB; have GE472 := u3 hg HB; have NB471_472 := u4 hg BK471; have NB472_471 := u5 hg BK471; replace BK471 := u1 BK471 hb; replace HB := u2 HB hb; clear hb hbox hg) | ((with_reducible refine gate_dst (N := 6) rfl ?_); refine bx 6 #[.int .i64 a2_0, .int .i64 a2_1] 23 ?_; intro gb473 hg w8 hbox hb; have BK473 := Aside0.mk hbox; have GW473 := u3 hg HB; have GE473 := u3 hg HB; have NB471_473 := u4 hg BK471; have NB473_471 := u5 hg BK471; have NB472_473 := u4 hg BK472; have NB473_472 := u5 hg BK472; replace BK471 := u1 BK471 hb; replace BK472 := u1 BK472 hb; replace HB := u2 HB hb; clear hb hbox hg) | ((with_reducible refine gate_dst (N := 7) rfl ?_); refine bx 7 #[.int .i64 a3_0, .int .i64 a3_1] 23 ?_; intro gb474 hg w9 hbox hb; have BK474 := Aside0.mk hbox; have GW474 := u3 hg HB; have GE474 := u3 hg HB; have NB471_474 := u4 hg BK471; have NB474_471 := u5 hg BK471; have NB472_474 := u4 hg BK472; have NB474_472 := u5 hg BK472; have NB473_474 := u4 hg BK473; have NB474_473 := u5 hg BK473; replace BK471 := u1 BK471 hb; replace BK472 := u1 BK472 hb; replace BK473 := u1 BK473 hb; replace HB := u2 HB hb; clear hb hbox hg; have hnb10 := NB471_472.out; have hnc10 := NB472_471.out; have hnb11 := NB471_473.out; have hnc11 := NB473_471.out; have hnb12 := NB471_474.out; have hnc12 := NB474_471.out; obtain ⟨hcz13_0, hcz13_1, hfz13_0, hfz13_1⟩ := p2 BK471; have hnb14 := NB474_472.out; have hnc14 := NB472_474.out; have hnb15 := NB474_473.out; have hnc15 := NB473_474.out; obtain ⟨hcz16_0, hcz16_1, hfz16_0, hfz16_1⟩ := p2 BK474; have hnb17 := NB472_473.out; have hnc17 := NB473_472.out; obtain ⟨hcz18_0, hcz18_1, hfz18_0, hfz18_1⟩ := p2 BK472; obtain ⟨hcz19_0, hcz19_1, hfz19_0, hfz19_1⟩ := p2 BK473) | (go_at_call 22; (with_reducible refine (zelligeref07_sign.calls (wrap64 ((wrap64 ((wrap64 ((wrap64 ((wrap64 ((wrap64 (a0_0 - a3_0)) * (wrap64 (a0_0 - a3_0)))) + (wrap64 ((wrap64 (a0_1 - a3_1)) * (wrap64 (a0_1 - a3_1)))))) * (wrap64 ((wrap64 ((wrap64 (a1_0 - a3_0)) * (wrap64 (a2_1 - a3_1)))) - (wrap64 ((wrap64 (a1_1 - a3_1)) * (wrap64 (a2_0 - a3_0)))))))) - (wrap64 ((wrap64 ((wrap64 ((wrap64 (a1_0 - a3_0)) * (wrap64 (a1_0 - a3_0)))) + (wrap64 ((wrap64 (a1_1 - a3_1)) * (wrap64 (a1_1 - a3_1)))))) * (wrap64 ((wrap64 ((wrap64 (a0_0 - a3_0)) * (wrap64 (a2_1 - a3_1)))) - (wrap64 ((wrap64 (a0_1 - a3_1)) * (wrap64 (a2_0 - a3_0)))))))))) + (wrap64 ((wrap64 ((wrap64 ((wrap64 (a2_0 - a3_0)) * (wrap64 (a2_0 - a3_0)))) + (wrap64 ((wrap64 (a2_1 - a3_1)) * (wrap64 (a2_1 - a3_1)))))) * (wrap64 ((wrap64 ((wrap64 (a0_0 - a3_0)) * (wrap64 (a1_1 - a3_1)))) - (wrap64 ((wrap64 (a0_1 - a3_1)) * (wrap64 (a1_0 - a3_0)))))))))) t475 _ A5.out).mono ?_); rintro e w' ⟨rfl, ⟨nd, rfl⟩⟩; (try first | exact ⟨rfl, _, World.drewN_drewN _ _ _⟩ | exact ⟨rfl, _, Eq.trans (World.drewN_drewN _ _ _) (congrArg (World.drewN _) (Nat.add_assoc _ _ _))⟩))); try go_wp2_with (first | ((with_reducible refine gate_dst (N := 4) rfl ?_); refine bx 4 #[.int .i64 a0_0, .int .i64 a0_1] 23 ?_; intro gb471 hg w6 hbox hb; have BK471 := Aside0.mk hbox; have GW471 := u3 hg HB; have GE471 := u3 hg HB; replace HB := u2 HB hb; clear hb hbox hg) | ((with_reducible refine gate_dst (N := 5) rfl ?_); refine bx 5 #[.int .i64 a1_0, .int .i64 a1_1] 23 ?_; intro gb472 hg w7 hbox hb; have BK472 := Aside0.mk hbox; have GW472 := u3 hg HB; have GE472 := u3 hg HB; have NB471_472 := u4 hg BK471; have NB472_471 := u5 hg BK471; replace BK471 := u1 BK471 hb; replace HB := u2 HB hb; clear hb hbox hg) | ((with_reducible refine gate_dst (N := 6) rfl ?_); refine bx 6 #[.int .i64 a2_0, .int .i64 a2_1] 23 ?_; intro gb473 hg w8 hbox hb; have BK473 := Aside0.mk hbox; have GW473 := u3 hg HB; have GE473 := u3 hg HB; have NB471_473 := u4 hg BK471; have NB473_471 := u5 hg BK471; have NB472_473 := u4 hg BK472; have NB473_472 := u5 hg BK472; replace BK471 := u1 BK471 hb; replace BK472 := u1 BK472 hb; replace HB := u2 HB hb; clear hb hbox hg) | ((with_reducible refine gate_dst (N := 7) rfl ?_); refine bx 7 #[.int .i64 a3_0, .int .i64 a3_1] 23 ?_; intro gb474 hg w9 hbox hb; have BK474 := Aside0.mk hbox; have GW474 := u3 hg HB; have GE474 := u3 hg HB; have NB471_474 := u4 hg BK471; have NB474_471 := u5 hg BK471; have NB472_474 := u4 hg BK472; have NB474_472 := u5 hg BK472; have NB473_474 := u4 hg BK473; have NB474_473 := u5 hg BK473; replace BK471 := u1 BK471 hb; replace BK472 := u1 BK472 hb; replace BK473 := u1 BK473 hb; replace HB := u2 HB hb; clear hb hbox hg; have hnb10 := NB471_472.out; have hnc10 := NB472_471.out; have hnb11 := NB471_473.out; have hnc11 := NB473_471.out; have hnb12 := NB471_474.out; have hnc12 := NB474_471.out; obtain ⟨hcz13_0, hcz13_1, hfz13_0, hfz13_1⟩ := p2 BK471; have hnb14 := NB474_472.out; have hnc14 := NB472_474.out; have hnb15 := NB474_473.out; have hnc15 := NB473_474.out; obtain ⟨hcz16_0, hcz16_1, hfz16_0, hfz16_1⟩ := p2 BK474; have hnb17 := NB472_473.out; have hnc17 := NB473_472.out; obtain ⟨hcz18_0, hcz18_1, hfz18_0, hfz18_1⟩ := p2 BK472; obtain ⟨hcz19_0, hcz19_1, hfz19_0, hfz19_1⟩ := p2 BK473) | (go_at_call 22; (with_reducible refine (zelligeref07_sign.calls (wrap64 ((wrap64 ((wrap64 ((wrap64 ((wrap64 ((wrap64 (a0_0 - a3_0)) * (wrap64 (a0_0 - a3_0)))) + (wrap64 ((wrap64 (a0_1 - a3_1)) * (wrap64 (a0_1 - a3_1)))))) * (wrap64 ((wrap64 ((wrap64 (a1_0 - a3_0)) * (wrap64 (a2_1 - a3_1)))) - (wrap64 ((wrap64 (a1_1 - a3_1)) * (wrap64 (a2_0 - a3_0)))))))) - (wrap64 ((wrap64 ((wrap64 ((wrap64 (a1_0 - a3_0)) * (wrap64 (a1_0 - a3_0)))) + (wrap64 ((wrap64 (a1_1 - a3_1)) * (wrap64 (a1_1 - a3_1)))))) * (wrap64 ((wrap64 ((wrap64 (a0_0 - a3_0)) * (wrap64 (a2_1 - a3_1)))) - (wrap64 ((wrap64 (a0_1 - a3_1)) * (wrap64 (a2_0 - a3_0)))))))))) + (wrap64 ((wrap64 ((wrap64 ((wrap64 (a2_0 - a3_0)) * (wrap64 (a2_0 - a3_0)))) + (wrap64 ((wrap64 (a2_1 - a3_1)) * (wrap64 (a2_1 - a3_1)))))) * (wrap64 ((wrap64 ((wrap64 (a0_0 - a3_0)) * (wrap64 (a1_1 - a3_1)))) - (wrap64 ((wrap64 (a0_1 - a3_1)) * (wrap64 (a1_0 - a3_0)))))))))) t475 _ A5.out).mono ?_); rintro e w' ⟨rfl, ⟨nd, rfl⟩⟩; (try first | exact ⟨rfl, _, World.drewN_drewN _ _ _⟩ | exact ⟨rfl, _, Eq.trans (World.drewN_drewN _ _ _) (congrArg (World.drewN _) (Nat.add_assoc _ _ _))⟩))))
 go_ret
 exact ⟨by first | rfl | (simp [*, errW_none, errW_some] <;> rfl), bw HB.out⟩
end Go.Proofs.Ytlkngfidohiepaa.F
end
