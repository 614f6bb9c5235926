/- PredAreas: own texts in one (part 2 of 5): contracts of the functions that the law reaches. -/
import Derived.Test.YtmeckkckjikjiaaBPredAreasa

section
namespace Go.Proofs.Ytmeckkckjikjiaa.F
open RowKit YtmeckkckjikjiaaW.PrintWords YtmeckkckjikjiaaW.PrintLast YtmeckkckjikjiaaW.PrintMore
set_option linter.unusedVariables false
set_option linter.unusedSimpArgs false
mutual
def zelligeref03_Mul.l0 : Nat → List Int → List Int → List Int → Int → Option (List Int)
 | 0, _, _, _, _ => none
 | k + 1, x0, x1, x5, x6 => if x6 < (x0.length : Int) then (zelligeref03_Mul.l1 k x0 x1 x5 x6 0 0) else ((zelligeref03_Trim.f k x5).bind fun t397 => (some t397))
def zelligeref03_Mul.l1 : Nat → List Int → List Int → List Int → Int → Int → Int → Option (List Int)
 | 0, _, _, _, _, _, _ => none
 | k + 1, x0, x1, x5, x6, x7, x8 => if x8 < (x1.length : Int) then (if 0 ≤ (wrap64 (x6 + x8)) then (if (wrap64 (x6 + x8)) < (x5.length : Int) then (if 0 ≤ x6 then (if x6 < (x0.length : Int) then (if 0 ≤ x8 then (zelligeref03_Mul.l1 k x0 x1 (x5.set ((wrap64 (x6 + x8)) : Int).toNat (Int.tmod (wrap64 ((wrap64 (x7 + (rd x5 (wrap64 (x6 + x8))))) + (wrap64 ((rd x0 x6) * (rd x1 x8))))) 65536)) x6 (wrap64 (Int.tdiv (wrap64 ((wrap64 (x7 + (rd x5 (wrap64 (x6 + x8))))) + (wrap64 ((rd x0 x6) * (rd x1 x8))))) 65536)) (wrap64 (x8 + 1))) else (none)) else (none)) else (none)) else (none)) else (none)) else (if 0 ≤ (wrap64 (x6 + (x1.length : Int))) then (if (wrap64 (x6 + (x1.length : Int))) < (x5.length : Int) then (zelligeref03_Mul.l0 k x0 x1 (x5.set ((wrap64 (x6 + (x1.length : Int))) : Int).toNat x7) (wrap64 (x6 + 1))) else (none)) else (none))
end
def zelligeref03_Mul.f (k : Nat) (l0 : List Int) (l1 : List Int) : Option (List Int) := if 0 ≤ (wrap64 ((l0.length : Int) + (l1.length : Int))) then (if (wrap64 ((l0.length : Int) + (l1.length : Int)) : Int).toNat ≤ 35184372088832 then (zelligeref03_Mul.l0 k l0 l1 (List.replicate (wrap64 ((l0.length : Int) + (l1.length : Int)) : Int).toNat 0) 0) else (none)) else (none)
theorem zelligeref03_Mul.mono_l : ∀ k, (∀ y0 y1 y2 y3, LeO (zelligeref03_Mul.l0 k y0 y1 y2 y3) (zelligeref03_Mul.l0 (k + 1) y0 y1 y2 y3)) ∧ (∀ y0 y1 y2 y3 y4 y5, LeO (zelligeref03_Mul.l1 k y0 y1 y2 y3 y4 y5) (zelligeref03_Mul.l1 (k + 1) y0 y1 y2 y3 y4 y5))
 | 0 => ⟨fun _ _ _ _ r h => by simp [zelligeref03_Mul.l0] at h, fun _ _ _ _ _ _ r h => by simp [zelligeref03_Mul.l1] at h⟩
 | k + 1 => by
  obtain ⟨ih0, ih1⟩ := zelligeref03_Mul.mono_l k
  refine ⟨?_, ?_⟩
  ·intro y0 y1 y2 y3
   unfold zelligeref03_Mul.l0
   repeat' first
   | (with_reducible exact ih0 _ _ _ _)
   | (with_reducible exact ih1 _ _ _ _ _ _)
   | (with_reducible exact zelligeref03_Trim.mono _ _)
   | (with_reducible exact LeO.refl _)
   | (with_reducible exact LeO.none _)
   | (with_reducible refine LeO.ite ?_ ?_)
   | (with_reducible refine LeO.bind ?_ (fun _ => ?_))
   | exact ih0 _ _ _ _
   | exact ih1 _ _ _ _ _ _
   | exact zelligeref03_Trim.mono _ _
   | exact LeO.none _
   | refine LeO.ite ?_ ?_
   | refine LeO.bind ?_ (fun _ => ?_)
  ·intro y0 y1 y2 y3 y4 y5
   unfold zelligeref03_Mul.l1
   repeat' first
   | (with_reducible exact ih0 _ _ _ _)
   | (with_reducible exact ih1 _ _ _ _ _ _)
   | (with_reducible exact zelligeref03_Trim.mono _ _)
   | (with_reducible exact LeO.refl _)
   | (with_reducible exact LeO.none _)
   | (with_reducible refine LeO.ite ?_ ?_)
   | (with_reducible refine LeO.bind ?_ (fun _ => ?_))
   | exact ih0 _ _ _ _
   | exact ih1 _ _ _ _ _ _
   | exact zelligeref03_Trim.mono _ _
   | exact LeO.none _
   | refine LeO.ite ?_ ?_
   | refine LeO.bind ?_ (fun _ => ?_)
theorem zelligeref03_Mul.mono : ∀ a0 a1 k, LeO (zelligeref03_Mul.f k a0 a1) (zelligeref03_Mul.f (k + 1) a0 a1) := by
 intro a0 a1 k
 obtain ⟨ih0, ih1⟩ := zelligeref03_Mul.mono_l k
 unfold zelligeref03_Mul.f
 repeat' first
   | (with_reducible exact ih0 _ _ _ _)
   | (with_reducible exact ih1 _ _ _ _ _ _)
   | (with_reducible exact zelligeref03_Trim.mono _ _)
   | (with_reducible exact LeO.refl _)
   | (with_reducible exact LeO.none _)
   | (with_reducible refine LeO.ite ?_ ?_)
   | (with_reducible refine LeO.bind ?_ (fun _ => ?_))
   | exact ih0 _ _ _ _
   | exact ih1 _ _ _ _ _ _
   | exact zelligeref03_Trim.mono _ _
   | exact LeO.none _
   | refine LeO.ite ?_ ?_
   | refine LeO.bind ?_ (fun _ => ?_)
set_option maxHeartbeats 8000000 in
set_option maxRecDepth 100000 in
theorem zelligeref03_Mul.calls (k : Nat) (A0 : Option Addr) (c0 : Nat) (l0 : List Int) (A1 : Option Addr) (c1 : Nat) (l1 : List Int) (r : List Int) (w : World) (hr0 : Kd.C (Kd.int .i64) w A0 l0.length l0) (hc0 : l0.length ≤ c0) (hr1 : Kd.C (Kd.int .i64) w A1 l1.length l1) (hc1 : l1.length ≤ c1) (h : zelligeref03_Mul.f k l0 l1 = some r) :
  Calls Try.prog 55 #[.slice A0 l0.length c0, .slice A1 l1.length c1] w fun e w' => ∃ v0_ : Value, e = .returned (v0_) ∧ Kd.R (Kd.int .i64) 3 w' w.heap.size (fun _ => True) v0_ r ∧ Below w.heap.size w w' := by
 have HR0 := Aside0.mk hr0
 have HC0 := Aside0.mk hc0
 clear hr0 hc0
 have HR1 := Aside0.mk hr1
 have HC1 := Aside0.mk hc1
 clear hr1 hc1
 have HB := Aside0.mk (Below.refl w.heap.size w)
 have H : (if 0 ≤ (wrap64 ((l0.length : Int) + (l1.length : Int))) then (if (wrap64 ((l0.length : Int) + (l1.length : Int)) : Int).toNat ≤ 35184372088832 then (zelligeref03_Mul.l0 k l0 l1 (List.replicate (wrap64 ((l0.length : Int) + (l1.length : Int)) : Int).toNat 0) 0) else (none)) else (none)) = some r := h
 clear h
 obtain ⟨ji3, hji3⟩ : ∃ j_ : Int, (wrap64 ((l0.length : Int) + (l1.length : Int))) = j_ := ⟨_, rfl⟩
 replace H : (if 0 ≤ (ji3) then (if (ji3 : Int).toNat ≤ 35184372088832 then (zelligeref03_Mul.l0 k l0 l1 (List.replicate (ji3 : Int).toNat 0) 0) else (none)) else (none)) = some r := by first | (rw [hji3] at H; exact H) | (simp only [hji3] at H ⊢; exact H)
 have hji3w : (IntKind.i64.wrap ((l0.length : Int) + (l1.length : Int))) = ji3 := (i64_w _).trans hji3
 by_cases c4 : 0 ≤ (ji3)
 ·rw [if_pos c4] at H
  have c4b0 := eq_true c4
  have c4b1 : decide (0 ≤ (ji3)) = true := decide_eq_true c4
  clear c4
  by_cases c5 : (ji3 : Int).toNat ≤ 35184372088832
  ·rw [if_pos c5] at H
   have c5b0 := eq_true c5
   have c5b1 : decide ((ji3 : Int).toNat ≤ 35184372088832) = true := decide_eq_true c5
   clear c5
   obtain ⟨y394, hy394⟩ : ∃ y_ : List Int, y_ = (List.replicate (ji3 : Int).toNat 0) := ⟨_, rfl⟩
   replace H : (zelligeref03_Mul.l0 k l0 l1 y394 0) = some r := by first | (rw [hy394]; with_reducible exact H) | (have H2_ := (Option.bind_some _ _).symm.trans H; rw [hy394]; with_reducible exact H2_) | (have H2_ := (Option.bind_some _ _).symm.trans H; with_reducible exact H2_) | with_reducible exact H | (rw [hy394]; exact H) | exact H
   have Ny394 := Aside0.mk hy394
   clear hy394
   have H' := Aside0.mk H
   clear H
   go_enter Try.func55, Try.ntmps55
   go_wp2_with (first | ((with_reducible refine gate_dst (N := 14) rfl ?_); refine Kd.R_make (Kd.int .i64) _ 3 rfl (N := 14) rfl 30 _ _ rfl ji3 rfl rfl Try.underlying30 (.int .i64 0) 8 info3 rfl (by decide) (by omega) 0 (ok := fun _ => True) (okp := fun _ => True) rfl (fun _ hk => hk) trivial (of_decide_eq_true (by first | (with_reducible assumption) | assumption)) (Nat.le_trans (Nat.mul_le_mul_right _ (of_decide_eq_true (by first | (with_reducible assumption) | assumption) : ji3.toNat ≤ 35184372088832)) (by omega)) (Below.refl _ _) (Nat.le_refl _) ?_; intro v395 w6 ho7 hb hg_ hnew_; clear hg_ hnew_; (first | rw [← Ny394.out] at ho7 | (simp only [Int.reduceToNat] at ho7; rw [← Ny394.out] at ho7)); have n0_ := Aside0.mk (Kd.R_lower ho7 (below_size (bw HB.out))); have n1_ := u2 HB hb; clear HB; have HO396 := n0_; have HB := n1_; clear n0_ n1_; clear hb ho7))
   repeat (go_quiet (first | ((with_reducible refine gate_dst (N := 14) rfl ?_); refine Kd.R_make (Kd.int .i64) _ 3 rfl (N := 14) rfl 30 _ _ rfl ji3 rfl rfl Try.underlying30 (.int .i64 0) 8 info3 rfl (by decide) (by omega) 0 (ok := fun _ => True) (okp := fun _ => True) rfl (fun _ hk => hk) trivial (of_decide_eq_true (by first | (with_reducible assumption) | assumption)) (Nat.le_trans (Nat.mul_le_mul_right _ (of_decide_eq_true (by first | (with_reducible assumption) | assumption) : ji3.toNat ≤ 35184372088832)) (by omega)) (Below.refl _ _) (Nat.le_refl _) ?_; intro v395 w6 ho7 hb hg_ hnew_; clear hg_ hnew_; (first | rw [← Ny394.out] at ho7 | (simp only [Int.reduceToNat] at ho7; rw [← Ny394.out] at ho7)); have n0_ := Aside0.mk (Kd.R_lower ho7 (below_size (bw HB.out))); have n1_ := u2 HB hb; clear HB; have HO396 := n0_; have HB := n1_; clear n0_ n1_; clear hb ho7)); try go_wp2_with (first | ((with_reducible refine gate_dst (N := 14) rfl ?_); refine Kd.R_make (Kd.int .i64) _ 3 rfl (N := 14) rfl 30 _ _ rfl ji3 rfl rfl Try.underlying30 (.int .i64 0) 8 info3 rfl (by decide) (by omega) 0 (ok := fun _ => True) (okp := fun _ => True) rfl (fun _ hk => hk) trivial (of_decide_eq_true (by first | (with_reducible assumption) | assumption)) (Nat.le_trans (Nat.mul_le_mul_right _ (of_decide_eq_true (by first | (with_reducible assumption) | assumption) : ji3.toNat ≤ 35184372088832)) (by omega)) (Below.refl _ _) (Nat.le_refl _) ?_; intro v395 w6 ho7 hb hg_ hnew_; clear hg_ hnew_; (first | rw [← Ny394.out] at ho7 | (simp only [Int.reduceToNat] at ho7; rw [← Ny394.out] at ho7)); have n0_ := Aside0.mk (Kd.R_lower ho7 (below_size (bw HB.out))); have n1_ := u2 HB hb; clear HB; have HO396 := n0_; have HB := n1_; clear n0_ n1_; clear hb ho7)))
   go_loopg [6] k (fun kq v6 w' => ∃ (x5_1 : List Int) (x6_1 : Int), v6 = .int .i64 x6_1 ∧ Aside0 (zelligeref03_Mul.l0 kq l0 l1 x5_1 x6_1 = some r) ∧ Aside0 (kq ≤ k) ∧ Aside0 (Kd.R (Kd.int .i64) 3 w' w.heap.size (fun _ => True) v395 x5_1) ∧ Aside0 (Below w.heap.size w w'))
   case atStart => exact ⟨(y394), (0), (by first | rfl | (simp; done) | (simp [*]; done)), H', ⟨Nat.le_refl _⟩, ⟨by (with_reducible repeat (first | apply Kd.R_alloc | apply Kd.R_drewN | apply Kd.R_drew)); exact HO396.out⟩, ⟨bw HB.out⟩⟩
   case round =>
    clear H'
    try clear c1
    try clear p2
    try clear c4
    try clear c4b0
    try clear c4b1
    try clear c5
    try clear c5b0
    try clear c5b1
    try clear p6
    obtain ⟨x5_1, x6_1, rfl, HA, HK1, HO_5, HB⟩ := hrel
    cases gk with
    | zero => exact absurd HA.out (by simp [zelligeref03_Mul.l0])
    | succ k1 =>
     have H := HA.out
     clear HA
     simp only [zelligeref03_Mul.l0] at H
     by_cases c8 : x6_1 < (l0.length : Int)
     ·rw [if_pos c8] at H
      have c8b0 : decide (x6_1 < (l0.length : Int)) = true := decide_eq_true c8
      clear c8
      have H' := Aside0.mk H
      clear H
      go_wp2
      repeat (go_quiet (fail); try go_wp2)
      go_loopg [7, 8] k1 (fun kq v7 v8 w' => ∃ (x5_2 : List Int) (x7_2 : Int) (x8_2 : Int), v7 = .int .i64 x7_2 ∧ v8 = .int .i64 x8_2 ∧ Aside0 (zelligeref03_Mul.l1 kq l0 l1 x5_2 x6_1 x7_2 x8_2 = some r) ∧ Aside0 (kq ≤ k1) ∧ Aside0 (Kd.R (Kd.int .i64) 3 w' w.heap.size (fun _ => True) v395 x5_2) ∧ Aside0 (Below w.heap.size w w'))
      case atStart => exact ⟨(x5_1), (0), (0), (by first | rfl | (simp; done) | (simp [*]; done)), (by first | rfl | (simp; done) | (simp [*]; done)), H', ⟨Nat.le_refl _⟩, ⟨by (with_reducible repeat (first | apply Kd.R_alloc | apply Kd.R_drewN | apply Kd.R_drew)); exact HO_5.out⟩, ⟨bw HB.out⟩⟩
      case round =>
       clear H'
       try clear c1
       try clear p2
       try clear c4
       try clear c4b0
       try clear c4b1
       try clear c5
       try clear c5b0
       try clear c5b1
       try clear p6
       try clear c8
       try clear c8b0
       try clear p2
       try clear p6
       obtain ⟨x5_2, x7_2, x8_2, rfl, rfl, HA, HK2, HO_5, HB⟩ := hrel
       cases gk with
       | zero => exact absurd HA.out (by simp [zelligeref03_Mul.l1])
       | succ k2 =>
        have H := HA.out
        clear HA
        simp only [zelligeref03_Mul.l1] at H
        by_cases c9 : x8_2 < (l1.length : Int)
        ·rw [if_pos c9] at H
         have c9b0 : decide (x8_2 < (l1.length : Int)) = true := decide_eq_true c9
         clear c9
         obtain ⟨ji10, hji10⟩ : ∃ j_ : Int, (wrap64 (x6_1 + x8_2)) = j_ := ⟨_, rfl⟩
         replace H : (if 0 ≤ (ji10) then (if (ji10) < (x5_2.length : Int) then (if 0 ≤ x6_1 then (if x6_1 < (l0.length : Int) then (if 0 ≤ x8_2 then (zelligeref03_Mul.l1 k2 l0 l1 (x5_2.set ((ji10) : Int).toNat (Int.tmod (wrap64 ((wrap64 (x7_2 + (rd x5_2 (ji10)))) + (wrap64 ((rd l0 x6_1) * (rd l1 x8_2))))) 65536)) x6_1 (wrap64 (Int.tdiv (wrap64 ((wrap64 (x7_2 + (rd x5_2 (ji10)))) + (wrap64 ((rd l0 x6_1) * (rd l1 x8_2))))) 65536)) (wrap64 (x8_2 + 1))) else (none)) else (none)) else (none)) else (none)) else (none)) = some r := by first | (rw [hji10] at H; exact H) | (simp only [hji10] at H ⊢; exact H)
         have hji10w : (IntKind.i64.wrap (x6_1 + x8_2)) = ji10 := (i64_w _).trans hji10
         by_cases c11 : 0 ≤ (ji10)
         ·rw [if_pos c11] at H
          have c11b0 : decide (0 ≤ (ji10)) = true := decide_eq_true c11
          clear c11
          by_cases c12 : (ji10) < (x5_2.length : Int)
          ·rw [if_pos c12] at H
           have c12b0 : decide ((ji10) < (x5_2.length : Int)) = true := decide_eq_true c12
           clear c12
           by_cases c13 : 0 ≤ x6_1
           ·rw [if_pos c13] at H
            have c13b0 : decide (0 ≤ x6_1) = true := decide_eq_true c13
            clear c13
            by_cases c14 : x6_1 < (l0.length : Int)
            ·rw [if_pos c14] at H
             have c14b0 : decide (x6_1 < (l0.length : Int)) = true := decide_eq_true c14
             clear c14
             by_cases c15 : 0 ≤ x8_2
             ·rw [if_pos c15] at H
              have c15b0 : decide (0 ≤ x8_2) = true := decide_eq_true c15
              clear c15
              obtain ⟨y403, hy403⟩ : ∃ y_ : List Int, y_ = (x5_2.set ((ji10) : Int).toNat (Int.tmod (wrap64 ((wrap64 (x7_2 + (rd x5_2 (ji10)))) + (wrap64 ((rd l0 x6_1) * (rd l1 x8_2))))) 65536)) := ⟨_, rfl⟩
              replace H : (zelligeref03_Mul.l1 k2 l0 l1 y403 x6_1 (wrap64 (Int.tdiv (wrap64 ((wrap64 (x7_2 + (rd x5_2 (ji10)))) + (wrap64 ((rd l0 x6_1) * (rd l1 x8_2))))) 65536)) (wrap64 (x8_2 + 1))) = some r := by first | (rw [hy403]; with_reducible exact H) | (have H2_ := (Option.bind_some _ _).symm.trans H; rw [hy403]; with_reducible exact H2_) | (have H2_ := (Option.bind_some _ _).symm.trans H; with_reducible exact H2_) | with_reducible exact H | (rw [hy403]; exact H) | exact H
              have Ny403 := Aside0.mk hy403
              clear hy403
              have H' := Aside0.mk H
              clear H
              obtain ⟨Ao17, co17, eo17⟩ := Kd.R_slice HO_5.out
              subst eo17
              have p400 : 0 ≤ ((ji10) : Int) := dt_
              have q400 : (ji10) < (x5_2.length : Int) := dt_
              obtain ⟨ad400, e400, hx400_0⟩ := Kd.at_int (Kd.R_reads' HO_5.out).2.2 (ji10) p400 q400
              cases e400
              replace p400 := eq_true p400
              replace q400 := eq_true q400
              have p401 : 0 ≤ (x6_1 : Int) := dt_
              have q401 : x6_1 < (l0.length : Int) := dt_
              obtain ⟨ad401, e401, hx401_0⟩ := Kd.at_int HR0.out x6_1 p401 q401
              cases e401
              replace hx401_0 := (HB.out.cell (World.block_lt_of_cell? w _ hx401_0)).trans hx401_0
              replace p401 := eq_true p401
              replace q401 := eq_true q401
              have p402 : 0 ≤ (x8_2 : Int) := dt_
              have q402 : x8_2 < (l1.length : Int) := dt_
              obtain ⟨ad402, e402, hx402_0⟩ := Kd.at_int HR1.out x8_2 p402 q402
              cases e402
              replace hx402_0 := (HB.out.cell (World.block_lt_of_cell? w _ hx402_0)).trans hx402_0
              replace p402 := eq_true p402
              replace q402 := eq_true q402
              have p16 : 0 ≤ ((ji10) : Int) := dt_
              have q16 : ((ji10) : Int) < ((x5_2.length : Int) : Int) := dt_
              obtain ⟨go16, co16, eo16, gb16, gl16, cl16, HG16⟩ := Kd.R_form HO_5.out (by omega)
              (first | cases eo16 | (injection eo16 with ea_ en_ ec_; (first | subst ea_ | (injection ea_ with ea_; subst ea_)); subst ec_; clear en_))
              have GB16 := Aside0.mk gb16
              have GG16 := Aside0.mk HG16
              clear gb16 gl16 HG16
              (first | simp only [add_plain] at hx400_0 | skip)
              obtain ⟨hx16_0, hf16_0⟩ := Kd.R_celln 0 HO_5.out ((ji10) : Int) p16 q16
              replace p16 := eq_true p16
              replace q16 := eq_true q16
              have HP18 := Kd.R_putg HO_5.out ((ji10) : Int) (Int.tmod (wrap64 ((wrap64 (x7_2 + (rd x5_2 (ji10)))) + (wrap64 ((rd l0 x6_1) * (rd l1 x8_2))))) 65536)
              go_wp2_with (first | ((with_reducible refine gate_store (t := 3) (p := 53) rfl ?_); (try (rw [drewN_self wr]; generalize hq_ : World.drewN wr _ = wr; have n0_ := Aside0.mk (Kd.R_at hq_ HO_5.out); have n1_ := Aside0.mk (below_at hq_ HB.out); clear hq_ HO_5 HB; have HO_5 := n0_; have HB := n1_; clear n0_ n1_; (try (obtain ⟨hxHP18_, hfHP18_⟩ := Kd.R_celln 0 HO_5.out ((ji10) : Int) (of_eq_true (by assumption)) (of_eq_true (by assumption)))); (try (have HP18 := Kd.R_putg HO_5.out ((ji10) : Int) (Int.tmod (wrap64 ((wrap64 (x7_2 + (rd x5_2 (ji10)))) + (wrap64 ((rd l0 x6_1) * (rd l1 x8_2))))) 65536))))); refine store_event (t := 3) (p := 53) (v := ?vo_w19) (w1 := (wr.setCell ⟨go16, ((ji10) : Int).toNat, none⟩ (.int .i64 (Int.tmod (wrap64 ((wrap64 (x7_2 + (rd x5_2 (ji10)))) + (wrap64 ((rd l0 x6_1) * (rd l1 x8_2))))) 65536)))) ?hg ?ho ?hn ?hr ?_; (case ho => rfl); (case hg => rfl); (case hn => rfl); (case hr => first | (go_simp; done) | (go_simp; rfl)); intro w19 hw; have hg : wr.grownBy w19 (some go16) := (by rw [hw]; exact HP18.2); have hp_ : Kd.R (Kd.int .i64) 3 w19 w.heap.size (fun _ => True) (.slice (some ⟨go16, 0, none⟩) x5_2.length co17) y403 := (by rw [hw, Ny403.out]; exact HP18.1); clear HP18; have n0_ := Aside0.mk (hp_); have n1_ := Aside0.mk ((by rw [hw]; exact below_set (HB.out) GB16.out : Below w.heap.size w w19)); clear HO_5; clear HB; have HO_5 := n0_; have HB := n1_; clear n0_ n1_; clear hg hw hp_))
              repeat (go_quiet (first | ((with_reducible refine gate_store (t := 3) (p := 53) rfl ?_); (try (rw [drewN_self wr]; generalize hq_ : World.drewN wr _ = wr; have n0_ := Aside0.mk (Kd.R_at hq_ HO_5.out); have n1_ := Aside0.mk (below_at hq_ HB.out); clear hq_ HO_5 HB; have HO_5 := n0_; have HB := n1_; clear n0_ n1_; (try (obtain ⟨hxHP18_, hfHP18_⟩ := Kd.R_celln 0 HO_5.out ((ji10) : Int) (of_eq_true (by assumption)) (of_eq_true (by assumption)))); (try (have HP18 := Kd.R_putg HO_5.out ((ji10) : Int) (Int.tmod (wrap64 ((wrap64 (x7_2 + (rd x5_2 (ji10)))) + (wrap64 ((rd l0 x6_1) * (rd l1 x8_2))))) 65536))))); refine store_event (t := 3) (p := 53) (v := ?vo_w19) (w1 := (wr.setCell ⟨go16, ((ji10) : Int).toNat, none⟩ (.int .i64 (Int.tmod (wrap64 ((wrap64 (x7_2 + (rd x5_2 (ji10)))) + (wrap64 ((rd l0 x6_1) * (rd l1 x8_2))))) 65536)))) ?hg ?ho ?hn ?hr ?_; (case ho => rfl); (case hg => rfl); (case hn => rfl); (case hr => first | (go_simp; done) | (go_simp; rfl)); intro w19 hw; have hg : wr.grownBy w19 (some go16) := (by rw [hw]; exact HP18.2); have hp_ : Kd.R (Kd.int .i64) 3 w19 w.heap.size (fun _ => True) (.slice (some ⟨go16, 0, none⟩) x5_2.length co17) y403 := (by rw [hw, Ny403.out]; exact HP18.1); clear HP18; have n0_ := Aside0.mk (hp_); have n1_ := Aside0.mk ((by rw [hw]; exact below_set (HB.out) GB16.out : Below w.heap.size w w19)); clear HO_5; clear HB; have HO_5 := n0_; have HB := n1_; clear n0_ n1_; clear hg hw hp_)); try go_wp2_with (first | ((with_reducible refine gate_store (t := 3) (p := 53) rfl ?_); (try (rw [drewN_self wr]; generalize hq_ : World.drewN wr _ = wr; have n0_ := Aside0.mk (Kd.R_at hq_ HO_5.out); have n1_ := Aside0.mk (below_at hq_ HB.out); clear hq_ HO_5 HB; have HO_5 := n0_; have HB := n1_; clear n0_ n1_; (try (obtain ⟨hxHP18_, hfHP18_⟩ := Kd.R_celln 0 HO_5.out ((ji10) : Int) (of_eq_true (by assumption)) (of_eq_true (by assumption)))); (try (have HP18 := Kd.R_putg HO_5.out ((ji10) : Int) (Int.tmod (wrap64 ((wrap64 (x7_2 + (rd x5_2 (ji10)))) + (wrap64 ((rd l0 x6_1) * (rd l1 x8_2))))) 65536))))); refine store_event (t := 3) (p := 53) (v := ?vo_w19) (w1 := (wr.setCell ⟨go16, ((ji10) : Int).toNat, none⟩ (.int .i64 (Int.tmod (wrap64 ((wrap64 (x7_2 + (rd x5_2 (ji10)))) + (wrap64 ((rd l0 x6_1) * (rd l1 x8_2))))) 65536)))) ?hg ?ho ?hn ?hr ?_; (case ho => rfl); (case hg => rfl); (case hn => rfl); (case hr => first | (go_simp; done) | (go_simp; rfl)); intro w19 hw; have hg : wr.grownBy w19 (some go16) := (by rw [hw]; exact HP18.2); have hp_ : Kd.R (Kd.int .i64) 3 w19 w.heap.size (fun _ => True) (.slice (some ⟨go16, 0, none⟩) x5_2.length co17) y403 := (by rw [hw, Ny403.out]; exact HP18.1); clear HP18; have n0_ := Aside0.mk (hp_); have n1_ := Aside0.mk ((by rw [hw]; exact below_set (HB.out) GB16.out : Below w.heap.size w w19)); clear HO_5; clear HB; have HO_5 := n0_; have HB := n1_; clear n0_ n1_; clear hg hw hp_)))
              go_roundg k2
              case measure => have := HK1.out; have := HK2.out; omega
              case rel => exact ⟨(y403), (wrap64 (Int.tdiv (wrap64 ((wrap64 (x7_2 + (rd x5_2 (ji10)))) + (wrap64 ((rd l0 x6_1) * (rd l1 x8_2))))) 65536)), (wrap64 (x8_2 + 1)), (by first | rfl | (simp; done) | (simp only [← hji10] <;> (first | rfl | simp)) | (simp [*]; done)), (by first | rfl | (simp; done) | (simp [*]; done)), H', ⟨by have := HK1.out; have := HK2.out; omega⟩, ⟨by (with_reducible repeat (first | apply Kd.R_alloc | apply Kd.R_drewN | apply Kd.R_drew)); exact HO_5.out⟩, ⟨bw HB.out⟩⟩
             ·rw [if_neg c15] at H
              exact absurd H (by simp)
            ·rw [if_neg c14] at H
             exact absurd H (by simp)
           ·rw [if_neg c13] at H
            exact absurd H (by simp)
          ·rw [if_neg c12] at H
           exact absurd H (by simp)
         ·rw [if_neg c11] at H
          exact absurd H (by simp)
        ·rw [if_neg c9] at H
         have c9b0 : decide (x8_2 < (l1.length : Int)) = false := decide_eq_false c9
         clear c9
         obtain ⟨ji20, hji20⟩ : ∃ j_ : Int, (wrap64 (x6_1 + (l1.length : Int))) = j_ := ⟨_, rfl⟩
         replace H : (if 0 ≤ (ji20) then (if (ji20) < (x5_2.length : Int) then (zelligeref03_Mul.l0 k2 l0 l1 (x5_2.set ((ji20) : Int).toNat x7_2) (wrap64 (x6_1 + 1))) else (none)) else (none)) = some r := by first | (rw [hji20] at H; exact H) | (simp only [hji20] at H ⊢; exact H)
         have hji20w : (IntKind.i64.wrap (x6_1 + (l1.length : Int))) = ji20 := (i64_w _).trans hji20
         by_cases c21 : 0 ≤ (ji20)
         ·rw [if_pos c21] at H
          have c21b0 : decide (0 ≤ (ji20)) = true := decide_eq_true c21
          clear c21
          by_cases c22 : (ji20) < (x5_2.length : Int)
          ·rw [if_pos c22] at H
           have c22b0 : decide ((ji20) < (x5_2.length : Int)) = true := decide_eq_true c22
           clear c22
           obtain ⟨y404, hy404⟩ : ∃ y_ : List Int, y_ = (x5_2.set ((ji20) : Int).toNat x7_2) := ⟨_, rfl⟩
           replace H : (zelligeref03_Mul.l0 k2 l0 l1 y404 (wrap64 (x6_1 + 1))) = some r := by first | (rw [hy404]; with_reducible exact H) | (have H2_ := (Option.bind_some _ _).symm.trans H; rw [hy404]; with_reducible exact H2_) | (have H2_ := (Option.bind_some _ _).symm.trans H; with_reducible exact H2_) | with_reducible exact H | (rw [hy404]; exact H) | exact H
           have Ny404 := Aside0.mk hy404
           clear hy404
           have H' := Aside0.mk H
           clear H
           have p23 : 0 ≤ ((ji20) : Int) := dt_
           have q23 : ((ji20) : Int) < ((x5_2.length : Int) : Int) := dt_
           obtain ⟨go23, co23, eo23, gb23, gl23, cl23, HG23⟩ := Kd.R_form HO_5.out (by omega)
           (first | cases eo23 | (injection eo23 with ea_ en_ ec_; (first | subst ea_ | (injection ea_ with ea_; subst ea_)); subst ec_; clear en_))
           have GB23 := Aside0.mk gb23
           have GG23 := Aside0.mk HG23
           clear gb23 gl23 HG23
           obtain ⟨hx23_0, hf23_0⟩ := Kd.R_celln 0 HO_5.out ((ji20) : Int) p23 q23
           replace p23 := eq_true p23
           replace q23 := eq_true q23
           have HP24 := Kd.R_putg HO_5.out ((ji20) : Int) x7_2
           go_wp2_with (first | ((with_reducible refine gate_store (t := 3) (p := 60) rfl ?_); (try (rw [drewN_self wr]; generalize hq_ : World.drewN wr _ = wr; have n0_ := Aside0.mk (Kd.R_at hq_ HO_5.out); have n1_ := Aside0.mk (below_at hq_ HB.out); clear hq_ HO_5 HB; have HO_5 := n0_; have HB := n1_; clear n0_ n1_; (try (obtain ⟨hxHP24_, hfHP24_⟩ := Kd.R_celln 0 HO_5.out ((ji20) : Int) (of_eq_true (by assumption)) (of_eq_true (by assumption)))); (try (have HP24 := Kd.R_putg HO_5.out ((ji20) : Int) x7_2)))); refine store_event (t := 3) (p := 60) (v := ?vo_w25) (w1 := (wr.setCell ⟨go23, ((ji20) : Int).toNat, none⟩ (.int .i64 x7_2))) ?hg ?ho ?hn ?hr ?_; (case ho => rfl); (case hg => rfl); (case hn => rfl); (case hr => first | (go_simp; done) | (go_simp; rfl)); intro w25 hw; have hg : wr.grownBy w25 (some go23) := (by rw [hw]; exact HP24.2); have hp_ : Kd.R (Kd.int .i64) 3 w25 w.heap.size (fun _ => True) (.slice (some ⟨go23, 0, none⟩) x5_2.length co23) y404 := (by rw [hw, Ny404.out]; exact HP24.1); clear HP24; have n0_ := Aside0.mk (hp_); have n1_ := Aside0.mk ((by rw [hw]; exact below_set (HB.out) GB23.out : Below w.heap.size w w25)); clear HO_5; clear HB; have HO_5 := n0_; have HB := n1_; clear n0_ n1_; clear hg hw hp_))
           repeat (go_quiet (first | ((with_reducible refine gate_store (t := 3) (p := 60) rfl ?_); (try (rw [drewN_self wr]; generalize hq_ : World.drewN wr _ = wr; have n0_ := Aside0.mk (Kd.R_at hq_ HO_5.out); have n1_ := Aside0.mk (below_at hq_ HB.out); clear hq_ HO_5 HB; have HO_5 := n0_; have HB := n1_; clear n0_ n1_; (try (obtain ⟨hxHP24_, hfHP24_⟩ := Kd.R_celln 0 HO_5.out ((ji20) : Int) (of_eq_true (by assumption)) (of_eq_true (by assumption)))); (try (have HP24 := Kd.R_putg HO_5.out ((ji20) : Int) x7_2)))); refine store_event (t := 3) (p := 60) (v := ?vo_w25) (w1 := (wr.setCell ⟨go23, ((ji20) : Int).toNat, none⟩ (.int .i64 x7_2))) ?hg ?ho ?hn ?hr ?_; (case ho => rfl); (case hg => rfl); (case hn => rfl); (case hr => first | (go_simp; done) | (go_simp; rfl)); intro w25 hw; have hg : wr.grownBy w25 (some go23) := (by rw [hw]; exact HP24.2); have hp_ : Kd.R (Kd.int .i64) 3 w25 w.heap.size (fun _ => True) (.slice (some ⟨go23, 0, none⟩) x5_2.length co23) y404 := (by rw [hw, Ny404.out]; exact HP24.1); clear HP24; have n0_ := Aside0.mk (hp_); have n1_ := Aside0.mk ((by rw [hw]; exact below_set (HB.out) GB23.out : Below w.heap.size w w25)); clear HO_5; clear HB; have HO_5 := n0_; have HB := n1_; clear n0_ n1_; clear hg hw hp_)); try go_wp2_with (first | ((with_reducible refine gate_store (t := 3) (p := 60) rfl ?_); (try (rw [drewN_self wr]; generalize hq_ : World.drewN wr _ = wr; have n0_ := Aside0.mk (Kd.R_at hq_ HO_5.out); have n1_ := Aside0.mk (below_at hq_ HB.out); clear hq_ HO_5 HB; have HO_5 := n0_; have HB := n1_; clear n0_ n1_; (try (obtain ⟨hxHP24_, hfHP24_⟩ := Kd.R_celln 0 HO_5.out ((ji20) : Int) (of_eq_true (by assumption)) (of_eq_true (by assumption)))); (try (have HP24 := Kd.R_putg HO_5.out ((ji20) : Int) x7_2)))); refine store_event (t := 3) (p := 60) (v := ?vo_w25) (w1 := (wr.setCell ⟨go23, ((ji20) : Int).toNat, none⟩ (.int .i64 x7_2))) ?hg ?ho ?hn ?hr ?_; (case ho => rfl); (case hg => rfl); (case hn => rfl); (case hr => first | (go_simp; done) | (go_simp; rfl)); intro w25 hw; have hg : wr.grownBy w25 (some go23) := (by rw [hw]; exact HP24.2); have hp_ : Kd.R (Kd.int .i64) 3 w25 w.heap.size (fun _ => True) (.slice (some ⟨go23, 0, none⟩) x5_2.length co23) y404 := (by rw [hw, Ny404.out]; exact HP24.1); clear HP24; have n0_ := Aside0.mk (hp_); have n1_ := Aside0.mk ((by rw [hw]; exact below_set (HB.out) GB23.out : Below w.heap.size w w25)); clear HO_5; clear HB; have HO_5 := n0_; have HB := n1_; clear n0_ n1_; clear hg hw hp_)))
           go_roundg k2
           case measure => have := HK1.out; have := HK2.out; omega
           case rel => exact ⟨(y404), (wrap64 (x6_1 + 1)), (by first | rfl | (simp; done) | (simp [*]; done)), H', ⟨by have := HK1.out; have := HK2.out; omega⟩, ⟨by (with_reducible repeat (first | apply Kd.R_alloc | apply Kd.R_drewN | apply Kd.R_drew)); exact HO_5.out⟩, ⟨bw HB.out⟩⟩
          ·rw [if_neg c22] at H
           exact absurd H (by simp)
         ·rw [if_neg c21] at H
          exact absurd H (by simp)
     ·rw [if_neg c8] at H
      have c8b0 : decide (x6_1 < (l0.length : Int)) = false := decide_eq_false c8
      clear c8
      replace H := Option.bind_eq_some_iff.mp H
      obtain ⟨t397, A260, H⟩ := H
      try dsimp only at H
      have A26 := Aside0.mk A260
      clear A260
      obtain rfl := Option.some.inj H
      obtain ⟨Ao27, co27, eo27⟩ := Kd.R_slice HO_5.out
      subst eo27
      go_wp2_with (first | (go_at_call 64; (with_reducible refine (zelligeref03_Trim.calls k1 (fun k_ => some k_ = (.slice Ao27 x5_1.length co27 : Value).ownBlock) (.slice Ao27 x5_1.length co27) x5_1 t397 w _ ?side1 ?side2 A26.out).mono ?_); (case side1 => repeat (first | (with_reducible first | exact HB.out | apply below_alloc | apply pw_below_drewN | apply below_drew1) | exact HB.out)); (case side2 => exact Kd.R_tight rfl HO_5.out); rintro e w28 ⟨v398, rfl, ho0, hb, hkp⟩; have n0_ := Aside0.mk (Kd.R_mono (ok' := fun k_ => True) ho0 (fun k_ hk_ => trivial)); have n1_ := Aside0.mk (hb); clear HB; clear HO_5; have HO399 := n0_; have HB := n1_; clear n0_ n1_; (try clear hb); (try clear hkp); (try clear ho0)))
      repeat (go_quiet (first | (go_at_call 64; (with_reducible refine (zelligeref03_Trim.calls k1 (fun k_ => some k_ = (.slice Ao27 x5_1.length co27 : Value).ownBlock) (.slice Ao27 x5_1.length co27) x5_1 t397 w _ ?side1 ?side2 A26.out).mono ?_); (case side1 => repeat (first | (with_reducible first | exact HB.out | apply below_alloc | apply pw_below_drewN | apply below_drew1) | exact HB.out)); (case side2 => exact Kd.R_tight rfl HO_5.out); rintro e w28 ⟨v398, rfl, ho0, hb, hkp⟩; have n0_ := Aside0.mk (Kd.R_mono (ok' := fun k_ => True) ho0 (fun k_ hk_ => trivial)); have n1_ := Aside0.mk (hb); clear HB; clear HO_5; have HO399 := n0_; have HB := n1_; clear n0_ n1_; (try clear hb); (try clear hkp); (try clear ho0))); try go_wp2_with (first | (go_at_call 64; (with_reducible refine (zelligeref03_Trim.calls k1 (fun k_ => some k_ = (.slice Ao27 x5_1.length co27 : Value).ownBlock) (.slice Ao27 x5_1.length co27) x5_1 t397 w _ ?side1 ?side2 A26.out).mono ?_); (case side1 => repeat (first | (with_reducible first | exact HB.out | apply below_alloc | apply pw_below_drewN | apply below_drew1) | exact HB.out)); (case side2 => exact Kd.R_tight rfl HO_5.out); rintro e w28 ⟨v398, rfl, ho0, hb, hkp⟩; have n0_ := Aside0.mk (Kd.R_mono (ok' := fun k_ => True) ho0 (fun k_ hk_ => trivial)); have n1_ := Aside0.mk (hb); clear HB; clear HO_5; have HO399 := n0_; have HB := n1_; clear n0_ n1_; (try clear hb); (try clear hkp); (try clear ho0))))
      go_ret
      exact ⟨_, by first | rfl | (simp [errW_none, errW_some] <;> rfl) | (simp only [← hji3]; first | rfl | (simp [errW_none, errW_some] <;> rfl)) | (simp [*, errW_none, errW_some] <;> rfl), by (with_reducible repeat (first | apply Kd.R_alloc | apply Kd.R_drewN | apply Kd.R_drew)); exact HO399.out, bw HB.out⟩
  ·rw [if_neg c5] at H
   exact absurd H (by simp)
 ·rw [if_neg c4] at H
  exact absurd H (by simp)
end Go.Proofs.Ytmeckkckjikjiaa.F
end
section
namespace Go.Proofs.Ytmeckkckjikjiaa.Dig
open Go RowKit YtmeckkckjikjiaaW.PrintWords Ytmeckkckjikjiaa.F
attribute [local irreducible] val P
theorem rd_nat (l : List Int) (n : Nat) : rd l (n : Int) = l.getD n 0 := by unfold rd; simp
theorem trim_l0 {l : List Int} (hl : Dg l) (hn : l.length ≤ 1000000) : ∀ (n k : Nat), n ≤ l.length → n < k → val (l.drop n) = 0 →
  ∃ r, zelligeref03_Trim.l0 k l (n : Int) = some r ∧ Cn r ∧ val r = val l := by
 intro n
 induction n with
 | zero =>
  intro k _ hk hz
  obtain ⟨k, rfl⟩ : ∃ m, k = m + 1 := ⟨k - 1, by omega⟩
  refine ⟨[], ?_, Cn_nil, ?_⟩
  ·rw [zelligeref03_Trim.l0, if_neg (by omega), if_pos (by omega), if_pos (by omega)]; simp
  ·rw [List.drop_zero] at hz; rw [hz, val]
 | succ n ih =>
  intro k hle hk hz
  obtain ⟨k, rfl⟩ : ∃ m, k = m + 1 := ⟨k - 1, by omega⟩
  have e1 : wrap64 (((n + 1 : Nat) : Int) - 1) = (n : Int) := by rw [w64 (by omega) (by omega)]; omega
  rw [zelligeref03_Trim.l0, if_pos (by omega), e1, if_pos (by omega), if_pos (by omega), rd_nat]
  have e2 := val_drop (l := l) (i := n) (by omega)
  by_cases h0 : l.getD n 0 = 0
  ·rw [if_pos h0]
   exact ih k (by omega) (by omega) (by omega)
  ·rw [if_neg h0, if_pos (by omega), if_pos (by omega)]
   refine ⟨_, rfl, ⟨Dg_take hl _, .inr ?_⟩, ?_⟩
   ·rw [List.length_take, show ((n + 1 : Nat) : Int).toNat = n + 1 from by omega, Nat.min_eq_left hle, take_succ' (by omega), List.getD_eq_getElem?_getD, List.getElem?_append_right (by rw [List.length_take]; omega)]
    rw [List.length_take, Nat.min_eq_left (by omega)]
    simpa using h0
   ·have e3 := val_take_drop l (n + 1) hle
    rw [hz, Int.mul_zero, Int.add_zero] at e3
    rw [show ((n + 1 : Nat) : Int).toNat = n + 1 from by omega, ← e3]
theorem trim_f {l : List Int} (hl : Dg l) (hn : l.length ≤ 1000000) {k : Nat} (hk : l.length < k) : ∃ r, zelligeref03_Trim.f k l = some r ∧ Cn r ∧ val r = val l :=
 trim_l0 hl hn l.length k (Nat.le_refl _) hk (val_drop_all (Nat.le_refl _))
theorem add_l0 {a b : List Int} (ha : Dg a) (hb : Dg b) (na : a.length ≤ 10000) (nb : b.length ≤ 10000) : ∀ (d k i : Nat) (out : List Int) (c T : Int), max a.length b.length - i = d → i ≤ max a.length b.length →
  2 * d + max a.length b.length + 4 < k → out.length = i → Dg out → 0 ≤ c → c ≤ 1 → val out + P i * (c + val (a.drop i) + val (b.drop i)) = T →
  ∃ r, zelligeref03_Add.l0 k a b out c (i : Int) = some r ∧ Cn r ∧ val r = T := by
 intro d
 induction d with
 | zero =>
  intro k i out c T hd hi hk ho hD c0 c1 hT
  obtain ⟨k, rfl⟩ : ∃ m, k = m + 2 := ⟨k - 2, by omega⟩
  rw [zelligeref03_Add.l0, if_neg (by omega), zelligeref03_Add.j1, show decide ((i : Int) < (b.length : Int)) = false from decide_eq_false (by omega), if_neg (by decide), if_pos (by omega)]
  rw [val_drop_all (by omega), val_drop_all (by omega)] at hT
  obtain ⟨r, hr, h1, h2⟩ := trim_f (l := out ++ [c]) (Dg_app.2 ⟨hD, Dg_one c0 (by omega)⟩) (by rw [List.length_append]; simp; omega) (k := k) (by rw [List.length_append]; simp; omega)
  refine ⟨r, by rw [hr]; rfl, h1, ?_⟩
  rw [h2, val_snoc, ho]
  simpa using hT
 | succ d ih =>
  intro k i out c T hd hi hk ho hD c0 c1 hT
  obtain ⟨k, rfl⟩ : ∃ m, k = m + 2 := ⟨k - 2, by omega⟩
  have ei : wrap64 ((i : Int) + 1) = ((i + 1 : Nat) : Int) := by rw [w64 (by omega) (by omega)]; omega
  have gA := Dg_get ha i
  have gB := Dg_get hb i
  have f1 : max a.length b.length - (i + 1) = d := by clear hT; omega
  have f2 : i + 1 ≤ max a.length b.length := by clear hT; omega
  have f3 : 2 * d + max a.length b.length + 4 < k := by clear hT; omega
  have step : ∀ s, 0 ≤ s → s ≤ 131072 → (s = c + a.getD i 0 + b.getD i 0) → (val (a.drop i) = a.getD i 0 + 65536 * val (a.drop (i + 1))) → (val (b.drop i) = b.getD i 0 + 65536 * val (b.drop (i + 1))) →
    ∃ r, zelligeref03_Add.l0 k a b (out ++ [Int.tmod s 65536]) (wrap64 (Int.tdiv s 65536)) ((i + 1 : Nat) : Int) = some r ∧ Cn r ∧ val r = T := by
   intro s s0 s1 es eA eB
   rw [Int.tmod_eq_emod_of_nonneg s0, Int.tdiv_eq_ediv_of_nonneg s0, w64 (x := s / 65536) (by clear hT eA eB; omega) (by clear hT eA eB; omega)]
   have g1 : 0 ≤ s % 65536 := by clear hT eA eB; omega
   have g2 : s % 65536 < 65536 := by clear hT eA eB; omega
   have g3 : 0 ≤ s / 65536 := by clear hT eA eB; omega
   have g4 : s / 65536 ≤ 1 := by clear hT eA eB; omega
   have g5 : (out ++ [s % 65536]).length = i + 1 := by rw [List.length_append, ho]; rfl
   refine ih k (i + 1) _ _ T f1 f2 f3 g5 (Dg_app.2 ⟨hD, Dg_one g1 g2⟩) g3 g4 ?_
   rw [val_snoc, ho, P]
   have e : s = s % 65536 + 65536 * (s / 65536) := by omega
   rw [eA, eB] at hT
   generalize s % 65536 = m at *
   generalize s / 65536 = q at *
   generalize P i = p at *
   grind
  clear hT
  have eA : val (a.drop i) = a.getD i 0 + 65536 * val (a.drop (i + 1)) := by
   by_cases h : i < a.length
   ·exact val_drop h
   ·rw [val_drop_all (by omega), val_drop_all (by omega), List.getD_eq_getElem?_getD, List.getElem?_eq_none (by omega)]; rfl
  have eB : val (b.drop i) = b.getD i 0 + 65536 * val (b.drop (i + 1)) := by
   by_cases h : i < b.length
   ·exact val_drop h
   ·rw [val_drop_all (by omega), val_drop_all (by omega), List.getD_eq_getElem?_getD, List.getElem?_eq_none (by omega)]; rfl
  by_cases h1 : i < a.length
  ·rw [zelligeref03_Add.l0, if_pos (by omega), zelligeref03_Add.j1, if_pos rfl, if_pos (by omega), if_pos (by omega), rd_nat, rd_nat, ei]
   by_cases h2 : i < b.length
   ·rw [if_pos (by omega), if_pos (by omega), w64 (x := c + a.getD i 0) (by omega) (by omega), w64 (x := c + a.getD i 0 + b.getD i 0) (by omega) (by omega)]
    exact step _ (by omega) (by omega) rfl eA eB
   ·have z : b.getD i 0 = 0 := by rw [List.getD_eq_getElem?_getD, List.getElem?_eq_none (by omega)]; rfl
    rw [if_neg (by omega), if_pos (by omega), w64 (x := c + a.getD i 0) (by omega) (by omega)]
    exact step _ (by omega) (by omega) (by omega) eA eB
  ·have z : a.getD i 0 = 0 := by rw [List.getD_eq_getElem?_getD, List.getElem?_eq_none (by omega)]; rfl
   have h2 : i < b.length := by omega
   rw [zelligeref03_Add.l0, if_neg (by omega), show decide ((i : Int) < (b.length : Int)) = true from decide_eq_true (by omega), zelligeref03_Add.j1, if_pos rfl, if_neg (by omega), if_pos (by omega), if_pos (by omega), if_pos (by omega), rd_nat, ei, w64 (x := c + b.getD i 0) (by omega) (by omega)]
   exact step _ (by omega) (by omega) (by omega) eA eB
theorem add_f (a b : Nat) (na : (dig a).length ≤ 10000) (nb : (dig b).length ≤ 10000) {k : Nat} (hk : 40000 < k) : zelligeref03_Add.f k (dig a) (dig b) = some (dig (a + b)) := by
 obtain ⟨r, hr, h1, h2⟩ := add_l0 (dig_Dg a) (dig_Dg b) na nb _ k 0 [] 0 _ rfl (by omega) (by omega) rfl Dg_nil (by omega) (by omega) rfl
 unfold zelligeref03_Add.f
 rw [show zelligeref03_Add.l0 k (dig a) (dig b) [] 0 0 = some r from hr]
 congr 1
 refine eq_dig_of h1 ?_
 rw [h2]
 simp only [val, P, List.drop_zero, dig_val]
 omega
theorem cmp_l0 {a b : List Int} (ha : Dg a) (hb : Dg b) (hl : a.length = b.length) (na : a.length ≤ 10000) : ∀ (n k : Nat), n ≤ a.length → n + 1 < k → val (a.drop n) = val (b.drop n) →
  zelligeref03_Cmp.l0 k a b ((n : Int) - 1) = some (if val a < val b then -1 else if val a > val b then 1 else 0) := by
 intro n
 induction n with
 | zero =>
  intro k _ hk he
  obtain ⟨k, rfl⟩ : ∃ m, k = m + 1 := ⟨k - 1, by omega⟩
  rw [zelligeref03_Cmp.l0, if_neg (by omega)]
  rw [List.drop_zero, List.drop_zero] at he
  rw [if_neg (by omega), if_neg (by omega)]
 | succ n ih =>
  intro k hn hk he
  obtain ⟨k, rfl⟩ : ∃ m, k = m + 1 := ⟨k - 1, by omega⟩
  have e0 : (((n + 1 : Nat) : Int) - 1) = (n : Int) := by omega
  rw [e0, zelligeref03_Cmp.l0, if_pos (by omega), if_pos (by omega), if_pos (by omega), if_pos (by omega), rd_nat, rd_nat, w64 (x := (n : Int) - 1) (by omega) (by omega)]
  have gA := Dg_get ha n
  have gB := Dg_get hb n
  have eA := val_drop (l := a) (i := n) (by omega)
  have eB := val_drop (l := b) (i := n) (by omega)
  have tA := val_take_drop a n (by omega)
  have tB := val_take_drop b n (by omega)
  have lA := val_lt (Dg_take ha n)
  have lB := val_lt (Dg_take hb n)
  rw [List.length_take, Nat.min_eq_left (by omega)] at lA lB
  have zA := val_nonneg (Dg_take ha n)
  have zB := val_nonneg (Dg_take hb n)
  have hP := P_pos n
  by_cases h1 : a.getD n 0 < b.getD n 0
  ·rw [if_pos h1]
   have h3 : P n * (val (b.drop n) - val (a.drop n)) ≥ P n * 1 := Int.mul_le_mul_of_nonneg_left (by omega) (by omega)
   rw [Int.mul_sub] at h3
   rw [if_pos (by omega)]
  ·rw [if_neg h1]
   by_cases h2 : a.getD n 0 > b.getD n 0
   ·rw [if_pos h2]
    have h3 : P n * (val (a.drop n) - val (b.drop n)) ≥ P n * 1 := Int.mul_le_mul_of_nonneg_left (by omega) (by omega)
    rw [Int.mul_sub] at h3
    rw [if_neg (by omega), if_pos (by omega)]
   ·rw [if_neg h2]
    exact ih k (by omega) (by omega) (by omega)
theorem cmp_f (a b : Nat) (na : (dig a).length ≤ 10000) {k : Nat} (hk : 40000 < k) : zelligeref03_Cmp.f k (dig a) (dig b) = some (if a < b then -1 else if a > b then 1 else 0) := by
 unfold zelligeref03_Cmp.f
 by_cases h1 : (dig a).length < (dig b).length
 ·rw [if_pos (by omega)]
  have := Cn_longer (dig_Dg a) (dig_Cn b) h1
  rw [dig_val, dig_val] at this
  rw [if_pos (by omega)]
 ·rw [if_neg (by omega)]
  by_cases h2 : (dig b).length < (dig a).length
  ·rw [if_pos (by omega)]
   have := Cn_longer (dig_Dg b) (dig_Cn a) h2
   rw [dig_val, dig_val] at this
   rw [if_neg (by omega), if_pos (by omega)]
  ·rw [if_neg (by omega), w64 (by omega) (by omega), cmp_l0 (dig_Dg a) (dig_Dg b) (by omega) na (dig a).length k (Nat.le_refl _) (by omega) (by rw [val_drop_all (Nat.le_refl _), val_drop_all (by omega)]), dig_val, dig_val]
   congr 1
   by_cases h3 : a < b
   ·rw [if_pos h3, if_pos (by omega)]
   ·rw [if_neg h3, if_neg (by omega)]
    by_cases h4 : a > b
    ·rw [if_pos h4, if_pos (by omega)]
    ·rw [if_neg h4, if_neg (by omega)]
theorem sub_l0 {a b : List Int} (ha : Dg a) (hb : Dg b) (na : a.length ≤ 10000) (nb : b.length ≤ a.length) : ∀ (d k i : Nat) (out : List Int) (c T : Int), a.length - i = d → i ≤ a.length →
  d + a.length + 4 < k → out.length = i → Dg out → 0 ≤ c → c ≤ 1 → val out + P i * (val (a.drop i) - val (b.drop i) - c) = T → 0 ≤ T →
  ∃ r, zelligeref03_Sub.l0 k a b out c (i : Int) = some r ∧ Cn r ∧ val r = T := by
 intro d
 induction d with
 | zero =>
  intro k i out c T hd hi hk ho hD c0 c1 hT hT0
  obtain ⟨k, rfl⟩ : ∃ m, k = m + 1 := ⟨k - 1, by omega⟩
  rw [zelligeref03_Sub.l0, if_neg (by omega)]
  rw [val_drop_all (by omega), val_drop_all (by omega)] at hT
  obtain ⟨r, hr, h1, h2⟩ := trim_f (l := out) hD (by omega) (k := k) (by omega)
  refine ⟨r, by rw [hr]; rfl, h1, ?_⟩
  rw [h2]
  have hc : c = 0 := by
   by_cases h : c = 0
   ·exact h
   ·have hv := val_lt hD
    rw [ho] at hv
    have : c = 1 := by omega
    subst this
    omega
  subst hc
  omega
 | succ d ih =>
  intro k i out c T hd hi hk ho hD c0 c1 hT hT0
  obtain ⟨k, rfl⟩ : ∃ m, k = m + 1 := ⟨k - 1, by omega⟩
  have ei : wrap64 ((i : Int) + 1) = ((i + 1 : Nat) : Int) := by rw [w64 (by omega) (by omega)]; omega
  have gA := Dg_get ha i
  have gB := Dg_get hb i
  have f0 : i < a.length := by clear hT; omega
  have f1 : a.length - (i + 1) = d := by clear hT; omega
  have f3 : d + a.length + 4 < k := by clear hT; omega
  have eA := val_drop (l := a) (i := i) f0
  have eB : val (b.drop i) = b.getD i 0 + 65536 * val (b.drop (i + 1)) := by
   clear hT eA
   by_cases h : i < b.length
   ·exact val_drop h
   ·rw [val_drop_all (by omega), val_drop_all (by omega), List.getD_eq_getElem?_getD, List.getElem?_eq_none (by omega)]; rfl
  have step : ∀ m q, 0 ≤ m → m < 65536 → 0 ≤ q → q ≤ 1 → a.getD i 0 - c - b.getD i 0 = m - 65536 * q → ∃ r, zelligeref03_Sub.l0 k a b (out ++ [m]) q ((i + 1 : Nat) : Int) = some r ∧ Cn r ∧ val r = T := by
   intro m q m0 m1 q0 q1 e
   have g5 : (out ++ [m]).length = i + 1 := by rw [List.length_append, ho]; rfl
   refine ih k (i + 1) _ _ T f1 f0 f3 g5 (Dg_app.2 ⟨hD, Dg_one m0 m1⟩) q0 q1 ?_ hT0
   rw [val_snoc, ho, P]
   rw [eA, eB] at hT
   generalize P i = p at *
   grind
  clear hT eA eB
  rw [zelligeref03_Sub.l0, if_pos (show (i : Int) < (a.length : Int) by omega), if_pos (by omega), rd_nat, rd_nat, ei, w64 (x := a.getD i 0 - c) (by omega) (by omega)]
  by_cases h2 : i < b.length
  ·rw [if_pos (by omega), w64 (x := a.getD i 0 - c - b.getD i 0) (by omega) (by omega)]
   by_cases h3 : a.getD i 0 - c - b.getD i 0 < 0
   ·rw [if_pos h3, if_pos (by omega), w64 (by omega) (by omega)]
    exact step _ _ (by omega) (by omega) (by omega) (by omega) (by omega)
   ·rw [if_neg h3, if_pos (by omega)]
    exact step _ _ (by omega) (by omega) (by omega) (by omega) (by omega)
  ·have z : b.getD i 0 = 0 := by rw [List.getD_eq_getElem?_getD, List.getElem?_eq_none (by omega)]; rfl
   rw [if_neg (by omega)]
   by_cases h3 : a.getD i 0 - c < 0
   ·rw [if_pos h3, if_pos (by omega), w64 (by omega) (by omega)]
    exact step _ _ (by omega) (by omega) (by omega) (by omega) (by omega)
   ·rw [if_neg h3, if_pos (by omega)]
    exact step _ _ (by omega) (by omega) (by omega) (by omega) (by omega)
theorem sub_f (a b : Nat) (h : b ≤ a) (na : (dig a).length ≤ 10000) {k : Nat} (hk : 40000 < k) : zelligeref03_Sub.f k (dig a) (dig b) = some (dig (a - b)) := by
 obtain ⟨r, hr, h1, h2⟩ := sub_l0 (dig_Dg a) (dig_Dg b) na (dig_len_mono h) _ k 0 [] 0 _ rfl (by omega) (by omega) rfl Dg_nil (by omega) (by omega) rfl (by simp only [val, P, List.drop_zero, dig_val]; omega)
 unfold zelligeref03_Sub.f
 rw [show zelligeref03_Sub.l0 k (dig a) (dig b) [] 0 0 = some r from hr]
 congr 1
 refine eq_dig_of h1 ?_
 rw [h2]
 simp only [val, P, List.drop_zero, dig_val]
 omega
theorem of_two (x y : Int) (x0 : 0 ≤ x) (x1 : x < 4294967296) (y0 : 0 ≤ y) (y1 : y < 4294967296) {k : Nat} (hk : 20 < k) : zelligeref03_Of.f k [x, y] = some (dig (x + 4294967296 * y).toNat) := by
 obtain ⟨k, rfl⟩ : ∃ m, k = m + 3 := ⟨k - 3, by omega⟩
 unfold zelligeref03_Of.f
 have t1 : ∀ z : Int, 0 ≤ z → z < 4294967296 → wrap64 (Int.tmod z 65536) = z % 65536 ∧ wrap64 (IntKind.u32.wrap (Int.tdiv z 65536)) = z / 65536 := by
  intro z z0 z1
  rw [Int.tmod_eq_emod_of_nonneg z0, Int.tdiv_eq_ediv_of_nonneg z0]
  refine ⟨w64 (by omega) (by omega), ?_⟩
  have : IntKind.u32.wrap (z / 65536) = z / 65536 := by simp [IntKind.wrap, IntKind.bits, IntKind.signed]; omega
  rw [this, w64 (by omega) (by omega)]
 have r0 : rd [x, y] 0 = x := rfl
 have r1 : rd [x, y] 1 = y := rfl
 have e0 : wrap64 ((0 : Int) + 1) = 1 := w64 (by omega) (by omega)
 have e1 : wrap64 ((1 : Int) + 1) = 2 := w64 (by omega) (by omega)
 rw [zelligeref03_Of.l0, if_pos (by simp), if_pos (by omega), r0, (t1 x x0 x1).1, (t1 x x0 x1).2, e0]
 simp only [Option.bind_some]
 rw [if_pos (by simp), zelligeref03_Of.l0, if_pos (by simp), if_pos (by omega), r1, (t1 y y0 y1).1, (t1 y y0 y1).2, e1]
 simp only [Option.bind_some]
 rw [if_pos (by simp), zelligeref03_Of.l0, if_neg (by simp)]
 obtain ⟨r, hr, h1, h2⟩ := trim_f (l := ([] ++ [x % 65536, x / 65536]) ++ [y % 65536, y / 65536]) (by
  intro d hd
  simp at hd
  rcases hd with rfl | rfl | rfl | rfl <;> omega) (by simp) (k := k) (by simp; omega)
 rw [hr]
 simp only [Option.bind_some]
 congr 1
 refine eq_dig_of h1 ?_
 rw [h2]
 simp only [List.nil_append, List.cons_append, val]
 omega
end Go.Proofs.Ytmeckkckjikjiaa.Dig
end
section
namespace Go.Proofs.Ytmeckkckjikjiaa.F
open RowKit YtmeckkckjikjiaaW.PrintWords YtmeckkckjikjiaaW.PrintLast YtmeckkckjikjiaaW.PrintMore
set_option linter.unusedVariables false
set_option linter.unusedSimpArgs false
def zelligeref04_Long.f (k : Nat) (a0 : Int) : Option (Int × List Int) := if a0 = 0 then (some (0, ([] : List Int))) else (if a0 < 0 then ((zelligeref03_Of.f k (([(IntKind.u64.wrap (-(IntKind.u64.wrap (a0)))) % 4294967296, ((IntKind.u64.wrap (-(IntKind.u64.wrap (a0)))) / 4294967296) % 4294967296] : List Int))).bind fun t322 => (some ((-1), t322))) else ((zelligeref03_Of.f k (([(IntKind.u64.wrap (a0)) % 4294967296, ((IntKind.u64.wrap (a0)) / 4294967296) % 4294967296] : List Int))).bind fun t328 => (some (1, t328))))
theorem zelligeref04_Long.mono : ∀ a0 k, LeO (zelligeref04_Long.f k a0) (zelligeref04_Long.f (k + 1) a0) := by
 intro a0 k
 unfold zelligeref04_Long.f
 repeat' first
   | (with_reducible exact zelligeref03_Of.mono _ _)
   | (with_reducible exact LeO.refl _)
   | (with_reducible exact LeO.none _)
   | (with_reducible refine LeO.ite ?_ ?_)
   | (with_reducible refine LeO.bind ?_ (fun _ => ?_))
   | exact zelligeref03_Of.mono _ _
   | exact LeO.none _
   | refine LeO.ite ?_ ?_
   | refine LeO.bind ?_ (fun _ => ?_)
set_option maxHeartbeats 8000000 in
set_option maxRecDepth 100000 in
theorem zelligeref04_Long.calls (k : Nat) (a0 : Int) (r1 : Int) (r2 : List Int) (w : World) (h : zelligeref04_Long.f k a0 = some (r1, r2)) :
  Calls Try.prog 31 #[.int .i64 a0] w fun e w' => ∃ v1_ : Value, e = .returned (.agg #[.int .i64 r1, v1_]) ∧ Kd.R (Kd.int .i64) 3 w' w.heap.size (fun _ => True) v1_ r2 ∧ Below w.heap.size w w' := by
 have hu33 := Try.underlying33
 have HB := Aside0.mk (Below.refl w.heap.size w)
 have H : (if a0 = 0 then (some (0, ([] : List Int))) else (if a0 < 0 then ((zelligeref03_Of.f k (([(IntKind.u64.wrap (-(IntKind.u64.wrap (a0)))) % 4294967296, ((IntKind.u64.wrap (-(IntKind.u64.wrap (a0)))) / 4294967296) % 4294967296] : List Int))).bind fun t322 => (some ((-1), t322))) else ((zelligeref03_Of.f k (([(IntKind.u64.wrap (a0)) % 4294967296, ((IntKind.u64.wrap (a0)) / 4294967296) % 4294967296] : List Int))).bind fun t328 => (some (1, t328))))) = some (r1, r2) := h
 clear h
 by_cases c2 : a0 = 0
 ·rw [if_pos c2] at H
  have c2b0 : (a0 == 0) = true := beq_iff_eq.mpr c2
  have c2b1 : (a0 != 0) = false := bne_eq_false_iff_eq.mpr c2
  clear c2
  simp only [Option.some.injEq, Prod.mk.injEq] at H
  obtain ⟨rfl, rfl⟩ := H
  go_enter Try.func31, Try.ntmps31
  go_wp2_with (first | ((with_reducible refine gate_dst (N := 2) rfl ?_); refine bx 2 #[.int .i64 0, .slice none 0 0] 33 ?_; intro gb318 hg w3 hbox hb; have BK318 := Aside0.mk hbox; have GW318 := u3 hg HB; have GE318 := u3 hg HB; replace HB := u2 HB hb; clear hb hbox hg; obtain ⟨_, _, _, _⟩ := p2 BK318))
  refine bodyPost_ret (results_cell_row rfl _ _ gb318 33 #[.int .i64 0, .slice none 0 0] (0, 0) _ rfl (by (with_reducible repeat (first | refine blk_drewN ?_ _ | refine blk_drew ?_ | refine blk_alloc ?_ _)); refine blk_put (cs := #[.int .i64 0, .slice none 0 0]) ?_ 1 _ rfl; refine blk_put (cs := #[.int .i64 0, .slice none 0 0]) ?_ 0 _ rfl; (with_reducible repeat (first | refine blk_drewN ?_ _ | refine blk_drew ?_ | refine blk_alloc ?_ _)); exact BK318.out) Try.underlying33 rfl (by kernel_rfl)) rfl ?_
  exact ⟨_, by first | rfl | (simp [*, errW_none, errW_some] <;> rfl), by first | exact Kd.R_nil _ _ _ _ _ | exact Kd.N_nil _ _ _ _ _ | exact Kd.V_nil _ _ _ _ _ | exact Kd.Q_nil _ _ _ _ _ | exact Kd.S_nil _ _ _ _ _, by repeat (first | (with_reducible first | exact HB.out | apply below_alloc | apply pw_below_drewN | apply below_drew1 | refine below_set ?_ GE318.out) | exact HB.out)⟩
 ·rw [if_neg c2] at H
  have c2b0 : (a0 == 0) = false := beq_eq_false_iff_ne.mpr c2
  have c2b1 : (a0 != 0) = true := bne_iff_ne.mpr c2
  by_cases c5 : a0 < 0
  ·rw [if_pos c5] at H
   have c5b0 : decide (a0 < 0) = true := decide_eq_true c5
   clear c5
   obtain ⟨y319, hy319⟩ : ∃ y_ : List Int, y_ = (([(IntKind.u64.wrap (-(IntKind.u64.wrap (a0)))) % 4294967296, ((IntKind.u64.wrap (-(IntKind.u64.wrap (a0)))) / 4294967296) % 4294967296] : List Int)) := ⟨_, rfl⟩
   replace H : ((zelligeref03_Of.f k y319).bind fun t322 => (some ((-1), t322))) = some (r1, r2) := by first | (rw [hy319]; with_reducible exact H) | (have H2_ := (Option.bind_some _ _).symm.trans H; rw [hy319]; with_reducible exact H2_) | (have H2_ := (Option.bind_some _ _).symm.trans H; with_reducible exact H2_) | with_reducible exact H | (rw [hy319]; exact H) | exact H
   have Ny319 := Aside0.mk hy319
   clear hy319
   replace H := Option.bind_eq_some_iff.mp H
   obtain ⟨t322, A60, H⟩ := H
   try dsimp only at H
   have A6 := Aside0.mk A60
   clear A60
   simp only [Option.some.injEq, Prod.mk.injEq] at H
   obtain ⟨rfl, rfl⟩ := H
   go_enter Try.func31, Try.ntmps31
   go_wp2_with (first | ((with_reducible refine gate_dst (N := 2) rfl ?_); refine bx 2 #[.int .i64 0, .slice none 0 0] 33 ?_; intro gb318 hg w7 hbox hb; have BK318 := Aside0.mk hbox; have GW318 := u3 hg HB; have GE318 := u3 hg HB; replace HB := u2 HB hb; clear hb hbox hg) | ((with_reducible refine gate_dst (N := 21) rfl ?_); refine Kd.R_lit (Kd.int .u32) _ 76 ?hg (N := 21) ?hd (xs := ([(IntKind.u64.wrap (-(IntKind.u64.wrap (a0)))) % 4294967296, ((IntKind.u64.wrap (-(IntKind.u64.wrap (a0)))) / 4294967296) % 4294967296] : List Int)) (inner := [.int .u32 ((IntKind.u64.wrap (-(IntKind.u64.wrap (a0)))) % 4294967296), .int .u32 (((IntKind.u64.wrap (-(IntKind.u64.wrap (a0)))) / 4294967296) % 4294967296)]) (ok := fun _ => True) (okp := fun _ => True) ?hr ?hp (fun _ hk => hk) trivial (Below.refl _ _) (Nat.le_refl _) (by simp) ?_; (case hd => rfl); (case hg => rfl); (case hr => first | (go_simp; done) | (go_simp; rfl)); (case hp => exact (Reps.one (show Kd.M (Kd.int .u32) _ _ _ ((IntKind.u64.wrap (-(IntKind.u64.wrap (a0)))) % 4294967296) [.int .u32 ((IntKind.u64.wrap (-(IntKind.u64.wrap (a0)))) % 4294967296)] from rfl) (Reps.one (show Kd.M (Kd.int .u32) _ _ _ (((IntKind.u64.wrap (-(IntKind.u64.wrap (a0)))) / 4294967296) % 4294967296) [.int .u32 (((IntKind.u64.wrap (-(IntKind.u64.wrap (a0)))) / 4294967296) % 4294967296)] from rfl) (Reps.none _ _)))); intro v320 w8 ho9 hb hg_ hnew_; clear hg_ hnew_; (first | rw [← Ny319.out] at ho9 | (simp only [Int.reduceToNat] at ho9; rw [← Ny319.out] at ho9)); have n0_ := Aside0.mk (Kd.R_lower ho9 (below_size (bw HB.out))); have n1_ := u1 BK318 hb; have n2_ := u2 HB hb; clear BK318; clear HB; have HO321 := n0_; have BK318 := n1_; have HB := n2_; clear n0_ n1_ n2_; clear hb ho9; obtain ⟨Ao10, co10, eo10⟩ := Kd.R_slice HO321.out; subst eo10) | ((with_reducible refine gate_callee (f := 53) rfl ?_); refine gL (some 22) Try.func53 #[.slice Ao10 y319.length co10] rfl ?_; (with_reducible refine (zelligeref03_Of.calls k _ _ y319 t322 _ ?side1 ?side2 A6.out).mono ?_); (case side1 => repeat (first | exact (Kd.R_reads' HO321.out).2.2 | (with_reducible refine Kd.C_alloc ?_ _) | (with_reducible refine Kd.C_drewN ?_ _) | (with_reducible refine Kd.C_drew ?_))); (case side2 => exact (Kd.R_reads' HO321.out).2.1); rintro e w11 ⟨v323, rfl, ho0, hb⟩; refine ⟨_, rfl, ?_⟩; have n0_ := Aside0.mk (Kd.R_below (by (with_reducible repeat (first | apply Kd.R_alloc | apply Kd.R_drewN | apply Kd.R_drew)); exact HO321.out) hb); have n1_ := Aside0.mk (Kd.R_lower ho0 (below_size (bw HB.out))); have n2_ := u1 BK318 hb; have n3_ := u2 HB hb; clear HO321; clear BK318; clear HB; have HO321 := n0_; have HO324 := n1_; have BK318 := n2_; have HB := n3_; clear n0_ n1_ n2_ n3_; (try clear hb); (try clear hb2); (try clear hk); (try clear hi); (try clear ho0); obtain ⟨Ao12, co12, eo12⟩ := Kd.R_slice HO324.out; subst eo12; obtain ⟨_, _, _, _⟩ := p2 BK318))
   refine bodyPost_ret (results_cell_row rfl _ _ gb318 33 #[.int .i64 (-1), .slice Ao12 t322.length co12] (0, 0) _ rfl (by (with_reducible repeat (first | refine blk_drewN ?_ _ | refine blk_drew ?_ | refine blk_alloc ?_ _)); refine blk_put (cs := #[.int .i64 (-1), .slice none 0 0]) ?_ 1 _ rfl; refine blk_put (cs := #[.int .i64 0, .slice none 0 0]) ?_ 0 _ rfl; (with_reducible repeat (first | refine blk_drewN ?_ _ | refine blk_drew ?_ | refine blk_alloc ?_ _)); exact BK318.out) Try.underlying33 rfl (by kernel_rfl)) rfl ?_
   exact ⟨_, by first | rfl | (simp [*, errW_none, errW_some] <;> rfl), by (with_reducible repeat (first | apply Kd.R_alloc | apply Kd.R_drewN | apply Kd.R_drew)); exact Kd.R_mono (Kd.R_far (p := ⟨gb318, 1, none⟩) (Kd.R_far (p := ⟨gb318, 0, none⟩) (Kd.R_types HO324.out BK318.out (by decide)) (fun _ hk => hk.2) (.int .i64 (-1))) (fun _ hk => hk.2) (.slice Ao12 t322.length co12)) (fun _ hk => trivial), by repeat (first | (with_reducible first | exact HB.out | apply below_alloc | apply pw_below_drewN | apply below_drew1 | refine below_set ?_ GE318.out) | exact HB.out)⟩
  ·rw [if_neg c5] at H
   have c5b0 : decide (a0 < 0) = false := decide_eq_false c5
   clear c5
   obtain ⟨y325, hy325⟩ : ∃ y_ : List Int, y_ = (([(IntKind.u64.wrap (a0)) % 4294967296, ((IntKind.u64.wrap (a0)) / 4294967296) % 4294967296] : List Int)) := ⟨_, rfl⟩
   replace H : ((zelligeref03_Of.f k y325).bind fun t328 => (some (1, t328))) = some (r1, r2) := by first | (rw [hy325]; with_reducible exact H) | (have H2_ := (Option.bind_some _ _).symm.trans H; rw [hy325]; with_reducible exact H2_) | (have H2_ := (Option.bind_some _ _).symm.trans H; with_reducible exact H2_) | with_reducible exact H | (rw [hy325]; exact H) | exact H
   have Ny325 := Aside0.mk hy325
   clear hy325
   replace H := Option.bind_eq_some_iff.mp H
   obtain ⟨t328, A140, H⟩ := H
   try dsimp only at H
   have A14 := Aside0.mk A140
   clear A140
   simp only [Option.some.injEq, Prod.mk.injEq] at H
   obtain ⟨rfl, rfl⟩ := H
   go_enter Try.func31, Try.ntmps31
   go_wp2_with (first | ((with_reducible refine gate_dst (N := 2) rfl ?_); refine bx 2 #[.int .i64 0, .slice none 0 0] 33 ?_; intro gb318 hg w15 hbox hb; have BK318 := Aside0.mk hbox; have GW318 := u3 hg HB; have GE318 := u3 hg HB; replace HB := u2 HB hb; clear hb hbox hg) | ((with_reducible refine gate_dst (N := 21) rfl ?_); refine Kd.R_lit (Kd.int .u32) _ 76 ?hg (N := 21) ?hd (xs := ([(IntKind.u64.wrap (a0)) % 4294967296, ((IntKind.u64.wrap (a0)) / 4294967296) % 4294967296] : List Int)) (inner := [.int .u32 ((IntKind.u64.wrap (a0)) % 4294967296), .int .u32 (((IntKind.u64.wrap (a0)) / 4294967296) % 4294967296)]) (ok := fun _ => True) (okp := fun _ => True) ?hr ?hp (fun _ hk => hk) trivial (Below.refl _ _) (Nat.le_refl _) (by simp) ?_; (case hd => rfl); (case hg => rfl); (case hr => first | (go_simp; done) | (go_simp; rfl)); (case hp => exact (Reps.one (show Kd.M (Kd.int .u32) _ _ _ ((IntKind.u64.wrap (a0)) % 4294967296) [.int .u32 ((IntKind.u64.wrap (a0)) % 4294967296)] from rfl) (Reps.one (show Kd.M (Kd.int .u32) _ _ _ (((IntKind.u64.wrap (a0)) / 4294967296) % 4294967296) [.int .u32 (((IntKind.u64.wrap (a0)) / 4294967296) % 4294967296)] from rfl) (Reps.none _ _)))); intro v326 w16 ho17 hb hg_ hnew_; clear hg_ hnew_; (first | rw [← Ny325.out] at ho17 | (simp only [Int.reduceToNat] at ho17; rw [← Ny325.out] at ho17)); have n0_ := Aside0.mk (Kd.R_lower ho17 (below_size (bw HB.out))); have n1_ := u1 BK318 hb; have n2_ := u2 HB hb; clear BK318; clear HB; have HO327 := n0_; have BK318 := n1_; have HB := n2_; clear n0_ n1_ n2_; clear hb ho17; obtain ⟨Ao18, co18, eo18⟩ := Kd.R_slice HO327.out; subst eo18) | ((with_reducible refine gate_callee (f := 53) rfl ?_); refine gL (some 22) Try.func53 #[.slice Ao18 y325.length co18] rfl ?_; (with_reducible refine (zelligeref03_Of.calls k _ _ y325 t328 _ ?side1 ?side2 A14.out).mono ?_); (case side1 => repeat (first | exact (Kd.R_reads' HO327.out).2.2 | (with_reducible refine Kd.C_alloc ?_ _) | (with_reducible refine Kd.C_drewN ?_ _) | (with_reducible refine Kd.C_drew ?_))); (case side2 => exact (Kd.R_reads' HO327.out).2.1); rintro e w19 ⟨v329, rfl, ho0, hb⟩; refine ⟨_, rfl, ?_⟩; have n0_ := Aside0.mk (Kd.R_below (by (with_reducible repeat (first | apply Kd.R_alloc | apply Kd.R_drewN | apply Kd.R_drew)); exact HO327.out) hb); have n1_ := Aside0.mk (Kd.R_lower ho0 (below_size (bw HB.out))); have n2_ := u1 BK318 hb; have n3_ := u2 HB hb; clear HO327; clear BK318; clear HB; have HO327 := n0_; have HO330 := n1_; have BK318 := n2_; have HB := n3_; clear n0_ n1_ n2_ n3_; (try clear hb); (try clear hb2); (try clear hk); (try clear hi); (try clear ho0); obtain ⟨Ao20, co20, eo20⟩ := Kd.R_slice HO330.out; subst eo20; obtain ⟨_, _, _, _⟩ := p2 BK318))
   refine bodyPost_ret (results_cell_row rfl _ _ gb318 33 #[.int .i64 1, .slice Ao20 t328.length co20] (0, 0) _ rfl (by (with_reducible repeat (first | refine blk_drewN ?_ _ | refine blk_drew ?_ | refine blk_alloc ?_ _)); refine blk_put (cs := #[.int .i64 1, .slice none 0 0]) ?_ 1 _ rfl; refine blk_put (cs := #[.int .i64 0, .slice none 0 0]) ?_ 0 _ rfl; (with_reducible repeat (first | refine blk_drewN ?_ _ | refine blk_drew ?_ | refine blk_alloc ?_ _)); exact BK318.out) Try.underlying33 rfl (by kernel_rfl)) rfl ?_
   exact ⟨_, by first | rfl | (simp [*, errW_none, errW_some] <;> rfl), by (with_reducible repeat (first | apply Kd.R_alloc | apply Kd.R_drewN | apply Kd.R_drew)); exact Kd.R_mono (Kd.R_far (p := ⟨gb318, 1, none⟩) (Kd.R_far (p := ⟨gb318, 0, none⟩) (Kd.R_types HO330.out BK318.out (by decide)) (fun _ hk => hk.2) (.int .i64 1)) (fun _ hk => hk.2) (.slice Ao20 t328.length co20)) (fun _ hk => trivial), by repeat (first | (with_reducible first | exact HB.out | apply below_alloc | apply pw_below_drewN | apply below_drew1 | refine below_set ?_ GE318.out) | exact HB.out)⟩
end Go.Proofs.Ytmeckkckjikjiaa.F
end
section
namespace Go.Proofs.Ytmeckkckjikjiaa.F
open RowKit YtmeckkckjikjiaaW.PrintWords YtmeckkckjikjiaaW.PrintLast YtmeckkckjikjiaaW.PrintMore
set_option linter.unusedVariables false
set_option linter.unusedSimpArgs false
def zelligeref04_make1.f (a0 : Int) (l1 : List Int) : Option (Int × List Int) := if (l1.length : Int) = 0 then (some (0, ([] : List Int))) else (some (a0, l1))
set_option maxHeartbeats 8000000 in
set_option maxRecDepth 100000 in
theorem zelligeref04_make1.calls (a0 : Int) (P1_ : Nat → Prop) (u9000_ : Value) (l1 : List Int) (r1 : Int) (r2 : List Int) (w0 w : World) (hB : Below w0.heap.size w0 w) (ho1 : Kd.R (Kd.int .i64) 3 w w0.heap.size P1_ u9000_ l1) (h : zelligeref04_make1.f a0 l1 = some (r1, r2)) :
  Calls Try.prog 54 #[.int .i64 a0, u9000_] w fun e w' => ∃ v1_ : Value, e = .returned (.agg #[.int .i64 r1, v1_]) ∧ Kd.R (Kd.int .i64) 3 w' w0.heap.size (fun k_ => (P1_ k_ ∨ w.heap.size ≤ k_)) v1_ r2 ∧ Below w0.heap.size w0 w' ∧ Kept w w' (fun k_ => P1_ k_) := by
 have hu33 := Try.underlying33
 have HO1 := Aside0.mk (show Kd.R (Kd.int .i64) 3 w w0.heap.size (fun k_ => (P1_ k_ ∨ w.heap.size ≤ k_)) u9000_ l1 from Kd.R_mono ho1 (fun k_ hk => (.inl hk)))
 have HK := Aside0.mk (Kept.refl w (fun k_ => P1_ k_))
 have HW0 := Aside0.mk hB.size
 have HB := Aside0.mk hB
 clear hB
 have H : (if (l1.length : Int) = 0 then (some (0, ([] : List Int))) else (some (a0, l1))) = some (r1, r2) := h
 clear h
 by_cases c3 : (l1.length : Int) = 0
 ·rw [if_pos c3] at H
  have c3b0 : ((l1.length : Int) == 0) = true := beq_iff_eq.mpr c3
  have c3b1 : ((l1.length : Int) != 0) = false := bne_eq_false_iff_eq.mpr c3
  clear c3
  simp only [Option.some.injEq, Prod.mk.injEq] at H
  obtain ⟨rfl, rfl⟩ := H
  go_enter Try.func54, Try.ntmps54
  go_wp2_with (first | ((with_reducible refine gate_dst (N := 4) rfl ?_); refine bx 4 #[.int .i64 0, .slice none 0 0] 33 ?_; intro gb208 hg w4 hbox hb; have n0_ := Aside0.mk (Kd.R_below (by (with_reducible repeat (first | apply Kd.R_alloc | apply Kd.R_drewN | apply Kd.R_drew)); exact HO1.out) hb); have n1_ := Aside0.mk (Kept.below (S := (fun k_ => P1_ k_)) (by repeat (first | (with_reducible first | exact HK.out | apply Kept.alloc | apply Kept.drewN | apply Kept.drew) | exact HK.out)) hb); have n2_ := u2 HB hb; have n3_ := Aside0.mk hbox; have n4_ := Aside0.mk ((by rw [hg]; exact (by first | exact HK.out.1 | exact (show Kept w _ (fun k_ => P1_ k_) from by repeat (first | (with_reducible first | exact HK.out | apply Kept.alloc | apply Kept.drewN | apply Kept.drew) | exact HK.out)).1) : w.heap.size ≤ gb208)); have n5_ := Aside0.mk ((by rw [hg]; exact (below_size (bw HB.out)) : w0.heap.size ≤ gb208)); clear HO1; clear HK; clear HB; have HO1 := n0_; have HK := n1_; have HB := n2_; have BK208 := n3_; have GW208 := n4_; have GE208 := n5_; clear n0_ n1_ n2_ n3_ n4_ n5_; clear hb hbox hg; obtain ⟨Ao5, co5, eo5⟩ := Kd.R_slice HO1.out; subst eo5; obtain ⟨_, _, _, _⟩ := p2 BK208))
  refine bodyPost_ret (results_cell_row rfl _ _ gb208 33 #[.int .i64 0, .slice none 0 0] (0, 0) _ rfl (by (with_reducible repeat (first | refine blk_drewN ?_ _ | refine blk_drew ?_ | refine blk_alloc ?_ _)); refine blk_put (cs := #[.int .i64 0, .slice none 0 0]) ?_ 1 _ rfl; refine blk_put (cs := #[.int .i64 0, .slice none 0 0]) ?_ 0 _ rfl; (with_reducible repeat (first | refine blk_drewN ?_ _ | refine blk_drew ?_ | refine blk_alloc ?_ _)); exact BK208.out) Try.underlying33 rfl (by kernel_rfl)) rfl ?_
  exact ⟨_, by first | rfl | (simp [*, errW_none, errW_some] <;> rfl), by first | exact Kd.R_nil _ _ _ _ _ | exact Kd.N_nil _ _ _ _ _ | exact Kd.V_nil _ _ _ _ _ | exact Kd.Q_nil _ _ _ _ _ | exact Kd.S_nil _ _ _ _ _, by repeat (first | (with_reducible first | exact HB.out | apply below_alloc | apply pw_below_drewN | apply below_drew1 | refine below_set ?_ GE208.out) | exact HB.out), by repeat (first | (with_reducible first | exact HK.out | apply Kept.alloc | apply Kept.drewN | apply Kept.drew | refine Kept.setCell ?_ (.inr GW208.out) _) | exact HK.out)⟩
 ·rw [if_neg c3] at H
  have c3b0 : ((l1.length : Int) == 0) = false := beq_eq_false_iff_ne.mpr c3
  have c3b1 : ((l1.length : Int) != 0) = true := bne_iff_ne.mpr c3
  have c3b2 : ¬ (l1 = []) := fun h_ => c3 (by rw [h_]; rfl)
  simp only [Option.some.injEq, Prod.mk.injEq] at H
  obtain ⟨rfl, rfl⟩ := H
  go_enter Try.func54, Try.ntmps54
  go_wp2_with (first | ((with_reducible refine gate_dst (N := 4) rfl ?_); refine bx 4 #[.int .i64 0, .slice none 0 0] 33 ?_; intro gb208 hg w7 hbox hb; have n0_ := Aside0.mk (Kd.R_below (by (with_reducible repeat (first | apply Kd.R_alloc | apply Kd.R_drewN | apply Kd.R_drew)); exact HO1.out) hb); have n1_ := Aside0.mk (Kept.below (S := (fun k_ => P1_ k_)) (by repeat (first | (with_reducible first | exact HK.out | apply Kept.alloc | apply Kept.drewN | apply Kept.drew) | exact HK.out)) hb); have n2_ := u2 HB hb; have n3_ := Aside0.mk hbox; have n4_ := Aside0.mk ((by rw [hg]; exact (by first | exact HK.out.1 | exact (show Kept w _ (fun k_ => P1_ k_) from by repeat (first | (with_reducible first | exact HK.out | apply Kept.alloc | apply Kept.drewN | apply Kept.drew) | exact HK.out)).1) : w.heap.size ≤ gb208)); have n5_ := Aside0.mk ((by rw [hg]; exact (below_size (bw HB.out)) : w0.heap.size ≤ gb208)); clear HO1; clear HK; clear HB; have HO1 := n0_; have HK := n1_; have HB := n2_; have BK208 := n3_; have GW208 := n4_; have GE208 := n5_; clear n0_ n1_ n2_ n3_ n4_ n5_; clear hb hbox hg; obtain ⟨Ao8, co8, eo8⟩ := Kd.R_slice HO1.out; subst eo8; obtain ⟨_, _, _, _⟩ := p2 BK208))
  refine bodyPost_ret (results_cell_row rfl _ _ gb208 33 #[.int .i64 a0, .slice Ao8 l1.length co8] (0, 0) _ rfl (by (with_reducible repeat (first | refine blk_drewN ?_ _ | refine blk_drew ?_ | refine blk_alloc ?_ _)); refine blk_put (cs := #[.int .i64 a0, .slice none 0 0]) ?_ 1 _ rfl; refine blk_put (cs := #[.int .i64 0, .slice none 0 0]) ?_ 0 _ rfl; (with_reducible repeat (first | refine blk_drewN ?_ _ | refine blk_drew ?_ | refine blk_alloc ?_ _)); exact BK208.out) Try.underlying33 rfl (by kernel_rfl)) rfl ?_
  exact ⟨_, by first | rfl | (simp [*, errW_none, errW_some] <;> rfl), by (with_reducible repeat (first | apply Kd.R_alloc | apply Kd.R_drewN | apply Kd.R_drew)); exact Kd.R_mono (Kd.R_far (p := ⟨gb208, 1, none⟩) (Kd.R_far (p := ⟨gb208, 0, none⟩) (Kd.R_types HO1.out BK208.out (by decide)) (fun _ hk => hk.2) (.int .i64 a0)) (fun _ hk => hk.2) (.slice Ao8 l1.length co8)) (fun _ hk => hk.1), by repeat (first | (with_reducible first | exact HB.out | apply below_alloc | apply pw_below_drewN | apply below_drew1 | refine below_set ?_ GE208.out) | exact HB.out), by repeat (first | (with_reducible first | exact HK.out | apply Kept.alloc | apply Kept.drewN | apply Kept.drew | refine Kept.setCell ?_ (.inr GW208.out) _) | exact HK.out)⟩
end Go.Proofs.Ytmeckkckjikjiaa.F
end
section
namespace Go.Proofs.Ytmeckkckjikjiaa.F
open RowKit YtmeckkckjikjiaaW.PrintWords YtmeckkckjikjiaaW.PrintLast YtmeckkckjikjiaaW.PrintMore
set_option linter.unusedVariables false
set_option linter.unusedSimpArgs false
def zelligeref04_Mul.f (k : Nat) (a0_0 : Int) (l0_1 : List Int) (a1_0 : Int) (l1_1 : List Int) : Option (Int × List Int) := (zelligeref03_Mul.f k l0_1 l1_1).bind fun t408 => ((zelligeref04_make1.f (wrap64 (a0_0 * a1_0)) t408).bind fun bt411 => (some (bt411.1, bt411.2)))
theorem zelligeref04_Mul.mono : ∀ a0 a1 a2 a3 k, LeO (zelligeref04_Mul.f k a0 a1 a2 a3) (zelligeref04_Mul.f (k + 1) a0 a1 a2 a3) := by
 intro a0 a1 a2 a3 k
 unfold zelligeref04_Mul.f
 repeat' first
   | (with_reducible exact zelligeref03_Mul.mono _ _ _)
   | (with_reducible exact LeO.refl _)
   | (with_reducible exact LeO.none _)
   | (with_reducible refine LeO.ite ?_ ?_)
   | (with_reducible refine LeO.bind ?_ (fun _ => ?_))
   | exact zelligeref03_Mul.mono _ _ _
   | exact LeO.none _
   | refine LeO.ite ?_ ?_
   | refine LeO.bind ?_ (fun _ => ?_)
def zelligeref04_Mul.T1 : Bool × List (List Nat × List Nat) := (true, [([], []), ([0], [0]), ([], []), ([2], [2]), ([1, 3], [1, 3]), ([], []), ([5], [5]), ([], []), ([7], [7]), ([6, 8], [6, 8]), ([4, 9, 9], [4, 9]), ([10, 10, 0, 1, 2, 3, 4, 5, 6, 7, 8, 9, 10], [10])])
def zelligeref04_Mul.B1 : List Nat := [0, 1, 0, 4, 15, 0, 32, 0, 128, 480, 1023, 2047]
theorem zelligeref04_Mul.tab1 : rtab .any (opsOf Try.f35 1) = zelligeref04_Mul.T1 := by kernel_rfl
theorem zelligeref04_Mul.bits1 : waitsOk zelligeref04_Mul.T1.2 zelligeref04_Mul.B1 = true := by kernel_rfl
set_option maxHeartbeats 8000000 in
set_option maxRecDepth 100000 in
theorem zelligeref04_Mul.calls (k : Nat) (a0_0 : Int) (A0_1 : Option Addr) (c0_1 : Nat) (l0_1 : List Int) (a1_0 : Int) (A1_1 : Option Addr) (c1_1 : Nat) (l1_1 : List Int) (r1 : Int) (r2 : List Int) (w : World) (hr0_1 : Kd.C (Kd.int .i64) w A0_1 l0_1.length l0_1) (hc0_1 : l0_1.length ≤ c0_1) (hr1_1 : Kd.C (Kd.int .i64) w A1_1 l1_1.length l1_1) (hc1_1 : l1_1.length ≤ c1_1) (h : zelligeref04_Mul.f k a0_0 l0_1 a1_0 l1_1 = some (r1, r2)) :
  Calls Try.prog 35 #[.agg #[.int .i64 a0_0, .slice A0_1 l0_1.length c0_1], .agg #[.int .i64 a1_0, .slice A1_1 l1_1.length c1_1]] w fun e w' => ∃ v1_ : Value, e = .returned (.agg #[.int .i64 r1, v1_]) ∧ Kd.R (Kd.int .i64) 3 w' w.heap.size (fun _ => True) v1_ r2 ∧ Below w.heap.size w w' := by
 have hu33 := Try.underlying33
 have HR0_1 := Aside0.mk hr0_1
 have HC0_1 := Aside0.mk hc0_1
 clear hr0_1 hc0_1
 have HR1_1 := Aside0.mk hr1_1
 have HC1_1 := Aside0.mk hc1_1
 clear hr1_1 hc1_1
 have HB := Aside0.mk (Below.refl w.heap.size w)
 have H : ((zelligeref03_Mul.f k l0_1 l1_1).bind fun t408 => ((zelligeref04_make1.f (wrap64 (a0_0 * a1_0)) t408).bind fun bt411 => (some (bt411.1, bt411.2)))) = some (r1, r2) := h
 clear h
 replace H := Option.bind_eq_some_iff.mp H
 obtain ⟨t408, A30, H⟩ := H
 try dsimp only at H
 have A3 := Aside0.mk A30
 clear A30
 replace H := Option.bind_eq_some_iff.mp H
 obtain ⟨⟨t411, t412⟩, A40, H⟩ := H
 try dsimp only at H
 have A4 := Aside0.mk A40
 clear A40
 simp only [Option.some.injEq, Prod.mk.injEq] at H
 obtain ⟨rfl, rfl⟩ := H
 go_enter Try.func35, Try.ntmps35
 try go_wp2_with (first | ((with_reducible refine gate_dst (N := 2) rfl ?_); refine bx 2 #[.int .i64 a0_0, .slice A0_1 l0_1.length c0_1] 33 ?_; intro gb405 hg w5 hbox hb; have BK405 := Aside0.mk hbox; have GW405 := u3 hg HB; have GE405 := u3 hg HB; replace HB := u2 HB hb; clear hb hbox hg) | ((with_reducible refine gate_dst (N := 3) rfl ?_); refine bx 3 #[.int .i64 a1_0, .slice A1_1 l1_1.length c1_1] 33 ?_; intro gb406 hg w6 hbox hb; have BK406 := Aside0.mk hbox; have GW406 := u3 hg HB; have GE406 := u3 hg HB; have NB405_406 := u4 hg BK405; have NB406_405 := u5 hg BK405; replace BK405 := u1 BK405 hb; replace HB := u2 HB hb; clear hb hbox hg) | ((with_reducible refine gate_dst (N := 4) rfl ?_); refine bx 4 #[.int .i64 0, .slice none 0 0] 33 ?_; intro gb407 hg w7 hbox hb; have BK407 := Aside0.mk hbox; have GW407 := u3 hg HB; have GE407 := u3 hg HB; have NB405_407 := u4 hg BK405; have NB407_405 := u5 hg BK405; have NB406_407 := u4 hg BK406; have NB407_406 := u5 hg BK406; replace BK405 := u1 BK405 hb; replace BK406 := u1 BK406 hb; replace HB := u2 HB hb; clear hb hbox hg))
 have n0_ := Aside0.mk (blk_drew BK405.out)
 have n1_ := Aside0.mk (blk_drew BK406.out)
 have n2_ := Aside0.mk (blk_drew BK407.out)
 have n3_ := Aside0.mk (below_drew1 HB.out)
 clear BK405
 clear BK406
 clear BK407
 clear HB
 have BK405 := n0_
 have BK406 := n1_
 have BK407 := n2_
 have HB := n3_
 clear n0_ n1_ n2_ n3_
 refine start_ (n := 12) (S := fun w' => w'.cell? ⟨gb405, 0, none⟩ = some (.int .i64 a0_0) ∧ w'.cell? ⟨gb405, 1, none⟩ = some (.slice A0_1 l0_1.length c0_1) ∧ w'.cell? ⟨gb406, 0, none⟩ = some (.int .i64 a1_0) ∧ w'.cell? ⟨gb406, 1, none⟩ = some (.slice A1_1 l1_1.length c1_1)) (ds := []) #[F_,F_,F_,F_,F_,F_,F_,F_,F_,F_,F_,F_] (by kernel_rfl) rfl rfl ⟨(p2 BK405).1, (p2 BK405).2.1, (p2 BK406).1, (p2 BK406).2.1⟩ (fun hHeld => ?_); refine with_tabW zelligeref04_Mul.tab1 zelligeref04_Mul.bits1 (fun HT_ HW_ => ?_)
 generalize w7.drew = w8 at BK405 BK406 BK407 HB hHeld ⊢
 refine pA (i := 0) (N := some 5) (v := ?_) (a' := ?_) #[T_,F_,F_,F_,F_,F_,F_,F_,F_,F_,F_,F_] rfl rfl HT_ (Or.inl ⟨by rfl, ?_⟩) ?_ ?_
 rotate_left
 ·intro w'
  go_simp
  with_reducible rfl
 rotate_left
 ·simp only [Act.put, s1, s2, s3, i64_w, i32_w]
  rfl
 refine pA (i := 2) (N := some 7) (v := ?_) (a' := ?_) #[T_,F_,T_,F_,F_,F_,F_,F_,F_,F_,F_,F_] rfl rfl HT_ (Or.inl ⟨by rfl, ?_⟩) ?_ ?_
 rotate_left
 ·intro w'
  go_simp
  with_reducible rfl
 rotate_left
 ·simp only [Act.put, s1, s2, s3, i64_w, i32_w]
  rfl
 refine pA (i := 5) (N := some 10) (v := ?_) (a' := ?_) #[T_,F_,T_,F_,F_,T_,F_,F_,F_,F_,F_,F_] rfl rfl HT_ (Or.inl ⟨by rfl, ?_⟩) ?_ ?_
 rotate_left
 ·intro w'
  go_simp
  with_reducible rfl
 rotate_left
 ·simp only [Act.put, s1, s2, s3, i64_w, i32_w]
  rfl
 refine pA (i := 7) (N := some 12) (v := ?_) (a' := ?_) #[T_,F_,T_,F_,F_,T_,F_,T_,F_,F_,F_,F_] rfl rfl HT_ (Or.inl ⟨by rfl, ?_⟩) ?_ ?_
 rotate_left
 ·intro w'
  go_simp
  with_reducible rfl
 rotate_left
 ·simp only [Act.put, s1, s2, s3, i64_w, i32_w]
  rfl
 refine tA (i := 1) (N := some 6) (v := ?_) (a' := ?_) #[T_,T_,T_,F_,F_,T_,F_,T_,F_,F_,F_,F_] rfl rfl HT_ HW_ (Or.inl ⟨by rfl, ?_⟩) hHeld ?_ ?_
 rotate_left
 ·rintro w' ⟨s0, s1, s2, s3⟩
  go_simp
  with_reducible rfl
 rotate_left
 ·simp only [Act.put, s1, s2, s3, i64_w, i32_w]
  rfl
 refine tA (i := 3) (N := some 8) (v := ?_) (a' := ?_) #[T_,T_,T_,T_,F_,T_,F_,T_,F_,F_,F_,F_] rfl rfl HT_ HW_ (Or.inl ⟨by rfl, ?_⟩) hHeld ?_ ?_
 rotate_left
 ·rintro w' ⟨s0, s1, s2, s3⟩
  go_simp
  with_reducible rfl
 rotate_left
 ·simp only [Act.put, s1, s2, s3, i64_w, i32_w]
  rfl
 refine pA (i := 4) (N := some 9) (v := ?_) (a' := ?_) #[T_,T_,T_,T_,T_,T_,F_,T_,F_,F_,F_,F_] rfl rfl HT_ (Or.inl ⟨by rfl, ?_⟩) ?_ ?_
 rotate_left
 ·intro w'
  go_simp
  with_reducible rfl
 rotate_left
 ·simp only [Act.put, s1, s2, s3, i64_w, i32_w]
  rfl
 refine tA (i := 6) (N := some 11) (v := ?_) (a' := ?_) #[T_,T_,T_,T_,T_,T_,T_,T_,F_,F_,F_,F_] rfl rfl HT_ HW_ (Or.inl ⟨by rfl, ?_⟩) hHeld ?_ ?_
 rotate_left
 ·rintro w' ⟨s0, s1, s2, s3⟩
  go_simp
  with_reducible rfl
 rotate_left
 ·simp only [Act.put, s1, s2, s3, i64_w, i32_w]
  rfl
 refine tA (i := 8) (N := some 13) (v := ?_) (a' := ?_) #[T_,T_,T_,T_,T_,T_,T_,T_,T_,F_,F_,F_] rfl rfl HT_ HW_ (Or.inl ⟨by rfl, ?_⟩) hHeld ?_ ?_
 rotate_left
 ·rintro w' ⟨s0, s1, s2, s3⟩
  go_simp
  with_reducible rfl
 rotate_left
 ·simp only [Act.put, s1, s2, s3, i64_w, i32_w]
  rfl
 refine one_ (i := 9) (N := some 14) #[T_,T_,T_,T_,T_,T_,T_,T_,T_,T_,F_,F_] rfl rfl (one_of HT_.out (by kernel_rfl)) (by decide) (fun K hK => ?_)
 refine goes_ Try.func55 (by kernel_rfl) rfl #[.slice A0_1 l0_1.length c0_1, .slice A1_1 l1_1.length c1_1] (by rfl) rfl rfl (by (try simp only [List.map_toArray, List.map_cons, List.map_nil]); first | done | rfl | (simp only [List.length_drop, List.length_take]; rfl)) ?_
 with_reducible refine (zelligeref03_Mul.calls k _ _ l0_1 _ _ l1_1 t408 _ ?side1 ?side2 ?side3 ?side4 A3.out).mono ?_
 (case side1 => repeat (first | exact (Kd.C_below HR0_1.out HB.out) | (with_reducible refine Kd.C_alloc ?_ _) | (with_reducible refine Kd.C_drewN ?_ _) | (with_reducible refine Kd.C_drew ?_)))
 (case side2 => exact HC0_1.out)
 (case side3 => repeat (first | exact (Kd.C_below HR1_1.out HB.out) | (with_reducible refine Kd.C_alloc ?_ _) | (with_reducible refine Kd.C_drewN ?_ _) | (with_reducible refine Kd.C_drew ?_)))
 (case side4 => exact HC1_1.out)
 rintro e w9 ⟨v409, rfl, ho0, hb⟩
 refine ⟨_, rfl, ?_⟩
 have n0_ := Aside0.mk (Kd.R_lower ho0 (below_size (bw HB.out)))
 have n1_ := u1 BK405 hb
 have n2_ := u1 BK406 hb
 have n3_ := u1 BK407 hb
 have n4_ := Aside0.mk (below_step (bw HB.out) hb)
 clear BK405
 clear BK406
 clear BK407
 clear HB
 have HO410 := n0_
 have BK405 := n1_
 have BK406 := n2_
 have BK407 := n3_
 have HB := n4_
 clear n0_ n1_ n2_ n3_ n4_
 (try clear hb)
 (try clear hb2)
 (try clear hk)
 (try clear hi)
 (try clear ho0)
 obtain ⟨Ao10, co10, eo10⟩ := Kd.R_slice HO410.out
 (first | subst eo10 | (injection eo10 with f1_ f2_ f3_; have f4_ := f1_.symm; have f5_ := f3_.symm; clear f1_ f2_ f3_; subst f4_; subst f5_))
 refine hK.out _ _ ⟨(p2 BK405).1, (p2 BK405).2.1, (p2 BK406).1, (p2 BK406).2.1⟩ (fun hHeld => ?_)
 clear hK K
 refine norm_ (a' := ?_) ?_ ?_
 rotate_left
 ·show Act.put _ (some 14) _ = _
  simp only [Act.put, s1, s2, s3, i64_w, i32_w]
  rfl
 refine one_ (i := 10) (N := some 15) #[T_,T_,T_,T_,T_,T_,T_,T_,T_,T_,T_,F_] rfl rfl (one_of HT_.out (by kernel_rfl)) (by decide) (fun K hK => ?_)
 refine goes_ Try.func54 (by kernel_rfl) rfl #[.int .i64 (wrap64 (a0_0 * a1_0)), .slice Ao10 t408.length co10] (by rfl) rfl rfl (by (try simp only [List.map_toArray, List.map_cons, List.map_nil]); first | done | rfl | (simp only [List.length_drop, List.length_take]; rfl)) ?_
 with_reducible refine (zelligeref04_make1.calls (wrap64 (a0_0 * a1_0)) (fun k_ => some k_ = (.slice Ao10 t408.length co10 : Value).ownBlock) (.slice Ao10 t408.length co10) t408 t411 t412 w _ ?side1 ?side2 A4.out).mono ?_
 (case side1 => repeat (first | (with_reducible first | exact HB.out | apply below_alloc | apply pw_below_drewN | apply below_drew1 | refine below_set ?_ GE405.out | refine below_set ?_ GE406.out | refine below_set ?_ GE407.out) | exact HB.out))
 (case side2 => exact Kd.R_tight rfl HO410.out)
 rintro e w11 ⟨v413, rfl, ho0, hb, hkp⟩
 refine ⟨_, rfl, ?_⟩
 have n0_ := Aside0.mk (blk_kept (bk BK405.out) hkp (fun hs_ => (fun e_ => (Kd.R_ne HO410.out BK405.out (by decide)) e_) hs_))
 have n1_ := Aside0.mk (blk_kept (bk BK406.out) hkp (fun hs_ => (fun e_ => (Kd.R_ne HO410.out BK406.out (by decide)) e_) hs_))
 have n2_ := Aside0.mk (blk_kept (bk BK407.out) hkp (fun hs_ => (fun e_ => (Kd.R_ne HO410.out BK407.out (by decide)) e_) hs_))
 have n3_ := Aside0.mk (Kd.R_mono (ok' := fun k_ => True) ho0 (fun k_ hk_ => trivial))
 have n4_ := Aside0.mk (hb)
 clear BK405
 clear BK406
 clear BK407
 clear HB
 clear HO410
 have BK405 := n0_
 have BK406 := n1_
 have BK407 := n2_
 have HO414 := n3_
 have HB := n4_
 clear n0_ n1_ n2_ n3_ n4_
 (try clear hb)
 (try clear hkp)
 (try clear ho0)
 obtain ⟨Ao13, co13, eo13⟩ := Kd.R_slice HO414.out
 (first | subst eo13 | (injection eo13 with f1_ f2_ f3_; have f4_ := f1_.symm; have f5_ := f3_.symm; clear f1_ f2_ f3_; subst f4_; subst f5_))
 refine hK.out _ _ ⟨(p2 BK405).1, (p2 BK405).2.1, (p2 BK406).1, (p2 BK406).2.1⟩ (fun hHeld => ?_)
 clear hK K
 refine norm_ (a' := ?_) ?_ ?_
 rotate_left
 ·show Act.put _ (some 15) _ = _
  simp only [Act.put, s1, s2, s3, i64_w, i32_w]
  rfl
 refine one_ (i := 11) (N := none) #[T_,T_,T_,T_,T_,T_,T_,T_,T_,T_,T_,T_] rfl rfl (one_of HT_.out (by kernel_rfl)) (by decide) (fun K hK => ?_)
 have hs12 : w11.cell? ⟨gb407, 0, none⟩ = some (.int .i64 0) := (blk_cell BK407.out 0).trans rfl
 have hfs12 := blk_frozen BK407.out 0
 have hns12_0 := NB405_407.out
 have hns12_1 := NB406_407.out
 have hms12_0 := NB407_405.out
 have hms12_1 := NB407_406.out
 have hs14 : w11.cell? ⟨gb407, 1, none⟩ = some (.slice none 0 0) := (blk_cell BK407.out 1).trans rfl
 have hfs14 := blk_frozen BK407.out 1
 have hns14_0 := NB405_407.out
 have hns14_1 := NB406_407.out
 have hms14_0 := NB407_405.out
 have hms14_1 := NB407_406.out
 refine skip_ (w1 := ?_) (by rfl) rfl ?_ ?_
 rotate_left
 ·go_simp
  rfl
 refine hK.out _ _ ⟨((cell_far (p := ⟨gb407, _, none⟩) NB405_407.out _).trans (((cell_far (p := ⟨gb407, _, none⟩) NB405_407.out _).trans (hHeld.1)))), ((cell_far (p := ⟨gb407, _, none⟩) NB405_407.out _).trans (((cell_far (p := ⟨gb407, _, none⟩) NB405_407.out _).trans (hHeld.2.1)))), ((cell_far (p := ⟨gb407, _, none⟩) NB406_407.out _).trans (((cell_far (p := ⟨gb407, _, none⟩) NB406_407.out _).trans (hHeld.2.2.1)))), ((cell_far (p := ⟨gb407, _, none⟩) NB406_407.out _).trans (((cell_far (p := ⟨gb407, _, none⟩) NB406_407.out _).trans (hHeld.2.2.2))))⟩ (fun hHeld => ?_)
 clear hK K
 refine done_ (done_of HT_.out (by kernel_rfl)) ?_
 try go_wp2
 refine bodyPost_ret (results_cell_row rfl _ _ gb407 33 #[.int .i64 t411, .slice Ao13 t412.length co13] (0, 0) _ rfl (by (with_reducible repeat (first | refine blk_drewN ?_ _ | refine blk_drew ?_ | refine blk_alloc ?_ _)); refine blk_put (cs := #[.int .i64 t411, .slice none 0 0]) ?_ 1 _ rfl; refine blk_put (cs := #[.int .i64 0, .slice none 0 0]) ?_ 0 _ rfl; (with_reducible repeat (first | refine blk_drewN ?_ _ | refine blk_drew ?_ | refine blk_alloc ?_ _)); exact BK407.out) Try.underlying33 rfl (by kernel_rfl)) rfl ?_
 exact ⟨_, by first | rfl | (simp [*, errW_none, errW_some] <;> rfl), by (with_reducible repeat (first | apply Kd.R_alloc | apply Kd.R_drewN | apply Kd.R_drew)); exact Kd.R_mono (Kd.R_far (p := ⟨gb407, 1, none⟩) (Kd.R_far (p := ⟨gb407, 0, none⟩) (Kd.R_types HO414.out BK407.out (by decide)) (fun _ hk => hk.2) (.int .i64 t411)) (fun _ hk => hk.2) (.slice Ao13 t412.length co13)) (fun _ hk => trivial), by repeat (first | (with_reducible first | exact HB.out | apply below_alloc | apply pw_below_drewN | apply below_drew1 | refine below_set ?_ GE405.out | refine below_set ?_ GE406.out | refine below_set ?_ GE407.out) | exact HB.out)⟩
end Go.Proofs.Ytmeckkckjikjiaa.F
end
section
namespace Go.Proofs.Ytmeckkckjikjiaa.Whole
open Go RowKit YtmeckkckjikjiaaW.PrintWords YtmeckkckjikjiaaW.PrintLast YtmeckkckjikjiaaW.PrintMore Ytmeckkckjikjiaa.F
set_option linter.unusedVariables false
structure RV (w : World) (v : Value) (xs : List Int) : Prop where
 mk :: (out : ∃ A c, v = .slice A xs.length c ∧ xs.length ≤ c ∧ Kd.C (Kd.int .i64) w A xs.length xs ∧ (xs = [] ∨ ∃ (a : Addr) (cells : Array Value), A = some a ∧ w.heap[a.block]? = some (.cells cells 3 (0, 0))))
theorem RV.nil (w : World) : RV w (.slice none 0 0) [] := ⟨none, 0, rfl, Nat.le_refl _, ⟨rfl, by decide, fun h => absurd h (by decide)⟩, .inl rfl⟩
theorem RV.below {w w' : World} {v : Value} {xs : List Int} (h : RV w v xs) (hb : Below w.heap.size w w') : RV w' v xs := by
 obtain ⟨A, c, rfl, hc, hC, ht⟩ := h
 refine ⟨A, c, rfl, hc, Kd.C_below hC hb, ?_⟩
 rcases ht with ht | ⟨a, cells, e, ht⟩
 ·exact .inl ht
 ·exact .inr ⟨a, cells, e, blk_below ht hb⟩
theorem RV.drewN {w : World} {v : Value} {xs : List Int} (h : RV w v xs) (n : Nat) : RV (w.drewN n) v xs := by
 obtain ⟨A, c, rfl, hc, hC, ht⟩ := h
 exact ⟨A, c, rfl, hc, Kd.C_drewN hC n, ht⟩
theorem RV.drew {w : World} {v : Value} {xs : List Int} (h : RV w v xs) : RV w.drew v xs := by
 obtain ⟨A, c, rfl, hc, hC, ht⟩ := h
 exact ⟨A, c, rfl, hc, Kd.C_drew hC, ht⟩
theorem RV.of_R {w : World} {base : Nat} {ok : Nat → Prop} {v : Value} {xs : List Int} (h : Kd.R (Kd.int .i64) 3 w base ok v xs) : RV w v xs := by
 obtain ⟨A, c, rfl, hc, hC⟩ := Kd.R_reads h
 refine ⟨A, c, rfl, hc, hC, ?_⟩
 rcases List.eq_nil_or_concat xs with rfl | ⟨l, x, rfl⟩
 ·exact .inl rfl
 ·obtain ⟨g, cap, e, _, _, cells, hg⟩ := Kd.R_form h (by simp)
  simp only [Value.slice.injEq] at e
  exact .inr ⟨_, cells, e.1, hg⟩
theorem RV.store {w : World} {v : Value} {xs : List Int} (h : RV w v xs) {g t : Nat} {cs : Array Value} (hg : w.heap[g]? = some (.cells cs t (0, 0))) (ht : t ≠ 3) (i : Nat) (u : Value) : RV (w.setCell ⟨g, i, none⟩ u) v xs := by
 obtain ⟨A, c, rfl, hc, hC, hty⟩ := h
 have far : ∀ (a : Addr) (cells : Array Value), w.heap[a.block]? = some (.cells cells 3 (0, 0)) → a.block ≠ g := by
  rintro a cells ha rfl
  rw [hg] at ha
  injection ha with ha
  injection ha with _ ha
  exact ht ha
 refine ⟨A, c, rfl, hc, ?_, ?_⟩
 ·rcases hty with rfl | ⟨a, cells, rfl, ha⟩
  ·exact ⟨hC.1, hC.2.1, fun h => absurd h (by simp)⟩
  ·refine ⟨hC.1, hC.2.1, fun hp => ?_⟩
   obtain ⟨ad, e, hr⟩ := hC.2.2 hp
   injection e with e
   subst e
   refine ⟨_, rfl, fun j p hj => ?_⟩
   obtain ⟨cc, h1, h2, h3⟩ := hr j p hj
   refine ⟨cc, h1, h2, fun i' u' hu => ?_⟩
   rw [World.cell?_setCell_far, h3 i' u' hu]
   rw [add_block]
   exact (far _ _ ha).symm
 ·rcases hty with rfl | ⟨a, cells, rfl, ha⟩
  ·exact .inl rfl
  ·exact .inr ⟨a, cells, rfl, (Below.heap_setCell w ⟨g, i, none⟩ u a.block (far _ _ ha)).trans ha⟩
theorem RV.form {w : World} {v : Value} {xs : List Int} (h : RV w v xs) : ∃ A c, v = .slice A xs.length c ∧ xs.length ≤ c ∧ Kd.C (Kd.int .i64) w A xs.length xs := by
 obtain ⟨A, c, e, hc, hC, _⟩ := h
 exact ⟨A, c, e, hc, hC⟩
theorem RV.reads {w : World} {A : Option Addr} {n c : Nat} {xs : List Int} (h : RV w (.slice A n c) xs) : n = xs.length ∧ n ≤ c ∧ Kd.C (Kd.int .i64) w A xs.length xs := by
 obtain ⟨A', c', e, hc, hC, _⟩ := h
 simp only [Value.slice.injEq] at e
 obtain ⟨rfl, rfl, rfl⟩ := e
 exact ⟨rfl, hc, hC⟩
theorem two_new (w : World) (o0 o1 : Obj) : ((w.alloc o0).alloc o1).heap[w.heap.size]? = some o0 ∧ ((w.alloc o0).alloc o1).heap[w.heap.size + 1]? = some o1 ∧ Below w.heap.size w ((w.alloc o0).alloc o1) ∧ ((w.alloc o0).alloc o1).heap.size = w.heap.size + 2 := by
 have e1 : (w.alloc o0).heap.size = w.heap.size + 1 := by simp
 refine ⟨blk_alloc (blk_new _ _) _, ?_, ((Below.refl _ _).alloc (Nat.le_refl _) _).alloc (by simp) _, by simp⟩
 rw [← e1]; exact blk_new _ _
theorem three_new (w : World) (o0 o1 o2 : Obj) : (((w.alloc o0).alloc o1).alloc o2).heap[w.heap.size]? = some o0 ∧ (((w.alloc o0).alloc o1).alloc o2).heap[w.heap.size + 1]? = some o1 ∧ (((w.alloc o0).alloc o1).alloc o2).heap[w.heap.size + 1 + 1]? = some o2 ∧
  Below w.heap.size w (((w.alloc o0).alloc o1).alloc o2) ∧ (((w.alloc o0).alloc o1).alloc o2).heap.size = w.heap.size + 3 := by
 have e1 : (w.alloc o0).heap.size = w.heap.size + 1 := by simp
 have e2 : ((w.alloc o0).alloc o1).heap.size = w.heap.size + 1 + 1 := by simp
 refine ⟨blk_alloc (blk_alloc (blk_new _ _) _) _, ?_, ?_, (((Below.refl _ _).alloc (Nat.le_refl _) _).alloc (by simp) _).alloc (by simp; omega) _, by simp⟩
 ·rw [← e1]; exact blk_alloc (blk_new _ _) _
 ·rw [← e2]; exact blk_new _ _
theorem far2 {w : World} {b o c : Nat} {u v x : Value} (h : w.cell? ⟨b, o, none⟩ = some x) (hne : b ≠ c) : ((w.setCell ⟨c, 0, none⟩ u).setCell ⟨c, 1, none⟩ v).cell? ⟨b, o, none⟩ = some x := by
 rw [World.cell?_setCell_far, World.cell?_setCell_far, h]
 ·exact hne.symm
 ·exact hne.symm
theorem below_set2 {w W : World} (h : Below w.heap.size w W) {g : Nat} (hg : w.heap.size ≤ g) (i j : Nat) (u v : Value) : Below w.heap.size w ((W.setCell ⟨g, i, none⟩ u).setCell ⟨g, j, none⟩ v) := below_set (below_set h hg) hg
theorem make1_zero (s : Int) (A : Option Addr) (c : Nat) (w : World) :
  Calls Try.prog 54 #[.int .i64 s, .slice A 0 c] w fun e w' => e = .returned (.agg #[.int .i64 0, .slice none 0 0]) ∧ Below w.heap.size w w' := by
 go_enter Try.func54, Try.ntmps54
 go_wp2
 exact bodyPost_ret (v := .agg #[.int .i64 0, .slice none 0 0]) (by simp [results, Try.results54, go_sem]) rfl ⟨rfl, (Below.refl _ _).alloc (Nat.le_refl _) _⟩
theorem make1_pos (s : Int) (A : Option Addr) (n c : Nat) (hn : ((n : Int) == 0) = false) (w : World) :
  Calls Try.prog 54 #[.int .i64 s, .slice A n c] w fun e w' => e = .returned (.agg #[.int .i64 s, .slice A n c]) ∧ Below w.heap.size w w' := by
 go_enter Try.func54, Try.ntmps54
 go_wp2
 exact bodyPost_ret (v := .agg #[.int .i64 s, .slice A n c]) (by simp [results, Try.results54, go_sem]) rfl ⟨rfl, (Below.refl _ _).alloc (Nat.le_refl _) _⟩
theorem make1_any {xs : List Int} (s s' : Int) (hz : Aside0 ((if xs = [] then 0 else s) = s')) (v : Value) (w : World) (h : RV w v xs) :
  Calls Try.prog 54 #[.int .i64 s, v] w fun e w' => ∃ u, e = .returned (.agg #[.int .i64 s', u]) ∧ RV w' u xs ∧ Below w.heap.size w w' := by
 obtain ⟨A, c, rfl, hc, hC⟩ := h.form
 obtain rfl := hz.out
 by_cases h0 : xs = []
 ·subst h0
  exact (make1_zero s A c w).mono fun e w' ⟨he, hb⟩ => ⟨_, he, RV.nil _, hb⟩
 ·refine (make1_pos s A xs.length c ?_ w).mono fun e w' ⟨he, hb⟩ => ⟨_, ?_, h.below hb, hb⟩
  ·have := List.length_pos_iff.2 h0
   exact beq_eq_false_iff_ne.2 (by omega)
  ·rw [if_neg h0]; exact he
theorem neg_any (s : Int) (A : Option Addr) (n c : Nat) (w : World) :
  Calls Try.prog 56 #[.agg #[.int .i64 s, .slice A n c]] w fun e w' => e = .returned (.agg #[.int .i64 (wrap64 (0 - s)), .slice A n c]) ∧ Below w.heap.size w w' := by
 go_enter Try.func56, Try.ntmps56
 go_wp2
 exact bodyPost_ret (v := .agg #[.int .i64 (wrap64 (0 - s)), .slice A n c]) (by simp [results, Try.results56, go_sem]) rfl ⟨rfl, ((Below.refl _ _).alloc (Nat.le_refl _) _).alloc (by simp) _⟩
theorem add_left (t : Int) (A B : Option Addr) (n c m d : Nat) (w : World) :
  Calls Try.prog 37 #[.agg #[.int .i64 0, .slice A n c], .agg #[.int .i64 t, .slice B m d]] w fun e w' => e = .returned (.agg #[.int .i64 t, .slice B m d]) ∧ Below w.heap.size w w' := by
 go_enter Try.func37, Try.ntmps37
 go_wp2
 exact bodyPost_ret (v := .agg #[.int .i64 t, .slice B m d]) (by simp [results, Try.results37, go_sem]) rfl ⟨rfl, (((Below.refl _ _).alloc (Nat.le_refl _) _).alloc (by simp) _).alloc (by simp; omega) _⟩
theorem add_right (s : Int) (hs : (s == 0) = false) (A B : Option Addr) (n c m d : Nat) (w : World) :
  Calls Try.prog 37 #[.agg #[.int .i64 s, .slice A n c], .agg #[.int .i64 0, .slice B m d]] w fun e w' => e = .returned (.agg #[.int .i64 s, .slice A n c]) ∧ Below w.heap.size w w' := by
 go_enter Try.func37, Try.ntmps37
 go_wp2
 exact bodyPost_ret (v := .agg #[.int .i64 s, .slice A n c]) (by simp [results, Try.results37, go_sem]) rfl ⟨rfl, (((Below.refl _ _).alloc (Nat.le_refl _) _).alloc (by simp) _).alloc (by simp; omega) _⟩
set_option maxHeartbeats 1000000 in
theorem add_same (s : Int) (hs : (s == 0) = false) (A B : Option Addr) (n c m d : Nat) (xs ys zs : List Int) (k : Nat) (w : World) (hA : RV w (.slice A n c) xs) (hB : RV w (.slice B m d) ys) (H : Aside0 (zelligeref03_Add.f k xs ys = some zs)) :
  Calls Try.prog 37 #[.agg #[.int .i64 s, .slice A n c], .agg #[.int .i64 s, .slice B m d]] w fun e w' => ∃ v, e = .returned (.agg #[.int .i64 s, v]) ∧ RV w' v zs ∧ Below w.heap.size w w' := by
 obtain ⟨qa, qc, hA'⟩ := hA.reads
 obtain ⟨qb, qd, hB'⟩ := hB.reads
 subst qa qb
 have HA := Aside0.mk (fun (W : World) (hb : Below w.heap.size w W) => hA.below hb)
 have HB := Aside0.mk (fun (W : World) (hb : Below w.heap.size w W) => hB.below hb)
 clear hA hB hA' hB'
 go_enter Try.func37, Try.ntmps37
 go_wp2_with fail
 obtain ⟨n0, n1, n2, bw, nw⟩ := three_new w (.cells #[.int .i64 s, .slice A xs.length c] 33) (.cells #[.int .i64 s, .slice B ys.length d] 33) (.cells #[.int .i64 0, .slice none 0 0] 33)
 generalize (((w.alloc (.cells #[.int .i64 s, .slice A xs.length c] 33)).alloc (.cells #[.int .i64 s, .slice B ys.length d] 33)).alloc (.cells #[.int .i64 0, .slice none 0 0] 33)) = W at n0 n1 n2 bw nw ⊢
 have N2 := Aside0.mk n2
 have BW := Aside0.mk bw
 have c0 : W.cell? ⟨w.heap.size, 0, none⟩ = some (.int .i64 s) := (blk_cell n0 0).trans rfl
 have c1 : W.cell? ⟨w.heap.size, 1, none⟩ = some (.slice A xs.length c) := (blk_cell n0 1).trans rfl
 have k0 : W.cell? ⟨w.heap.size + 1, 0, none⟩ = some (.int .i64 s) := (blk_cell n1 0).trans rfl
 have c2 : W.cell? ⟨w.heap.size + 1, 1, none⟩ = some (.slice B ys.length d) := (blk_cell n1 1).trans rfl
 clear n0 n1 n2 bw nw
 go_region_held3 (fun w' => w'.cell? ⟨w.heap.size, 0, none⟩ = some (.int .i64 s) ∧ w'.cell? ⟨w.heap.size, 1, none⟩ = some (.slice A xs.length c) ∧ w'.cell? ⟨w.heap.size + 1, 1, none⟩ = some (.slice B ys.length d)) (first | exact ⟨c0, c1, c2⟩ | exact ⟨d0, d1, d2⟩ | exact ⟨far2 d0 (by omega), far2 d1 (by omega), far2 d2 (by omega)⟩)
  (first | (go_at_call 57; refine (zelligeref03_Add.calls k A c xs B d ys zs _ ?s1 ?s2 ?s3 ?s4 H.out).mono ?_; (case s1 => exact (HA.out _ (below_drew BW.out)).reads.2.2); (case s2 => exact qc); (case s3 => exact (HB.out _ (below_drew BW.out)).reads.2.2); (case s4 => exact qd); rintro e w1 ⟨v, rfl, hR, hb⟩; have HR := Aside0.mk (RV.of_R hR); clear hR; obtain ⟨A2, cc2, rfl, hl2, hC2⟩ := HR.out.form; clear hC2; have d0 := pw_cell_below (w := W.drew) hb c0; have d1 := pw_cell_below (w := W.drew) hb c1; have d2 := pw_cell_below (w := W.drew) hb c2; have m2 := blk_below (w := W.drew) N2.out hb; have d3 : w1.cell? ⟨w.heap.size + 1 + 1, 0, none⟩ = some (.int .i64 0) := (blk_cell m2 0).trans rfl; have d4 : w1.cell? ⟨w.heap.size + 1 + 1, 1, none⟩ = some (.slice none 0 0) := (blk_cell m2 1).trans rfl; have g3 := blk_frozen m2 0; have g4 := blk_frozen m2 1; have M2 := Aside0.mk m2; have Hb := Aside0.mk hb; clear hb m2))
 go_wp2
 refine bodyPost_ret (results_cell_row rfl _ _ (w.heap.size + 1 + 1) 33 #[.int .i64 s, .slice A2 zs.length cc2] (0, 0) _ rfl (blk_put (cs := #[.int .i64 s, .slice none 0 0]) (blk_put (cs := #[.int .i64 0, .slice none 0 0]) M2.out 0 _ rfl) 1 _ rfl) Try.underlying33 rfl (by kernel_rfl)) rfl ?_
 exact ⟨_, rfl, (HR.out.store M2.out (by decide) 0 _).store (blk_put (cs := #[.int .i64 0, .slice none 0 0]) M2.out 0 _ rfl) (by decide) 1 _, below_set2 (below_then (below_drew BW.out) BW.out.size Hb.out) (by omega) _ _ _ _⟩
set_option maxHeartbeats 2000000 in
theorem add_ge (s t : Int) (hs : (s == 0) = false) (ht : (t == 0) = false) (hst : (s == t) = false) (A B : Option Addr) (n c m d : Nat) (xs ys zs : List Int) (cv : Int) (hc : decide (cv < 0) = false) (hc' : decide (0 ≤ cv) = true) (k : Nat) (w : World) (hA : RV w (.slice A n c) xs) (hB : RV w (.slice B m d) ys) (H : Aside0 (zelligeref03_Cmp.f k xs ys = some cv)) (Hs : Aside0 (zelligeref03_Sub.f k xs ys = some zs)) (r : Int) (hz : Aside0 ((if zs = [] then 0 else s) = r)) :
  Calls Try.prog 37 #[.agg #[.int .i64 s, .slice A n c], .agg #[.int .i64 t, .slice B m d]] w fun e w' => ∃ v, e = .returned (.agg #[.int .i64 r, v]) ∧ RV w' v zs ∧ Below w.heap.size w w' := by
 obtain ⟨qa, qc, hA'⟩ := hA.reads
 obtain ⟨qb, qd, hB'⟩ := hB.reads
 subst qa qb
 have HA := Aside0.mk (fun (W : World) (hb : Below w.heap.size w W) => hA.below hb)
 have HB := Aside0.mk (fun (W : World) (hb : Below w.heap.size w W) => hB.below hb)
 clear hA hB hA' hB'
 go_enter Try.func37, Try.ntmps37
 go_wp2_with fail
 obtain ⟨n0, n1, n2, bw, nw⟩ := three_new w (.cells #[.int .i64 s, .slice A xs.length c] 33) (.cells #[.int .i64 t, .slice B ys.length d] 33) (.cells #[.int .i64 0, .slice none 0 0] 33)
 generalize (((w.alloc (.cells #[.int .i64 s, .slice A xs.length c] 33)).alloc (.cells #[.int .i64 t, .slice B ys.length d] 33)).alloc (.cells #[.int .i64 0, .slice none 0 0] 33)) = W at n0 n1 n2 bw nw ⊢
 have N2 := Aside0.mk n2
 have BW := Aside0.mk bw
 have c0 : W.cell? ⟨w.heap.size, 0, none⟩ = some (.int .i64 s) := (blk_cell n0 0).trans rfl
 have c1 : W.cell? ⟨w.heap.size, 1, none⟩ = some (.slice A xs.length c) := (blk_cell n0 1).trans rfl
 have k0 : W.cell? ⟨w.heap.size + 1, 0, none⟩ = some (.int .i64 t) := (blk_cell n1 0).trans rfl
 have c2 : W.cell? ⟨w.heap.size + 1, 1, none⟩ = some (.slice B ys.length d) := (blk_cell n1 1).trans rfl
 clear n0 n1 n2 bw nw
 refine (zelligeref03_Cmp.calls k A c xs B d ys cv _ ?s1 ?s2 ?s3 ?s4 H.out).mono ?_
 case s1 => exact (HA.out _ BW.out).reads.2.2
 case s2 => exact qc
 case s3 => exact (HB.out _ BW.out).reads.2.2
 case s4 => exact qd
 rintro e w1 ⟨rfl, ⟨nd, rfl⟩⟩
 go_wp2_with fail
 go_region_held3 (fun w' => w'.cell? ⟨w.heap.size, 0, none⟩ = some (.int .i64 s) ∧ w'.cell? ⟨w.heap.size, 1, none⟩ = some (.slice A xs.length c) ∧ w'.cell? ⟨w.heap.size + 1, 1, none⟩ = some (.slice B ys.length d)) (first | exact ⟨c0, c1, c2⟩ | exact ⟨d0, d1, d2⟩ | exact ⟨e0, e1, e2⟩ | exact ⟨far2 e0 (by omega), far2 e1 (by omega), far2 e2 (by omega)⟩)
  (first | (go_at_call 59; refine (zelligeref03_Sub.calls k A c xs B d ys zs _ ?s1 ?s2 ?s3 ?s4 Hs.out).mono ?_; (case s1 => exact (HA.out _ (by repeat (first | exact BW.out | apply below_drew | apply pw_below_drewN))).reads.2.2); (case s2 => exact qc); (case s3 => exact (HB.out _ (by repeat (first | exact BW.out | apply below_drew | apply pw_below_drewN))).reads.2.2); (case s4 => exact qd); rintro e w1 ⟨v, rfl, hR, hb⟩; have HR := Aside0.mk (RV.of_R hR); clear hR; obtain ⟨A2, cc2, rfl, hl2, hC2⟩ := HR.out.form; clear hC2; have d0 := pw_cell_below hb c0; have d1 := pw_cell_below hb c1; have d2 := pw_cell_below hb c2; have M1 := Aside0.mk (blk_below (w := W.drewN (nd + 1)) (o := .cells #[.int .i64 0, .slice none 0 0] 33 (0, 0)) N2.out hb); have Hb := Aside0.mk (below_then (B := w.heap.size) (w := w) (w1 := W.drewN (nd + 1)) (by repeat (first | exact BW.out | apply below_drew | apply pw_below_drewN)) BW.out.size hb); clear hb) | (go_at_call 54; refine (make1_any _ r hz _ _ HR.out).mono ?_; rintro e w2 ⟨u, rfl, hR, hb⟩; have HU := Aside0.mk hR; clear hR; obtain ⟨A3, cc3, rfl, hl3, hC3⟩ := HU.out.form; clear hC3; have e0 := pw_cell_below hb d0; have e1 := pw_cell_below hb d1; have e2 := pw_cell_below hb d2; have m2 := blk_below M1.out hb; have e3 : w2.cell? ⟨w.heap.size + 1 + 1, 0, none⟩ = some (.int .i64 0) := (blk_cell m2 0).trans rfl; have e4 : w2.cell? ⟨w.heap.size + 1 + 1, 1, none⟩ = some (.slice none 0 0) := (blk_cell m2 1).trans rfl; have g3 := blk_frozen m2 0; have g4 := blk_frozen m2 1; have M2 := Aside0.mk m2; have Hb2 := Aside0.mk (below_then Hb.out Hb.out.size hb); clear hb m2))
 go_wp2
 refine bodyPost_ret (results_cell_row rfl _ _ (w.heap.size + 1 + 1) 33 #[.int .i64 r, .slice A3 zs.length cc3] (0, 0) _ rfl (blk_put (cs := #[.int .i64 r, .slice none 0 0]) (blk_put (cs := #[.int .i64 0, .slice none 0 0]) M2.out 0 _ rfl) 1 _ rfl) Try.underlying33 rfl (by kernel_rfl)) rfl ?_
 exact ⟨_, rfl, (HU.out.store M2.out (by decide) 0 _).store (blk_put (cs := #[.int .i64 0, .slice none 0 0]) M2.out 0 _ rfl) (by decide) 1 _, below_set2 Hb2.out (by omega) _ _ _ _⟩
set_option maxHeartbeats 2000000 in
theorem add_lt (s t : Int) (hs : (s == 0) = false) (ht : (t == 0) = false) (hst : (s == t) = false) (A B : Option Addr) (n c m d : Nat) (xs ys zs : List Int) (cv : Int) (hc : decide (cv < 0) = true) (hc' : decide (0 ≤ cv) = false) (k : Nat) (w : World) (hA : RV w (.slice A n c) xs) (hB : RV w (.slice B m d) ys) (H : Aside0 (zelligeref03_Cmp.f k xs ys = some cv)) (Hs : Aside0 (zelligeref03_Sub.f k ys xs = some zs)) (r : Int) (hz : Aside0 ((if zs = [] then 0 else t) = r)) :
  Calls Try.prog 37 #[.agg #[.int .i64 s, .slice A n c], .agg #[.int .i64 t, .slice B m d]] w fun e w' => ∃ v, e = .returned (.agg #[.int .i64 r, v]) ∧ RV w' v zs ∧ Below w.heap.size w w' := by
 obtain ⟨qa, qc, hA'⟩ := hA.reads
 obtain ⟨qb, qd, hB'⟩ := hB.reads
 subst qa qb
 have HA := Aside0.mk (fun (W : World) (hb : Below w.heap.size w W) => hA.below hb)
 have HB := Aside0.mk (fun (W : World) (hb : Below w.heap.size w W) => hB.below hb)
 clear hA hB hA' hB'
 go_enter Try.func37, Try.ntmps37
 go_wp2_with fail
 obtain ⟨n0, n1, n2, bw, nw⟩ := three_new w (.cells #[.int .i64 s, .slice A xs.length c] 33) (.cells #[.int .i64 t, .slice B ys.length d] 33) (.cells #[.int .i64 0, .slice none 0 0] 33)
 generalize (((w.alloc (.cells #[.int .i64 s, .slice A xs.length c] 33)).alloc (.cells #[.int .i64 t, .slice B ys.length d] 33)).alloc (.cells #[.int .i64 0, .slice none 0 0] 33)) = W at n0 n1 n2 bw nw ⊢
 have N2 := Aside0.mk n2
 have BW := Aside0.mk bw
 have c0 : W.cell? ⟨w.heap.size, 0, none⟩ = some (.int .i64 s) := (blk_cell n0 0).trans rfl
 have c1 : W.cell? ⟨w.heap.size, 1, none⟩ = some (.slice A xs.length c) := (blk_cell n0 1).trans rfl
 have k0 : W.cell? ⟨w.heap.size + 1, 0, none⟩ = some (.int .i64 t) := (blk_cell n1 0).trans rfl
 have c2 : W.cell? ⟨w.heap.size + 1, 1, none⟩ = some (.slice B ys.length d) := (blk_cell n1 1).trans rfl
 clear n0 n1 n2 bw nw
 refine (zelligeref03_Cmp.calls k A c xs B d ys cv _ ?s1 ?s2 ?s3 ?s4 H.out).mono ?_
 case s1 => exact (HA.out _ BW.out).reads.2.2
 case s2 => exact qc
 case s3 => exact (HB.out _ BW.out).reads.2.2
 case s4 => exact qd
 rintro e w1 ⟨rfl, ⟨nd, rfl⟩⟩
 go_wp2_with fail
 go_region_held3 (fun w' => w'.cell? ⟨w.heap.size + 1, 0, none⟩ = some (.int .i64 t) ∧ w'.cell? ⟨w.heap.size, 1, none⟩ = some (.slice A xs.length c) ∧ w'.cell? ⟨w.heap.size + 1, 1, none⟩ = some (.slice B ys.length d)) (first | exact ⟨k0, c1, c2⟩ | exact ⟨d0, d1, d2⟩ | exact ⟨e0, e1, e2⟩ | exact ⟨far2 e0 (by omega), far2 e1 (by omega), far2 e2 (by omega)⟩)
  (first | (go_at_call 59; refine (zelligeref03_Sub.calls k B d ys A c xs zs _ ?s1 ?s2 ?s3 ?s4 Hs.out).mono ?_; (case s1 => exact (HB.out _ (by repeat (first | exact BW.out | apply below_drew | apply pw_below_drewN))).reads.2.2); (case s2 => exact qd); (case s3 => exact (HA.out _ (by repeat (first | exact BW.out | apply below_drew | apply pw_below_drewN))).reads.2.2); (case s4 => exact qc); rintro e w1 ⟨v, rfl, hR, hb⟩; have HR := Aside0.mk (RV.of_R hR); clear hR; obtain ⟨A2, cc2, rfl, hl2, hC2⟩ := HR.out.form; clear hC2; have d0 := pw_cell_below hb k0; have d1 := pw_cell_below hb c1; have d2 := pw_cell_below hb c2; have M1 := Aside0.mk (blk_below (w := W.drewN (nd + 1)) (o := .cells #[.int .i64 0, .slice none 0 0] 33 (0, 0)) N2.out hb); have Hb := Aside0.mk (below_then (B := w.heap.size) (w := w) (w1 := W.drewN (nd + 1)) (by repeat (first | exact BW.out | apply below_drew | apply pw_below_drewN)) BW.out.size hb); clear hb) | (go_at_call 54; refine (make1_any _ r hz _ _ HR.out).mono ?_; rintro e w2 ⟨u, rfl, hR, hb⟩; have HU := Aside0.mk hR; clear hR; obtain ⟨A3, cc3, rfl, hl3, hC3⟩ := HU.out.form; clear hC3; have e0 := pw_cell_below hb d0; have e1 := pw_cell_below hb d1; have e2 := pw_cell_below hb d2; have m2 := blk_below M1.out hb; have e3 : w2.cell? ⟨w.heap.size + 1 + 1, 0, none⟩ = some (.int .i64 0) := (blk_cell m2 0).trans rfl; have e4 : w2.cell? ⟨w.heap.size + 1 + 1, 1, none⟩ = some (.slice none 0 0) := (blk_cell m2 1).trans rfl; have g3 := blk_frozen m2 0; have g4 := blk_frozen m2 1; have M2 := Aside0.mk m2; have Hb2 := Aside0.mk (below_then Hb.out Hb.out.size hb); clear hb m2))
 go_wp2
 refine bodyPost_ret (results_cell_row rfl _ _ (w.heap.size + 1 + 1) 33 #[.int .i64 r, .slice A3 zs.length cc3] (0, 0) _ rfl (blk_put (cs := #[.int .i64 r, .slice none 0 0]) (blk_put (cs := #[.int .i64 0, .slice none 0 0]) M2.out 0 _ rfl) 1 _ rfl) Try.underlying33 rfl (by kernel_rfl)) rfl ?_
 exact ⟨_, rfl, (HU.out.store M2.out (by decide) 0 _).store (blk_put (cs := #[.int .i64 0, .slice none 0 0]) M2.out 0 _ rfl) (by decide) 1 _, below_set2 Hb2.out (by omega) _ _ _ _⟩
end Go.Proofs.Ytmeckkckjikjiaa.Whole
end
section
namespace Go.Proofs.Ytmeckkckjikjiaa.Whole
open Go RowKit YtmeckkckjikjiaaW.PrintWords YtmeckkckjikjiaaW.PrintLast YtmeckkckjikjiaaW.PrintMore Ytmeckkckjikjiaa.F Ytmeckkckjikjiaa.Dig
set_option linter.unusedVariables false
structure NI (w : World) (v : Value) (n : Int) : Prop where
 mk :: (out : ∃ A l c, v = .agg #[.int .i64 n.sign, .slice A l c] ∧ RV w (.slice A l c) (dig n.natAbs))
theorem NI.below {w w' : World} {v : Value} {n : Int} (h : NI w v n) (hb : Below w.heap.size w w') : NI w' v n := by
 obtain ⟨A, l, c, rfl, h⟩ := h
 exact ⟨A, l, c, rfl, h.below hb⟩
theorem NI.drewN {w : World} {v : Value} {n : Int} (h : NI w v n) (k : Nat) : NI (w.drewN k) v n := by
 obtain ⟨A, l, c, rfl, h⟩ := h
 exact ⟨A, l, c, rfl, h.drewN k⟩
theorem NI.store {w : World} {v : Value} {n : Int} (h : NI w v n) {g t : Nat} {cs : Array Value} (hg : w.heap[g]? = some (.cells cs t (0, 0))) (ht : t ≠ 3) (i : Nat) (u : Value) : NI (w.setCell ⟨g, i, none⟩ u) v n := by
 obtain ⟨A, l, c, rfl, h⟩ := h
 exact ⟨A, l, c, rfl, h.store hg ht i u⟩
theorem NI.shape {w : World} {v : Value} {n : Int} (h : NI w v n) : ∃ (s : Int) (A : Option Addr) (l c : Nat), v = .agg #[.int .i64 s, .slice A l c] := by
 obtain ⟨A, l, c, rfl, h⟩ := h
 exact ⟨_, A, l, c, rfl⟩
def Sm (n : Int) : Prop := (dig n.natAbs).length ≤ 1000
theorem Sm.of {n : Int} (h : -115792089237316195423570985008687907853269984665640564039457584007913129639936 ≤ n) (h' : n ≤ 115792089237316195423570985008687907853269984665640564039457584007913129639936) : Sm n := by
 have : (dig n.natAbs).length ≤ 17 := by
  apply dig_len
  simp only [P]
  omega
 unfold Sm
 omega
theorem sign_eq (n : Int) : n.sign = if n = 0 then 0 else if n < 0 then -1 else 1 := by
 rcases Int.lt_trichotomy n 0 with h | h | h
 ·rw [Int.sign_eq_neg_one_of_neg h, if_neg (by omega), if_pos h]
 ·subst h; rfl
 ·rw [Int.sign_eq_one_of_pos h, if_neg (by omega), if_neg (by omega)]
theorem dig_nil {n : Nat} : dig n = [] ↔ n = 0 := ⟨fun h => by
 have := dig_val n
 rw [h] at this
 simp [val] at this
 omega, fun h => by rw [h, dig_zero]⟩
theorem add_c (v u : Value) (n m : Int) (hn : Sm n) (hm : Sm m) (w : World) (h : NI w v n) (h' : NI w u m) :
  Calls Try.prog 37 #[v, u] w fun e w' => ∃ r, e = .returned r ∧ NI w' r (n + m) ∧ Below w.heap.size w w' := by
 obtain ⟨A, l, c, rfl, hA⟩ := h
 obtain ⟨B, l', d, rfl, hB⟩ := h'
 unfold Sm at hn hm
 by_cases n0 : n = 0
 ·subst n0
  rw [show (0 : Int).sign = 0 from rfl]
  refine (add_left m.sign A B l c l' d w).mono fun e w' ⟨he, hb⟩ => ⟨_, he, ?_, hb⟩
  rw [Int.zero_add]
  exact ⟨B, l', d, rfl, hB.below hb⟩
 have s0 : (n.sign == 0) = false := beq_eq_false_iff_ne.2 (fun e => n0 (Int.sign_eq_zero_iff_zero.1 e))
 by_cases m0 : m = 0
 ·subst m0
  rw [show (0 : Int).sign = 0 from rfl]
  refine (add_right n.sign s0 A B l c l' d w).mono fun e w' ⟨he, hb⟩ => ⟨_, he, ?_, hb⟩
  rw [Int.add_zero]
  exact ⟨A, l, c, rfl, hA.below hb⟩
 have t0 : (m.sign == 0) = false := beq_eq_false_iff_ne.2 (fun e => m0 (Int.sign_eq_zero_iff_zero.1 e))
 have fin : ∀ (e : Ending) (w' : World) (r v' : _) (k : Nat), e = .returned (.agg #[.int .i64 r, v']) → RV w' v' (dig k) → r = (n + m).sign → k = (n + m).natAbs → Below w.heap.size w w' → ∃ r, e = .returned r ∧ NI w' r (n + m) ∧ Below w.heap.size w w' := by
  intro e w' r v' k he hv hr hk hb
  obtain ⟨A', c', rfl, _⟩ := hv.form
  subst hr hk
  exact ⟨_, he, ⟨A', _, c', rfl, hv⟩, hb⟩
 by_cases st : n.sign = m.sign
 ·have := add_f n.natAbs m.natAbs (by omega) (by omega) (k := 50000) (by omega)
  rw [← st]
  refine (add_same n.sign s0 A B l c l' d _ _ _ 50000 w hA hB ⟨this⟩).mono fun e w' ⟨v', he, hv, hb⟩ => fin e w' _ _ _ he hv ?_ ?_ hb
  ·rw [sign_eq, sign_eq]
   rw [sign_eq, sign_eq] at st
   omega
  ·rw [sign_eq, sign_eq] at st
   omega
 ·have hst : (n.sign == m.sign) = false := beq_eq_false_iff_ne.2 st
  have hc := cmp_f n.natAbs m.natAbs (by omega) (k := 50000) (by omega)
  rw [sign_eq, sign_eq] at st
  by_cases hlt : n.natAbs < m.natAbs
  ·rw [if_pos hlt] at hc
   have hs := sub_f m.natAbs n.natAbs (by omega) (by omega) (k := 50000) (by omega)
   refine (add_lt n.sign m.sign s0 t0 hst A B l c l' d _ _ _ (-1) (by decide) (by decide) 50000 w hA hB ⟨hc⟩ ⟨hs⟩ _ ⟨rfl⟩).mono fun e w' ⟨v', he, hv, hb⟩ => fin e w' _ _ _ he hv ?_ (by omega) hb
   rw [if_neg (fun e => by rw [dig_nil] at e; omega), sign_eq, sign_eq]
   omega
  ·have hs := sub_f n.natAbs m.natAbs (by omega) (by omega) (k := 50000) (by omega)
   rw [if_neg hlt] at hc
   refine (add_ge n.sign m.sign s0 t0 hst A B l c l' d _ _ _ (if n.natAbs > m.natAbs then 1 else 0) (by split <;> rfl) (by split <;> rfl) 50000 w hA hB ⟨hc⟩ ⟨hs⟩ _ ⟨rfl⟩).mono fun e w' ⟨v', he, hv, hb⟩ => fin e w' _ _ _ he hv ?_ (by omega) hb
   by_cases he : n.natAbs = m.natAbs
   ·rw [if_pos (dig_nil.2 (by omega)), sign_eq]
    omega
   ·rw [if_neg (fun e => by rw [dig_nil] at e; omega), sign_eq, sign_eq]
    omega
theorem neg_c (v : Value) (n : Int) (w : World) (h : NI w v n) :
  Calls Try.prog 56 #[v] w fun e w' => ∃ r, e = .returned r ∧ NI w' r (-n) ∧ Below w.heap.size w w' := by
 obtain ⟨A, l, c, rfl, hA⟩ := h
 refine (neg_any n.sign A l c w).mono fun e w' ⟨he, hb⟩ => ⟨_, he, ⟨A, l, c, ?_, ?_⟩, hb⟩
 ·have : wrap64 (0 - n.sign) = (-n).sign := by
   rw [sign_eq, sign_eq]
   unfold wrap64
   omega
  rw [this]
 ·rw [Int.natAbs_neg]; exact hA.below hb
theorem long_c (n : Int) (hn : (Lit.int .i64 n).wf = true) (w : World) :
  Calls Try.prog 31 #[.int .i64 n] w fun e w' => ∃ r, e = .returned r ∧ NI w' r n ∧ Below w.heap.size w w' := by
 have bd : -9223372036854775808 ≤ n ∧ n ≤ 9223372036854775807 := by
  exact bounds_i64 hn
 have hf : zelligeref04_Long.f 1000 n = some (n.sign, dig n.natAbs) := by
  unfold zelligeref04_Long.f
  have u64 : ∀ x : Int, IntKind.u64.wrap x = x % 18446744073709551616 := by intro x; simp [IntKind.wrap, IntKind.bits, IntKind.signed]
  by_cases h0 : n = 0
  ·subst h0; rw [if_pos rfl]; simp [dig_zero]
  ·rw [if_neg h0]
   by_cases h1 : n < 0
   ·rw [if_pos h1, u64, u64, of_two _ _ (by omega) (by omega) (by omega) (by omega) (by omega)]
    simp only [Option.bind_some]
    rw [Int.sign_eq_neg_one_of_neg h1]
    congr 3
    omega
   ·rw [if_neg h1, u64, of_two _ _ (by omega) (by omega) (by omega) (by omega) (by omega)]
    simp only [Option.bind_some]
    rw [Int.sign_eq_one_of_pos (by omega)]
    congr 3
    omega
 refine (zelligeref04_Long.calls 1000 n _ _ w hf).mono fun e w' ⟨v, he, hR, hb⟩ => ?_
 have hv := RV.of_R hR
 obtain ⟨A', c', rfl, _⟩ := hv.form
 exact ⟨_, he, ⟨A', _, c', rfl, hv⟩, hb⟩
set_option maxHeartbeats 1000000 in
theorem sub_walk (s : Int) (A : Option Addr) (l c : Nat) (t : Int) (B : Option Addr) (m d : Nat) (n n' : Int) (hn : Sm n) (hm : Sm n') (w : World) (h : NI w (.agg #[.int .i64 s, .slice A l c]) n) (h' : NI w (.agg #[.int .i64 t, .slice B m d]) n') :
  Calls Try.prog 36 #[.agg #[.int .i64 s, .slice A l c], .agg #[.int .i64 t, .slice B m d]] w fun e w' => ∃ r, e = .returned r ∧ NI w' r (n - n') ∧ Below w.heap.size w w' := by
 have HA := Aside0.mk (fun (W : World) (hb : Below w.heap.size w W) => h.below hb)
 have HB := Aside0.mk (fun (W : World) (hb : Below w.heap.size w W) => h'.below hb)
 have hm' : Aside0 (Sm (-n')) := ⟨by unfold Sm at hm ⊢; rw [Int.natAbs_neg]; exact hm⟩
 clear h h'
 go_enter Try.func36, Try.ntmps36
 go_wp2_with fail
 obtain ⟨n0, n1, n2, bw, nw⟩ := three_new w (.cells #[.int .i64 s, .slice A l c] 33) (.cells #[.int .i64 t, .slice B m d] 33) (.cells #[.int .i64 0, .slice none 0 0] 33)
 generalize (((w.alloc (.cells #[.int .i64 s, .slice A l c] 33)).alloc (.cells #[.int .i64 t, .slice B m d] 33)).alloc (.cells #[.int .i64 0, .slice none 0 0] 33)) = W at n0 n1 n2 bw nw ⊢
 have N2 := Aside0.mk n2
 have BW := Aside0.mk bw
 have c0 : W.cell? ⟨w.heap.size, 0, none⟩ = some (.int .i64 s) := (blk_cell n0 0).trans rfl
 have c1 : W.cell? ⟨w.heap.size, 1, none⟩ = some (.slice A l c) := (blk_cell n0 1).trans rfl
 have k0 : W.cell? ⟨w.heap.size + 1, 0, none⟩ = some (.int .i64 t) := (blk_cell n1 0).trans rfl
 have k1 : W.cell? ⟨w.heap.size + 1, 1, none⟩ = some (.slice B m d) := (blk_cell n1 1).trans rfl
 clear n0 n1 n2 bw nw
 go_region_held3 (fun w' => w'.cell? ⟨w.heap.size, 0, none⟩ = some (.int .i64 s) ∧ w'.cell? ⟨w.heap.size, 1, none⟩ = some (.slice A l c) ∧ w'.cell? ⟨w.heap.size + 1, 0, none⟩ = some (.int .i64 t) ∧ w'.cell? ⟨w.heap.size + 1, 1, none⟩ = some (.slice B m d)) (first | exact ⟨c0, c1, k0, k1⟩ | exact ⟨d0, d1, d2, d3⟩ | exact ⟨e0, e1, e2, e3⟩ | exact ⟨far2 e0 (by omega), far2 e1 (by omega), far2 e2 (by omega), far2 e3 (by omega)⟩)
  (first | (go_at_call 56; refine (neg_c _ n' _ (HB.out _ (below_drew BW.out))).mono ?_; rintro e w1 ⟨v, rfl, hN, hb⟩; have HN := Aside0.mk hN; clear hN; obtain ⟨s1, A1, l1, cc1, rfl⟩ := HN.out.shape; have d0 := pw_cell_below (w := W.drew) hb c0; have d1 := pw_cell_below (w := W.drew) hb c1; have d2 := pw_cell_below (w := W.drew) hb k0; have d3 := pw_cell_below (w := W.drew) hb k1; have M1 := Aside0.mk (blk_below (w := W.drew) N2.out hb); have Hb := Aside0.mk (below_then (below_drew BW.out) BW.out.size hb); clear hb) | (go_at_call 37; refine (add_c _ _ n (-n') hn hm'.out _ (HA.out _ Hb.out) HN.out).mono ?_; rintro e w2 ⟨u, rfl, hN, hb⟩; have HU := Aside0.mk hN; clear hN; obtain ⟨s3, A3, l3, cc3, rfl⟩ := HU.out.shape; have e0 := pw_cell_below hb d0; have e1 := pw_cell_below hb d1; have e2 := pw_cell_below hb d2; have e3 := pw_cell_below hb d3; have m2 := blk_below M1.out hb; have e4 : w2.cell? ⟨w.heap.size + 1 + 1, 0, none⟩ = some (.int .i64 0) := (blk_cell m2 0).trans rfl; have e5 : w2.cell? ⟨w.heap.size + 1 + 1, 1, none⟩ = some (.slice none 0 0) := (blk_cell m2 1).trans rfl; have g3 := blk_frozen m2 0; have g4 := blk_frozen m2 1; have M2 := Aside0.mk m2; have Hb2 := Aside0.mk (below_then Hb.out Hb.out.size hb); clear hb m2))
 go_wp2
 refine bodyPost_ret (results_cell_row rfl _ _ (w.heap.size + 1 + 1) 33 #[.int .i64 s3, .slice A3 l3 cc3] (0, 0) _ rfl (blk_put (cs := #[.int .i64 s3, .slice none 0 0]) (blk_put (cs := #[.int .i64 0, .slice none 0 0]) M2.out 0 _ rfl) 1 _ rfl) Try.underlying33 rfl (by kernel_rfl)) rfl ?_
 exact ⟨_, rfl, (HU.out.store M2.out (by decide) 0 _).store (blk_put (cs := #[.int .i64 0, .slice none 0 0]) M2.out 0 _ rfl) (by decide) 1 _, below_set2 Hb2.out (by omega) _ _ _ _⟩
theorem sub_c (v u : Value) (n m : Int) (hn : Sm n) (hm : Sm m) (w : World) (h : NI w v n) (h' : NI w u m) :
  Calls Try.prog 36 #[v, u] w fun e w' => ∃ r, e = .returned r ∧ NI w' r (n - m) ∧ Below w.heap.size w w' := by
 obtain ⟨s, A, l, c, rfl⟩ := h.shape
 obtain ⟨t, B, k, d, rfl⟩ := h'.shape
 exact sub_walk s A l c t B k d n m hn hm w h h'
theorem field_sign (q : Int) (v : Value) (W : World) : (Instr.field 33 (.agg #[.int .i64 q, v]) 0).run Try.prog W = .ok (.int .i64 q) W := by kernel_rfl
set_option maxHeartbeats 1000000 in
theorem cmp_walk (s : Int) (A : Option Addr) (l c : Nat) (t : Int) (B : Option Addr) (m d : Nat) (n n' : Int) (hn : Sm n) (hm : Sm n') (w : World) (h : NI w (.agg #[.int .i64 s, .slice A l c]) n) (h' : NI w (.agg #[.int .i64 t, .slice B m d]) n') :
  Calls Try.prog 18 #[.agg #[.int .i64 s, .slice A l c], .agg #[.int .i64 t, .slice B m d]] w fun e w' => e = .returned (.int .i64 (n - n').sign) ∧ Below w.heap.size w w' := by
 have HA := Aside0.mk (fun (W : World) (hb : Below w.heap.size w W) => h.below hb)
 have HB := Aside0.mk (fun (W : World) (hb : Below w.heap.size w W) => h'.below hb)
 clear h h'
 go_enter Try.func18, Try.ntmps18
 go_wp2_with fail
 obtain ⟨n0, n1, bw, nw⟩ := two_new w (.cells #[.int .i64 s, .slice A l c] 33) (.cells #[.int .i64 t, .slice B m d] 33)
 refine (sub_c _ _ n n' hn hm _ (HA.out _ bw) (HB.out _ bw)).mono ?_
 rintro e w1 ⟨v, rfl, hN, hb⟩
 obtain ⟨A1, l1, c1, rfl, _⟩ := hN
 have Hb := Aside0.mk (below_then bw bw.size hb)
 obtain ⟨q, hq⟩ : ∃ q, q = (n - n').sign := ⟨_, rfl⟩
 rw [← hq]
 have HQ := Aside0.mk hq
 clear hb hq n0 n1 bw nw
 have hf := field_sign q (.slice A1 l1 c1)
 go_wp2
 go_ret
 exact ⟨by rw [← HQ.out]; rfl, Hb.out⟩
theorem cmp_c (v u : Value) (n m : Int) (hn : Sm n) (hm : Sm m) (w : World) (h : NI w v n) (h' : NI w u m) :
  Calls Try.prog 18 #[v, u] w fun e w' => e = .returned (.int .i64 (n - m).sign) ∧ Below w.heap.size w w' := by
 obtain ⟨s, A, l, c, rfl⟩ := h.shape
 obtain ⟨t, B, k, d, rfl⟩ := h'.shape
 exact cmp_walk s A l c t B k d n m hn hm w h h'
end Go.Proofs.Ytmeckkckjikjiaa.Whole
end
section
namespace Go.Proofs.Ytmeckkckjikjiaa.Reg
open Go RowKit YtmeckkckjikjiaaW.PrintWords YtmeckkckjikjiaaW.PrintLast Ytmeckkckjikjiaa.Whole
set_option linter.unusedVariables false
def setm (ms : Nat → Value) (i : Nat) (v : Value) : Nat → Value := fun j => if j = i then v else ms j
theorem setm_self (ms : Nat → Value) (i : Nat) (v : Value) : setm ms i v i = v := if_pos rfl
theorem setm_ne {ms : Nat → Value} {i j : Nat} {v : Value} (h : j ≠ i) : setm ms i v j = ms j := if_neg h
def ent (spec : List (Nat × Tmp)) (ms : Nat → Value) : List (Nat × Tmp × Value) := spec.map fun e => (e.1, e.2, ms e.1)
def okAt (spec : List (Nat × Tmp)) (k i : Nat) (t : Tmp) : Bool := (spec[k]? == some (i, t)) && ((spec.take k ++ spec.drop (k + 1)).all fun e => !(e.1 == i) && !(e.2 == t))
theorem ent_get {spec : List (Nat × Tmp)} {ms : Nat → Value} {k i : Nat} {t : Tmp} (h : spec[k]? = some (i, t)) : (ent spec ms)[k]? = some (i, t, ms i) := by
 unfold ent; rw [List.getElem?_map, h]; rfl
theorem ent_all {spec : List (Nat × Tmp)} {ms : Nat → Value} {f : Nat → Tmp → Bool} (h : (spec.all fun e => f e.1 e.2) = true) : ((ent spec ms).all fun e => f e.1 e.2.1) = true := by
 unfold ent; rw [List.all_map]; exact h
theorem okAt_get {spec : List (Nat × Tmp)} {k i : Nat} {t : Tmp} (h : okAt spec k i t = true) : spec[k]? = some (i, t) := by
 unfold okAt at h; rw [Bool.and_eq_true] at h; exact eq_of_beq h.1
theorem okAt_rest {spec : List (Nat × Tmp)} {k i : Nat} {t : Tmp} (h : okAt spec k i t = true) : ((spec.take k ++ spec.drop (k + 1)).all fun e => !(e.1 == i) && !(e.2 == t)) = true := by
 unfold okAt at h; rw [Bool.and_eq_true] at h; exact h.2
theorem ent_cut (spec : List (Nat × Tmp)) (ms : Nat → Value) (k : Nat) : (ent spec ms).take k ++ (ent spec ms).drop (k + 1) = ent (spec.take k ++ spec.drop (k + 1)) ms := by
 unfold ent; rw [List.map_append, List.map_take, List.map_drop]
theorem ent_set {spec : List (Nat × Tmp)} {ms : Nat → Value} {k i : Nat} {t : Tmp} {v : Value} (h : okAt spec k i t = true) : (ent spec ms).set k (i, t, v) = ent spec (setm ms i v) := by
 have hk := (List.getElem?_eq_some_iff.1 (okAt_get h)).1
 have e1 : spec = spec.take k ++ (i, t) :: spec.drop (k + 1) := by
  have h2 : spec[k] = (i, t) := (List.getElem?_eq_some_iff.1 (okAt_get h)).2
  rw [← h2, ← List.drop_eq_getElem_cons hk, List.take_append_drop]
 have far (l : List (Nat × Tmp)) (hl : (l.all fun e => !(e.1 == i) && !(e.2 == t)) = true) : ent l (setm ms i v) = ent l ms := by
  unfold ent
  refine List.map_congr_left (fun e he => ?_)
  have := List.all_eq_true.1 hl e he
  rw [Bool.and_eq_true] at this
  have h3 : e.1 ≠ i := by simpa using this.1
  rw [setm_ne h3]
 have hr := okAt_rest h
 rw [List.all_append, Bool.and_eq_true] at hr
 have e2 : ent spec (setm ms i v) = ent (spec.take k) ms ++ (i, t, v) :: ent (spec.drop (k + 1)) ms := by
  rw [← far _ hr.1, ← far _ hr.2]
  conv => lhs; rw [e1]
  unfold ent
  rw [List.map_append, List.map_cons, setm_self]
 have e3 : ent spec ms = ent (spec.take k) ms ++ (i, t, ms i) :: ent (spec.drop (k + 1)) ms := by
  conv => lhs; rw [e1]
  unfold ent
  rw [List.map_append, List.map_cons]
 have e4 : (ent (spec.take k) ms).length = k := by unfold ent; rw [List.length_map, List.length_take]; omega
 rw [e2, e3, List.set_append_right _ _ (by omega), e4, Nat.sub_self, List.set_cons_zero]
inductive Fk where
 | const (v : Value) | ni (n : Int) | box | put (al c : Nat) | fin (E : (Nat → Value) → World → Prop)
def Fk.one (K0 : Nat) (w : World) (v : Value) : Fk → Prop
 | .const c => v = c
 | .ni n => NI w v n
 | .box => ∃ (g : Nat) (x y : Value), v = .pointer (some ⟨g, 0, none⟩) ∧ K0 ≤ g ∧ w.heap[g]? = some (.cells #[x, y] 33 (0, 0))
 | _ => False
def Fk.isBox : Fk → Bool
 | .box => true
 | _ => false
structure Cx where
 (O : List Nat) (spec : List (Nat × Tmp)) (ks : Nat → Fk) (K0 : Nat) (sh : Nat → Nat) (G : World → Prop) (H : World → Prop) (fi : Nat)
def Fk.holds (c : Cx) (b : Nat → Bool) (ms : Nat → Value) (w : World) (j : Nat) : Fk → Prop
 | .put al q => b al = true ∧ b q = true ∧ j = al + c.sh al ∧ (c.ks al).isBox = true ∧ ∃ (g : Nat) (x y : Value), ms al = .pointer (some ⟨g, 0, none⟩) ∧ ms q = .agg #[x, y] ∧ w.heap[g]? = some (.cells #[x, y] 33 (0, 0))
 | .fin E => (∀ i ∈ c.O, i ≠ j → b i = true) ∧ E ms w
 | k => k.one c.K0 w (ms j)
def Rg (c : Cx) (a0 : Act) (b : Nat → Bool) (a : Act) (w : World) : Prop :=
 ∃ ms : Nat → Value, a = putSel a0 b (ent c.spec ms) ∧ (∀ j, b j = true → (c.ks j).holds c b ms w j) ∧ (∀ i j, i ≠ j → (c.ks i).isBox = true → (c.ks j).isBox = true → b i = true → b j = true → ms i ≠ ms j) ∧ c.G w ∧ (b c.fi = false → c.H w)
section
variable {c : Cx} {a0 a : Act} {b : Nat → Bool} {w w' : World} {ms : Nat → Value} {i j k : Nat} {t : Tmp} {v : Value}
theorem on_ (k : Nat) (ha : a = putSel a0 b (ent c.spec ms)) (h : okAt c.spec k i t = true) (hb : b i = true) (hs : Nat.ble (t + 1) a0.tmps.size = true) : a.tmps[t]? = some (ms i) := by
 rw [ha]
 have hr := okAt_rest h
 rw [List.all_append, Bool.and_eq_true] at hr
 refine putSel_on (e := (i, t, ms i)) k (ent_get (okAt_get h)) ?_ hb hs
 have : ((spec_ : List (Nat × Tmp)) → (spec_.all fun e => !(e.1 == i) && !(e.2 == t)) = true → ((ent spec_ ms).all fun x => !(x.2.1 == t)) = true) := by
  intro l hl
  refine ent_all (f := fun _ t' => !(t' == t)) ?_
  refine List.all_eq_true.2 (fun e he => ?_)
  have := List.all_eq_true.1 hl e he
  rw [Bool.and_eq_true] at this
  exact this.2
 have := this _ hr.2
 unfold ent at this ⊢
 rw [List.map_drop] at this
 exact this
theorem off_ (ha : a = putSel a0 b (ent c.spec ms)) (h : (c.spec.all fun e => !(e.2 == t)) = true) : a.tmps[t]? = a0.tmps[t]? := by
 rw [ha]
 exact putSel_off (ent_all (f := fun _ t' => !(t' == t)) h)
theorem step_ (k : Nat) (h : a = putSel a0 b (ent c.spec ms) ∧ (∀ j, b j = true → (c.ks j).holds c b ms w j) ∧ (∀ i j, i ≠ j → (c.ks i).isBox = true → (c.ks j).isBox = true → b i = true → b j = true → ms i ≠ ms j) ∧ c.G w ∧ (b c.fi = false → c.H w)) (hk : okAt c.spec k i t = true) (hi : c.O.contains i = true) (hb : b i = false) (hw : Below w.heap.size w w') (hG : c.G w')
  (hv : (c.ks i).one c.K0 w' v) (hx : (c.ks i).isBox = true → v = .pointer (some ⟨w.heap.size, 0, none⟩)) (hH : b c.fi = false → c.H w') (hfi : (c.fi == i) = false) : Rg c a0 (up b i) (a.put (some t) v) w' := by
 obtain ⟨ha, hF, hD, _⟩ := h
 have bne : ∀ j, b j = true → j ≠ i := fun j hj e => by rw [e, hb] at hj; cases hj
 have upb : ∀ j, b j = true → up b i j = true := fun j hj => by rw [up_ne (bne j hj)]; exact hj
 have one_mono : ∀ (f : Fk) (u : Value), f.one c.K0 w u → f.one c.K0 w' u := by
  intro f u hf
  cases f with
  | const _ => exact hf
  | ni _ => exact NI.below hf hw
  | box => obtain ⟨g, x, y, e, hg, hh⟩ := hf; exact ⟨g, x, y, e, hg, blk_below hh hw⟩
  | put _ _ => exact hf
  | fin _ => exact hf
 refine ⟨setm ms i v, ?_, ?_, ?_, hG, fun q => hH (by rw [up_ne (by simpa using hfi)] at q; exact q)⟩
 ·rw [ha, putSel_upk k hb (ent_get (okAt_get hk)) (ent_set hk)]
  rw [ent_cut]
  exact ent_all (f := fun i' t' => !(i' == i) && !(t' == t)) (okAt_rest hk)
 ·intro j hj
  by_cases e : j = i
  ·subst e
   have hv' : (c.ks j).one c.K0 w' (setm ms j v j) := by rw [setm_self]; exact hv
   cases hf : c.ks j with
   | const _ => rw [hf] at hv'; exact hv'
   | ni _ => rw [hf] at hv'; exact hv'
   | box => rw [hf] at hv'; exact hv'
   | put _ _ => rw [hf] at hv'; exact hv'.elim
   | fin _ => rw [hf] at hv'; exact hv'.elim
  ·rw [up_ne e] at hj
   have hf := hF j hj
   cases hk' : c.ks j with
   | const _ => rw [hk'] at hf; show setm ms i v j = _; rw [setm_ne e]; exact hf
   | ni _ => rw [hk'] at hf; show NI w' (setm ms i v j) _; rw [setm_ne e]; exact NI.below hf hw
   | box => rw [hk'] at hf; show Fk.one c.K0 w' (setm ms i v j) .box; rw [setm_ne e]; exact one_mono _ _ hf
   | put al q =>
    rw [hk'] at hf
    obtain ⟨h1, h2, h3, h3', g, x, y, h4, h5, h6⟩ := hf
    refine ⟨upb _ h1, upb _ h2, h3, h3', g, x, y, ?_, ?_, blk_below h6 hw⟩
    ·rw [setm_ne (bne _ h1)]; exact h4
    ·rw [setm_ne (bne _ h2)]; exact h5
   | fin E =>
    rw [hk'] at hf
    have := hf.1 i (List.contains_iff_mem.1 hi) (fun q => e q.symm)
    rw [hb] at this
    cases this
 ·intro i1 j1 hne h1 h2 hb1 hb2
  have old : ∀ j, j ≠ i → (c.ks j).isBox = true → up b i j = true → (c.ks i).isBox = true → ms j ≠ v := by
   intro j hj hbx hbj hbi
   rw [up_ne hj] at hbj
   have hf := hF j hbj
   cases hk' : c.ks j with
   | box =>
    rw [hk'] at hf
    obtain ⟨g, x, y, e, _, hh⟩ := hf
    rw [hx hbi, e]
    intro q
    injection q with q; injection q with q; injection q with q
    have := blk_lt hh
    omega
   | const _ => rw [hk'] at hbx; cases hbx
   | ni _ => rw [hk'] at hbx; cases hbx
   | put _ _ => rw [hk'] at hbx; cases hbx
   | fin _ => rw [hk'] at hbx; cases hbx
  by_cases e1 : i1 = i
  ·by_cases e2 : j1 = i
   ·exact absurd (e1.trans e2.symm) hne
   ·subst e1; rw [setm_self, setm_ne e2]; exact (old _ e2 h2 hb2 h1).symm
  ·by_cases e2 : j1 = i
   ·subst e2; rw [setm_self, setm_ne e1]; exact old _ e1 h1 hb1 h2
   ·rw [setm_ne e1, setm_ne e2]
    rw [up_ne e1] at hb1; rw [up_ne e2] at hb2
    exact hD _ _ hne h1 h2 hb1 hb2
theorem put_ {al q g : Nat} {x y : Value} (h : a = putSel a0 b (ent c.spec ms) ∧ (∀ j, b j = true → (c.ks j).holds c b ms w j) ∧ (∀ i j, i ≠ j → (c.ks i).isBox = true → (c.ks j).isBox = true → b i = true → b j = true → ms i ≠ ms j) ∧ c.G w ∧ (b c.fi = false → c.H w)) (hs : (c.spec.all fun e => !(e.1 == i)) = true) (hi : c.O.contains i = true) (hb : b i = false)
  (hks : c.ks i = .put al q) (hal : c.ks al = .box) (hba : b al = true) (hbq : b q = true) (hsh : i = al + c.sh al) (eg : ms al = .pointer (some ⟨g, 0, none⟩)) (ev : ms q = .agg #[x, y])
  (hG : c.G ((w.setCell ⟨g, 0, none⟩ x).setCell ⟨g, 1, none⟩ y)) (hH : b c.fi = false → c.H ((w.setCell ⟨g, 0, none⟩ x).setCell ⟨g, 1, none⟩ y)) (hfi : (c.fi == i) = false) : Rg c a0 (up b i) a ((w.setCell ⟨g, 0, none⟩ x).setCell ⟨g, 1, none⟩ y) := by
 obtain ⟨ha, hF, hD, _⟩ := h
 have bne : ∀ j, b j = true → j ≠ i := fun j hj e => by rw [e, hb] at hj; cases hj
 have upb : ∀ j, b j = true → up b i j = true := fun j hj => by rw [up_ne (bne j hj)]; exact hj
 have hbx := hF al hba
 rw [hal] at hbx
 obtain ⟨g', x0, y0, eg', hK, hg⟩ := hbx
 rw [eg] at eg'
 injection eg' with eg'; injection eg' with eg'; injection eg' with eg'
 subst eg'
 have hg1 := blk_put hg 0 x rfl
 have hg2 := blk_put hg1 1 y rfl
 have far {g1 : Nat} {cs : Array Value} {t1 : TypeId} (hne : g1 ≠ g) (hh : w.heap[g1]? = some (.cells cs t1 (0, 0))) : ((w.setCell ⟨g, 0, none⟩ x).setCell ⟨g, 1, none⟩ y).heap[g1]? = some (.cells cs t1 (0, 0)) := blk_far (blk_far hh hne x) hne y
 refine ⟨ms, ?_, ?_, ?_, hG, fun q => hH (by rw [up_ne (by simpa using hfi)] at q; exact q)⟩
 ·exact ha.trans (putSel_same (ent_all (f := fun i' _ => !(i' == i)) hs)).symm
 ·intro j hj
  by_cases e : j = i
  ·subst e
   rw [hks]
   exact ⟨upb _ hba, upb _ hbq, hsh, (by rw [hal]; rfl), g, x, y, eg, ev, hg2⟩
  ·rw [up_ne e] at hj
   have hf := hF j hj
   cases hk' : c.ks j with
   | const _ => rw [hk'] at hf; exact hf
   | ni _ => rw [hk'] at hf; exact NI.store (NI.store hf hg (by decide) 0 x) hg1 (by decide) 1 y
   | box =>
    rw [hk'] at hf
    obtain ⟨g1, x1, y1, e1, h1, h2⟩ := hf
    by_cases eg1 : g1 = g
    ·subst eg1; exact ⟨g1, x, y, e1, h1, hg2⟩
    ·exact ⟨g1, x1, y1, e1, h1, far eg1 h2⟩
   | put al' q' =>
    rw [hk'] at hf
    obtain ⟨h1, h2, h3, hx, g1, x1, y1, h4, h5, h6⟩ := hf
    have hne : al' ≠ al := fun e2 => e (by rw [h3, hsh, e2])
    refine ⟨upb _ h1, upb _ h2, h3, hx, g1, x1, y1, h4, h5, far ?_ h6⟩
    rintro rfl
    exact hD _ _ hne hx (by rw [hal]; rfl) h1 hba (by rw [h4, eg])
   | fin E =>
    rw [hk'] at hf
    have := hf.1 i (List.contains_iff_mem.1 hi) (fun q => e q.symm)
    rw [hb] at this
    cases this
 ·intro i1 j1 hne h1 h2 hb1 hb2
  have n1 : i1 ≠ i := by rintro rfl; rw [hks] at h1; cases h1
  have n2 : j1 ≠ i := by rintro rfl; rw [hks] at h2; cases h2
  rw [up_ne n1] at hb1; rw [up_ne n2] at hb2
  exact hD _ _ hne h1 h2 hb1 hb2
theorem fin_ {g : Nat} {x0 y0 x y : Value} {E : (Nat → Value) → World → Prop} (h : a = putSel a0 b (ent c.spec ms) ∧ (∀ j, b j = true → (c.ks j).holds c b ms w j) ∧ (∀ i j, i ≠ j → (c.ks i).isBox = true → (c.ks j).isBox = true → b i = true → b j = true → ms i ≠ ms j) ∧ c.G w ∧ (b c.fi = false → c.H w)) (hs : (c.spec.all fun e => !(e.1 == i)) = true)
  (hall : ∀ j ∈ c.O, j ≠ i → b j = true) (hi : c.O.contains i = true) (hb : b i = false) (hks : c.ks i = .fin E) (hg : w.heap[g]? = some (.cells #[x0, y0] 33 (0, 0))) (hK : g < c.K0)
  (hE : E ms ((w.setCell ⟨g, 0, none⟩ x).setCell ⟨g, 1, none⟩ y)) (hG : c.G ((w.setCell ⟨g, 0, none⟩ x).setCell ⟨g, 1, none⟩ y)) (hfi : c.fi = i) : Rg c a0 (up b i) a ((w.setCell ⟨g, 0, none⟩ x).setCell ⟨g, 1, none⟩ y) := by
 obtain ⟨ha, hF, hD, _⟩ := h
 have bne : ∀ j, b j = true → j ≠ i := fun j hj e => by rw [e, hb] at hj; cases hj
 have upb : ∀ j, b j = true → up b i j = true := fun j hj => by rw [up_ne (bne j hj)]; exact hj
 have hg1 := blk_put hg 0 x rfl
 have far {g1 : Nat} {cs : Array Value} {t1 : TypeId} (hne : g1 ≠ g) (hh : w.heap[g1]? = some (.cells cs t1 (0, 0))) : ((w.setCell ⟨g, 0, none⟩ x).setCell ⟨g, 1, none⟩ y).heap[g1]? = some (.cells cs t1 (0, 0)) := blk_far (blk_far hh hne x) hne y
 refine ⟨ms, ha.trans (putSel_same (ent_all (f := fun i' _ => !(i' == i)) hs)).symm, ?_, ?_, hG, fun q => by rw [hfi, up_self] at q; cases q⟩
 ·intro j hj
  by_cases e : j = i
  ·subst e
   rw [hks]
   exact ⟨fun i' hi' hne => upb _ (hall i' hi' hne), hE⟩
  ·rw [up_ne e] at hj
   have hf := hF j hj
   cases hk' : c.ks j with
   | const _ => rw [hk'] at hf; exact hf
   | ni _ => rw [hk'] at hf; exact NI.store (NI.store hf hg (by decide) 0 x) hg1 (by decide) 1 y
   | box =>
    rw [hk'] at hf
    obtain ⟨g1, x1, y1, e1, h1, h2⟩ := hf
    exact ⟨g1, x1, y1, e1, h1, far (by omega) h2⟩
   | put al' q' =>
    rw [hk'] at hf
    obtain ⟨h1, h2, h3, hx, g1, x1, y1, h4, h5, h6⟩ := hf
    refine ⟨upb _ h1, upb _ h2, h3, hx, g1, x1, y1, h4, h5, far ?_ h6⟩
    have hf2 := hF al' h1
    cases hk2 : c.ks al' with
    | box =>
     rw [hk2] at hf2
     obtain ⟨g2, _, _, e2, h7, _⟩ := hf2
     rw [h4] at e2
     injection e2 with e2; injection e2 with e2; injection e2 with e2
     omega
    | const _ => rw [hk2] at hx; cases hx
    | ni _ => rw [hk2] at hx; cases hx
    | put _ _ => rw [hk2] at hx; cases hx
    | fin _ => rw [hk2] at hx; cases hx
   | fin E' =>
    rw [hk'] at hf
    have := hf.1 i (List.contains_iff_mem.1 hi) (fun q => e q.symm)
    rw [hb] at this
    cases this
 ·intro i1 j1 hne h1 h2 hb1 hb2
  have n1 : i1 ≠ i := by rintro rfl; rw [hks] at h1; cases h1
  have n2 : j1 ≠ i := by rintro rfl; rw [hks] at h2; cases h2
  rw [up_ne n1] at hb1; rw [up_ne n2] at hb2
  exact hD _ _ hne h1 h2 hb1 hb2
theorem hall_ {B : List Nat} (q : (c.O.all fun j => j == i || (c.O.contains j && (B.getD i 0).testBit j)) = true) (hon : ∀ j, (c.O.contains j && (B.getD i 0).testBit j) = true → b j = true) : ∀ j ∈ c.O, j ≠ i → b j = true := fun j hj hne => by
 have := List.all_eq_true.1 q j hj
 rw [Bool.or_eq_true] at this
 rcases this with h | h
 ·exact absurd (by simpa using h) hne
 ·exact hon j h
theorem rg0 (hG : c.G w) (hH : c.H w) : Rg c a0 (fun _ => false) a0 w := ⟨fun _ => .bool false, by
 have : ∀ L : List (Nat × Tmp × Value), a0 = putSel a0 (fun _ => false) L := by
  intro L
  induction L with
  | nil => rfl
  | cons e r ih => exact ih
 exact this _, fun j h => (by cases h), fun i j _ _ _ h => (by cases h), hG, fun _ => hH⟩
end
end Go.Proofs.Ytmeckkckjikjiaa.Reg
end
section
namespace Go.Proofs.Ytmeckkckjikjiaa.Whole
open Go RowKit YtmeckkckjikjiaaW.PrintWords YtmeckkckjikjiaaW.PrintLast YtmeckkckjikjiaaW.PrintMore Ytmeckkckjikjiaa.F Ytmeckkckjikjiaa.Dig
set_option linter.unusedVariables false
theorem bthen {w w1 w2 : World} (k : Below w1.heap.size w1 w2) (h : Below w.heap.size w w1) : Below w.heap.size w w2 := below_then h h.size k
theorem one_new (w : World) (o0 : Obj) : (w.alloc o0).heap[w.heap.size]? = some o0 ∧ Below w.heap.size w (w.alloc o0) := ⟨blk_new _ _, (Below.refl _ _).alloc (Nat.le_refl _) _⟩
set_option maxHeartbeats 1000000 in
theorem in_high (s : Int) (A : Option Addr) (l c : Nat) (n : Int) (hn : Sm n) (q1 : Int) (hq1 : Aside0 ((n - 1099511627776).sign = q1)) (h1 : decide (q1 ≤ 0) = false) (w : World) (h : NI w (.agg #[.int .i64 s, .slice A l c]) n) :
  Calls Try.prog 30 #[.agg #[.int .i64 s, .slice A l c]] w fun e w' => e = .returned (.bool false) ∧ Below w.heap.size w w' := by
 have HA := Aside0.mk (fun (W : World) (hb : Below w.heap.size w W) => h.below hb)
 clear h
 go_enter Try.func30, Try.ntmps30
 go_wp2_with fail
 obtain ⟨n0, bw⟩ := one_new w (.cells #[.int .i64 s, .slice A l c] 33)
 generalize (w.alloc (.cells #[.int .i64 s, .slice A l c] 33)) = W at n0 bw ⊢
 have Hb := Aside0.mk bw
 have d0 : W.cell? ⟨w.heap.size, 0, none⟩ = some (.int .i64 s) := (blk_cell n0 0).trans rfl
 have d1 : W.cell? ⟨w.heap.size, 1, none⟩ = some (.slice A l c) := (blk_cell n0 1).trans rfl
 clear n0 bw
 go_region_with (first | (go_at_call 31; refine (long_c _ ?hw _).mono ?_; (case hw => decide); rintro e w1 ⟨v, rfl, hN, hb⟩; have HN := Aside0.mk hN; clear hN; obtain ⟨s1, A1, l1, cc1, rfl⟩ := HN.out.shape; have d0 := pw_cell_below hb d0; have d1 := pw_cell_below hb d1; have Hb := Aside0.mk (bthen (w := w) hb (by repeat (first | exact Hb.out | apply below_drew | apply pw_below_drewN))); clear hb) | (go_at_call 18; refine (cmp_c _ _ n 1099511627776 hn (Sm.of (by decide) (by decide)) _ (HA.out _ Hb.out) HN.out).mono ?_; rw [hq1.out]; rintro e w1 ⟨rfl, hb⟩; have d0 := pw_cell_below hb d0; have d1 := pw_cell_below hb d1; have Hb := Aside0.mk (bthen (w := w) hb Hb.out); clear hb))
 all_goals go_wp2
 all_goals trace_state
 all_goals go_ret
 all_goals exact ⟨rfl, Hb.out⟩
set_option maxHeartbeats 1000000 in
theorem in_low (s : Int) (A : Option Addr) (l c : Nat) (n : Int) (hn : Sm n) (q1 q2 : Int) (hq1 : Aside0 ((n - 1099511627776).sign = q1)) (h1 : decide (q1 ≤ 0) = true) (hq2 : Aside0 ((n - -1099511627776).sign = q2)) (w : World) (h : NI w (.agg #[.int .i64 s, .slice A l c]) n) :
  Calls Try.prog 30 #[.agg #[.int .i64 s, .slice A l c]] w fun e w' => e = .returned (.bool (decide (0 ≤ q2))) ∧ Below w.heap.size w w' := by
 have HA := Aside0.mk (fun (W : World) (hb : Below w.heap.size w W) => h.below hb)
 clear h
 go_enter Try.func30, Try.ntmps30
 go_wp2_with fail
 obtain ⟨n0, bw⟩ := one_new w (.cells #[.int .i64 s, .slice A l c] 33)
 generalize (w.alloc (.cells #[.int .i64 s, .slice A l c] 33)) = W at n0 bw ⊢
 have Hb := Aside0.mk bw
 have d0 : W.cell? ⟨w.heap.size, 0, none⟩ = some (.int .i64 s) := (blk_cell n0 0).trans rfl
 have d1 : W.cell? ⟨w.heap.size, 1, none⟩ = some (.slice A l c) := (blk_cell n0 1).trans rfl
 clear n0 bw
 go_region_held3 (fun w' => w'.cell? ⟨w.heap.size, 0, none⟩ = some (.int .i64 s) ∧ w'.cell? ⟨w.heap.size, 1, none⟩ = some (.slice A l c)) (first | exact ⟨d0, d1⟩)
  (first | (go_at_call 31; refine (long_c _ ?hw _).mono ?_; (case hw => decide); rintro e w1 ⟨v, rfl, hN, hb⟩; have HN := Aside0.mk hN; clear hN; obtain ⟨s1, A1, l1, cc1, rfl⟩ := HN.out.shape; have d0 := pw_cell_below hb d0; have d1 := pw_cell_below hb d1; have Hb := Aside0.mk (bthen (w := w) hb (by repeat (first | exact Hb.out | apply below_drew | apply pw_below_drewN))); clear hb) | (go_at_call 18; refine (cmp_c _ _ n 1099511627776 hn (Sm.of (by decide) (by decide)) _ (HA.out _ Hb.out) HN.out).mono ?_; rw [hq1.out]; rintro e w1 ⟨rfl, hb⟩; have d0 := pw_cell_below hb d0; have d1 := pw_cell_below hb d1; have Hb := Aside0.mk (bthen (w := w) hb Hb.out); clear hb) | (go_at_call 18; refine (cmp_c _ _ n (-1099511627776) hn (Sm.of (by decide) (by decide)) _ (HA.out _ Hb.out) HN.out).mono ?_; rw [hq2.out]; rintro e w1 ⟨rfl, hb⟩; have d0 := pw_cell_below hb d0; have d1 := pw_cell_below hb d1; have Hb := Aside0.mk (bthen (w := w) hb Hb.out); clear hb))
 go_wp2
 go_ret
 exact ⟨rfl, Hb.out⟩
theorem in_c (v : Value) (n : Int) (hn : Sm n) (w : World) (h : NI w v n) :
  Calls Try.prog 30 #[v] w fun e w' => e = .returned (.bool (decide (-1099511627776 ≤ n ∧ n ≤ 1099511627776))) ∧ Below w.heap.size w w' := by
 obtain ⟨s, A, l, c, rfl⟩ := h.shape
 by_cases h1 : n ≤ 1099511627776
 ·refine (in_low s A l c n hn _ _ ⟨rfl⟩ (decide_eq_true (by rw [sign_eq]; omega)) ⟨rfl⟩ w h).mono fun e w' ⟨he, hb⟩ => ⟨?_, hb⟩
  rw [he]
  congr 2
  rw [decide_eq_decide, sign_eq]
  omega
 ·refine (in_high s A l c n hn _ ⟨rfl⟩ (decide_eq_false (by rw [sign_eq]; omega)) w h).mono fun e w' ⟨he, hb⟩ => ⟨?_, hb⟩
  rw [he]
  congr 2
  exact (decide_eq_false (by omega)).symm
end Go.Proofs.Ytmeckkckjikjiaa.Whole
end
section
namespace Go.Proofs.Ytmeckkckjikjiaa.Dig
open Go RowKit YtmeckkckjikjiaaW.PrintWords Ytmeckkckjikjiaa.F
attribute [local irreducible] val P
theorem val_set {l : List Int} {j : Nat} (h : j < l.length) (x : Int) : val (l.set j x) = val l + P j * (x - l.getD j 0) := by
 induction l generalizing j with
 | nil => simp at h
 | cons d l ih =>
  cases j with
  | zero => simp only [List.set_cons_zero, val, P, List.getD_cons_zero]; omega
  | succ j =>
   simp only [List.set_cons_succ, val, P, List.getD_cons_succ]
   rw [ih (by simpa using h)]
   generalize P j = p
   generalize l.getD j 0 = y
   grind
theorem Dg_set {l : List Int} (h : Dg l) {j : Nat} {x : Int} (h0 : 0 ≤ x) (h1 : x < 65536) : Dg (l.set j x) := fun d hd => by
 rcases List.mem_or_eq_of_mem_set hd with hd | rfl
 ·exact h d hd
 ·exact ⟨h0, h1⟩
theorem getD_set_ne {l : List Int} {i j : Nat} (h : i ≠ j) (x : Int) : (l.set i x).getD j 0 = l.getD j 0 := by
 simp [List.getD_eq_getElem?_getD, List.getElem?_set_ne h]
theorem carry {c o a b : Int} (c0 : 0 ≤ c) (c1 : c < 65536) (o0 : 0 ≤ o) (o1 : o < 65536) (a0 : 0 ≤ a) (a1 : a < 65536) (b0 : 0 ≤ b) (b1 : b < 65536) :
  0 ≤ a * b ∧ a * b ≤ 4294836225 ∧ 0 ≤ c + o + a * b ∧ (c + o + a * b) / 65536 < 65536 := by
 have h0 : 0 ≤ a * b := Int.mul_nonneg a0 b0
 have h1 : a * b ≤ 65535 * b := Int.mul_le_mul_of_nonneg_right (by omega) b0
 omega
theorem getD_rep (n j : Nat) : (List.replicate n (0 : Int)).getD j 0 = 0 := by
 simp only [List.getD_eq_getElem?_getD, List.getElem?_replicate]
 split <;> rfl
theorem mul_l1 {a b : List Int} (ha : Dg a) (hb : Dg b) (na : a.length ≤ 10000) (nb : b.length ≤ 10000) {i : Nat} (hi : i < a.length) : ∀ (d k j : Nat) (out : List Int) (c T : Int), b.length - j = d → j ≤ b.length → d + 1 < k →
  out.length = a.length + b.length → Dg out → 0 ≤ c → c < 65536 → (∀ p, i + b.length ≤ p → out.getD p 0 = 0) → Aside0 (val out + P (i + j) * (c + a.getD i 0 * val (b.drop j)) = T) →
  ∃ out', zelligeref03_Mul.l1 k a b out (i : Int) c (j : Int) = zelligeref03_Mul.l0 (k - d - 1) a b out' ((i + 1 : Nat) : Int) ∧ out'.length = a.length + b.length ∧ Dg out' ∧ (∀ p, i + 1 + b.length ≤ p → out'.getD p 0 = 0) ∧ val out' = T := by
 intro d
 induction d with
 | zero =>
  intro k j out c T hd hj hk hl hD c0 c1 hz hT
  obtain ⟨k, rfl⟩ : ∃ m, k = m + 1 := ⟨k - 1, by omega⟩
  obtain rfl : j = b.length := by omega
  have e1 : Aside0 (wrap64 ((i : Int) + (b.length : Int)) = ((i + b.length : Nat) : Int)) := ⟨by rw [w64 (by omega) (by omega)]; omega⟩
  have e2 : Aside0 (wrap64 ((i : Int) + 1) = ((i + 1 : Nat) : Int)) := ⟨by rw [w64 (by omega) (by omega)]; omega⟩
  have hlt : i + b.length < out.length := by omega
  refine ⟨out.set (i + b.length) c, ?_, by rw [List.length_set, hl], Dg_set hD c0 c1, ?_, ?_⟩
  ·rw [zelligeref03_Mul.l1, if_neg (by omega), e1.out, e2.out, if_pos (by omega), if_pos (by omega), show ((i + b.length : Nat) : Int).toNat = i + b.length from by omega, show k + 1 - 0 - 1 = k from by omega]
  ·intro p hp
   rw [getD_set_ne (by omega)]
   exact hz p (by omega)
  ·have hT := hT.out
   rw [val_drop_all (Nat.le_refl _)] at hT
   rw [val_set hlt, hz _ (Nat.le_refl _)]
   generalize P (i + b.length) = p at *
   grind
 | succ d ih =>
  intro k j out c T hd hj hk hl hD c0 c1 hz hT
  obtain ⟨k, rfl⟩ : ∃ m, k = m + 1 := ⟨k - 1, by omega⟩
  have hjl : j < b.length := by omega
  have e1 : Aside0 (wrap64 ((i : Int) + (j : Int)) = ((i + j : Nat) : Int)) := ⟨by rw [w64 (by omega) (by omega)]; omega⟩
  have e2 : Aside0 (wrap64 ((j : Int) + 1) = ((j + 1 : Nat) : Int)) := ⟨by rw [w64 (by omega) (by omega)]; omega⟩
  have hlt : i + j < out.length := by omega
  have gA := Dg_get ha i
  have gB := Dg_get hb j
  have gO := Dg_get hD (i + j)
  have hc := carry c0 c1 gO.1 gO.2 gA.1 gA.2 gB.1 gB.2
  have eB := Aside0.mk (val_drop hjl)
  generalize hs : c + out.getD (i + j) 0 + a.getD i 0 * b.getD j 0 = s at hc
  have es : Aside0 (wrap64 (wrap64 (c + out.getD (i + j) 0) + wrap64 (a.getD i 0 * b.getD j 0)) = s) := ⟨by
   rw [w64 (x := c + out.getD (i + j) 0) (by omega) (by omega), w64 (x := a.getD i 0 * b.getD j 0) (by omega) (by omega), hs, w64 (by omega) (by omega)]⟩
  have g1 : 0 ≤ s % 65536 ∧ s % 65536 < 65536 ∧ 0 ≤ s / 65536 ∧ s / 65536 < 65536 := by omega
  have f1 : b.length - (j + 1) = d := by omega
  have f2 : d + 1 < k := by omega
  obtain ⟨out', h1, h2⟩ := ih k (j + 1) (out.set (i + j) (s % 65536)) (s / 65536) T f1 (by omega) f2 (by rw [List.length_set, hl]) (Dg_set hD g1.1 g1.2.1) g1.2.2.1 g1.2.2.2 (fun p hp => by rw [getD_set_ne (by omega)]; exact hz p hp) ⟨by
   have e : s = s % 65536 + 65536 * (s / 65536) := by omega
   rw [val_set hlt, ← hT.out, eB.out, show i + (j + 1) = (i + j) + 1 from rfl, P]
   clear hT eB
   generalize s % 65536 = m at *
   generalize s / 65536 = q at *
   generalize P (i + j) = p at *
   generalize val (b.drop (j + 1)) = vb at *
   generalize out.getD (i + j) 0 = o at *
   generalize a.getD i 0 = x at *
   generalize b.getD j 0 = y at *
   grind⟩
  refine ⟨out', ?_, h2⟩
  clear eB
  rw [zelligeref03_Mul.l1, if_pos (by omega), e1.out, if_pos (by omega), if_pos (by omega), if_pos (by omega), if_pos (by omega), if_pos (by omega), rd_nat, rd_nat, rd_nat, es.out, e2.out, Int.tmod_eq_emod_of_nonneg (by omega), Int.tdiv_eq_ediv_of_nonneg (by omega), w64 (x := s / 65536) (by omega) (by omega), show ((i + j : Nat) : Int).toNat = i + j from by omega, h1,
   show k + 1 - (d + 1) - 1 = k - d - 1 from by omega]
theorem mul_l0 {a b : List Int} (ha : Dg a) (hb : Dg b) (na : a.length ≤ 10000) (nb : b.length ≤ 10000) : ∀ (d k i : Nat) (out : List Int), a.length - i = d → i ≤ a.length → (d + 1) * (b.length + 2) + a.length + b.length + 4 < k →
  out.length = a.length + b.length → Dg out → (∀ p, i + b.length ≤ p → out.getD p 0 = 0) → Aside0 (val out + P i * (val (a.drop i) * val b) = val a * val b) →
  ∃ r, zelligeref03_Mul.l0 k a b out (i : Int) = some r ∧ Cn r ∧ val r = val a * val b := by
 intro d
 induction d with
 | zero =>
  intro k i out hd hi hk hl hD hz hT
  obtain ⟨k, rfl⟩ : ∃ m, k = m + 1 := ⟨k - 1, by omega⟩
  have hT' := hT.out
  rw [val_drop_all (by omega), Int.zero_mul, Int.mul_zero, Int.add_zero] at hT'
  have hT' := Aside0.mk hT'
  obtain ⟨r, hr, h1, h2⟩ := trim_f (l := out) hD (by omega) (k := k) (by omega)
  refine ⟨r, ?_, h1, h2.trans hT'.out⟩
  rw [zelligeref03_Mul.l0, if_neg (by omega), hr]; rfl
 | succ d ih =>
  intro k i out hd hi hk hl hD hz hT
  obtain ⟨k, rfl⟩ : ∃ m, k = m + 1 := ⟨k - 1, by omega⟩
  have hil : i < a.length := by omega
  have hk' : (d + 1) * (b.length + 2) + (b.length + 2) + a.length + b.length + 4 < k + 1 := by
   have : (d + 1 + 1) * (b.length + 2) = (d + 1) * (b.length + 2) + (b.length + 2) := Nat.succ_mul _ _
   omega
  have eA := Aside0.mk (val_drop hil)
  obtain ⟨out', h1, h2, h3, h4, h5⟩ := mul_l1 ha hb na nb hil b.length k 0 out 0 (val out + P i * (a.getD i 0 * val b)) (by omega) (by omega) (by omega) hl hD (by omega) (by omega) hz ⟨by rw [List.drop_zero, Nat.add_zero, Int.zero_add]⟩
  obtain ⟨r, hr, h6, h7⟩ := ih (k - b.length - 1) (i + 1) out' (by omega) (by omega) (by omega) h2 h3 h4 ⟨by
   rw [h5, P, ← hT.out, eA.out]
   clear hT eA h5
   generalize P i = p at *
   generalize a.getD i 0 = x at *
   generalize val (a.drop (i + 1)) = va at *
   generalize val b = vb at *
   grind⟩
  refine ⟨r, ?_, h6, h7⟩
  rw [zelligeref03_Mul.l0, if_pos (by omega), show zelligeref03_Mul.l1 k a b out (i : Int) 0 0 = _ from h1]
  exact hr
theorem mul_f (a b : Nat) (na : (dig a).length ≤ 3000) (nb : (dig b).length ≤ 3000) {k : Nat} (hk : 20000000 < k) : zelligeref03_Mul.f k (dig a) (dig b) = some (dig (a * b)) := by
 have hb1 : ((dig a).length + 1) * ((dig b).length + 2) ≤ 3001 * 3002 := Nat.mul_le_mul (by omega) (by omega)
 obtain ⟨r, hr, h1, h2⟩ := mul_l0 (dig_Dg a) (dig_Dg b) (by omega) (by omega) (dig a).length k 0 (List.replicate ((dig a).length + (dig b).length) 0) (by omega) (by omega) (by omega) (by simp)
  (fun d hd => by rw [List.eq_of_mem_replicate hd]; omega) (fun p _ => getD_rep _ _) ⟨by
   rw [val_zero_of (fun d hd => List.eq_of_mem_replicate hd), P, List.drop_zero]
   omega⟩
 unfold zelligeref03_Mul.f
 rw [w64 (by omega) (by omega), if_pos (by omega), show ((dig a).length + (dig b).length : Int).toNat = (dig a).length + (dig b).length from by omega, if_pos (by omega)]
 rw [show zelligeref03_Mul.l0 k (dig a) (dig b) (List.replicate ((dig a).length + (dig b).length) 0) 0 = some r from hr]
 congr 1
 refine eq_dig_of h1 ?_
 rw [h2, dig_val, dig_val]
 exact (Int.natCast_mul a b).symm
end Go.Proofs.Ytmeckkckjikjiaa.Dig
end
section
namespace Go.Proofs.Ytmeckkckjikjiaa.Whole
open Go RowKit YtmeckkckjikjiaaW.PrintWords YtmeckkckjikjiaaW.PrintLast YtmeckkckjikjiaaW.PrintMore Ytmeckkckjikjiaa.F Ytmeckkckjikjiaa.Dig
set_option linter.unusedVariables false
theorem mul_c (v u : Value) (n m : Int) (hn : Sm n) (hm : Sm m) (w : World) (h : NI w v n) (h' : NI w u m) :
  Calls Try.prog 35 #[v, u] w fun e w' => ∃ r, e = .returned r ∧ NI w' r (n * m) ∧ Below w.heap.size w w' := by
 obtain ⟨A, l, c, rfl, hA⟩ := h
 obtain ⟨B, l', d, rfl, hB⟩ := h'
 unfold Sm at hn hm
 obtain ⟨ql, qc, hA'⟩ := hA.reads
 obtain ⟨ql', qd, hB'⟩ := hB.reads
 have hs : wrap64 (n.sign * m.sign) = (n * m).sign := by
  rw [Int.sign_mul]
  have h1 : -1 ≤ n.sign ∧ n.sign ≤ 1 := by rw [sign_eq]; omega
  have h2 : -1 ≤ m.sign ∧ m.sign ≤ 1 := by rw [sign_eq]; omega
  have h3 : n.sign = -1 ∨ n.sign = 0 ∨ n.sign = 1 := by omega
  rcases h3 with h3 | h3 | h3 <;> rw [h3] <;> exact w64 (by omega) (by omega)
 have hf : zelligeref04_Mul.f 30000000 n.sign (dig n.natAbs) m.sign (dig m.natAbs) = some ((n * m).sign, dig (n * m).natAbs) := by
  unfold zelligeref04_Mul.f zelligeref04_make1.f
  rw [mul_f n.natAbs m.natAbs (by omega) (by omega) (by omega), Option.bind_some, hs, Int.natAbs_mul]
  by_cases h0 : ((dig (n.natAbs * m.natAbs)).length : Int) = 0
  ·have hz : n.natAbs * m.natAbs = 0 := dig_nil.1 (List.length_eq_zero_iff.1 (by omega))
   have hz' : n * m = 0 := Int.natAbs_eq_zero.1 (by rw [Int.natAbs_mul]; exact hz)
   rw [if_pos h0, hz', hz, dig_zero]
   rfl
  ·rw [if_neg h0]; rfl
 subst ql ql'
 refine (zelligeref04_Mul.calls 30000000 n.sign A c (dig n.natAbs) m.sign B d (dig m.natAbs) _ _ w hA' qc hB' qd hf).mono fun e w' ⟨v1, he, hR, hb⟩ => ?_
 have hv := RV.of_R hR
 obtain ⟨A', c', rfl, _⟩ := hv.form
 exact ⟨_, he, ⟨A', _, c', rfl, hv⟩, hb⟩
end Go.Proofs.Ytmeckkckjikjiaa.Whole
end
section
namespace Go.Proofs.Ytmeckkckjikjiaa.F
open RowKit YtmeckkckjikjiaaW.PrintWords YtmeckkckjikjiaaW.PrintLast YtmeckkckjikjiaaW.PrintMore
set_option linter.unusedVariables false
set_option linter.unusedSimpArgs false
def bits_Mul64.f (a0 : Int) (a1 : Int) : Option (Int × Int) := some (IntKind.u64.wrap ((IntKind.u64.wrap ((IntKind.u64.wrap ((a0 / 4294967296) * (a1 / 4294967296))) + ((IntKind.u64.wrap ((IntKind.u64.wrap ((a0 / 4294967296) * (Go.bits .and .u64 a1 4294967295))) + ((IntKind.u64.wrap ((Go.bits .and .u64 a0 4294967295) * (Go.bits .and .u64 a1 4294967295))) / 4294967296))) / 4294967296))) + ((IntKind.u64.wrap ((Go.bits .and .u64 (IntKind.u64.wrap ((IntKind.u64.wrap ((a0 / 4294967296) * (Go.bits .and .u64 a1 4294967295))) + ((IntKind.u64.wrap ((Go.bits .and .u64 a0 4294967295) * (Go.bits .and .u64 a1 4294967295))) / 4294967296))) 4294967295) + (IntKind.u64.wrap ((Go.bits .and .u64 a0 4294967295) * (a1 / 4294967296))))) / 4294967296)), IntKind.u64.wrap (a0 * a1))
set_option maxHeartbeats 8000000 in
set_option maxRecDepth 100000 in
theorem bits_Mul64.calls (a0 : Int) (a1 : Int) (r1 : Int) (r2 : Int) (w : World) (h : bits_Mul64.f a0 a1 = some (r1, r2)) :
  Calls Try.prog 45 #[.int .u64 a0, .int .u64 a1] w fun e w' => e = .returned (.tuple #[.int .u64 r1, .int .u64 r2]) ∧ Drawn0 w w' := by
 have H : (some (IntKind.u64.wrap ((IntKind.u64.wrap ((IntKind.u64.wrap ((a0 / 4294967296) * (a1 / 4294967296))) + ((IntKind.u64.wrap ((IntKind.u64.wrap ((a0 / 4294967296) * (Go.bits .and .u64 a1 4294967295))) + ((IntKind.u64.wrap ((Go.bits .and .u64 a0 4294967295) * (Go.bits .and .u64 a1 4294967295))) / 4294967296))) / 4294967296))) + ((IntKind.u64.wrap ((Go.bits .and .u64 (IntKind.u64.wrap ((IntKind.u64.wrap ((a0 / 4294967296) * (Go.bits .and .u64 a1 4294967295))) + ((IntKind.u64.wrap ((Go.bits .and .u64 a0 4294967295) * (Go.bits .and .u64 a1 4294967295))) / 4294967296))) 4294967295) + (IntKind.u64.wrap ((Go.bits .and .u64 a0 4294967295) * (a1 / 4294967296))))) / 4294967296)), IntKind.u64.wrap (a0 * a1))) = some (r1, r2) := h
 clear h
 simp only [Option.some.injEq, Prod.mk.injEq] at H
 obtain ⟨rfl, rfl⟩ := H
 go_enter Try.func45, Try.ntmps45
 go_wp2
 go_ret2
 exact ⟨by first | rfl | (simp; done) | (simp [*]; done), by repeat (first | exact Drawn0.refl _ | apply Drawn0.step)⟩
end Go.Proofs.Ytmeckkckjikjiaa.F
end
section
namespace Go.Proofs.Ytmeckkckjikjiaa.F
open RowKit YtmeckkckjikjiaaW.PrintWords YtmeckkckjikjiaaW.PrintLast YtmeckkckjikjiaaW.PrintMore
set_option linter.unusedVariables false
set_option linter.unusedSimpArgs false
def wide_Mul.f (a0 : Int) (a1 : Int) : Option (Int × Int) := (bits_Mul64.f (IntKind.u64.wrap (a0)) (IntKind.u64.wrap (a1))).bind fun bt129 => (if a0 < 0 then (if a1 < 0 then (some (wrap64 (IntKind.u64.wrap ((IntKind.u64.wrap (bt129.1 - (IntKind.u64.wrap (a1)))) - (IntKind.u64.wrap (a0)))), bt129.2)) else (some (wrap64 (IntKind.u64.wrap (bt129.1 - (IntKind.u64.wrap (a1)))), bt129.2))) else (if a1 < 0 then (some (wrap64 (IntKind.u64.wrap (bt129.1 - (IntKind.u64.wrap (a0)))), bt129.2)) else (some (wrap64 (bt129.1), bt129.2))))
set_option maxHeartbeats 8000000 in
set_option maxRecDepth 100000 in
theorem wide_Mul.calls (a0 : Int) (a1 : Int) (r1 : Int) (r2 : Int) (w : World) (h : wide_Mul.f a0 a1 = some (r1, r2)) :
  Calls Try.prog 49 #[.int .i64 a0, .int .i64 a1] w fun e w' => e = .returned (.agg #[.int .i64 r1, .int .u64 r2]) ∧ Below w.heap.size w w' := by
 have hu37 := Try.underlying37
 have HB := Aside0.mk (Below.refl w.heap.size w)
 have H : ((bits_Mul64.f (IntKind.u64.wrap (a0)) (IntKind.u64.wrap (a1))).bind fun bt129 => (if a0 < 0 then (if a1 < 0 then (some (wrap64 (IntKind.u64.wrap ((IntKind.u64.wrap (bt129.1 - (IntKind.u64.wrap (a1)))) - (IntKind.u64.wrap (a0)))), bt129.2)) else (some (wrap64 (IntKind.u64.wrap (bt129.1 - (IntKind.u64.wrap (a1)))), bt129.2))) else (if a1 < 0 then (some (wrap64 (IntKind.u64.wrap (bt129.1 - (IntKind.u64.wrap (a0)))), bt129.2)) else (some (wrap64 (bt129.1), bt129.2))))) = some (r1, r2) := h
 clear h
 replace H := Option.bind_eq_some_iff.mp H
 obtain ⟨⟨t129, t130⟩, A30, H⟩ := H
 try dsimp only at H
 have A3 := Aside0.mk A30
 clear A30
 by_cases c4 : a0 < 0
 ·rw [if_pos c4] at H
  have c4b0 : decide (a0 < 0) = true := decide_eq_true c4
  clear c4
  by_cases c5 : a1 < 0
  ·rw [if_pos c5] at H
   have c5b0 : decide (a1 < 0) = true := decide_eq_true c5
   clear c5
   simp only [Option.some.injEq, Prod.mk.injEq] at H
   obtain ⟨rfl, rfl⟩ := H
   go_enter Try.func49, Try.ntmps49
   go_wp2_with (first | ((with_reducible refine gate_dst (N := 4) rfl ?_); refine bx 4 #[.int .i64 0, .int .u64 0] 37 ?_; intro gb128 hg w6 hbox hb; have BK128 := Aside0.mk hbox; have GW128 := u3 hg HB; have GE128 := u3 hg HB; replace HB := u2 HB hb; clear hb hbox hg) | ((with_reducible refine gate_callee (f := 45) rfl ?_); refine gL (some 12) Try.func45 #[.int .u64 (IntKind.u64.wrap (a0)), .int .u64 (IntKind.u64.wrap (a1))] rfl ?_; (with_reducible refine (bits_Mul64.calls (IntKind.u64.wrap (a0)) (IntKind.u64.wrap (a1)) t129 t130 _ A3.out).mono ?_); rintro e w' ⟨rfl, ⟨nd, rfl⟩⟩; refine ⟨_, rfl, ?_⟩; (try (rw [drewN_self w6]; generalize hq_ : World.drewN w6 _ = w6; have n0_ : Aside0 (w6.heap[gb128]? = some (.cells #[.int .i64 0, .int .u64 0] 37 (0, 0))) := ⟨by rw [← hq_]; exact (bk BK128.out)⟩; have n1_ : Aside0 (Below w.heap.size w w6) := ⟨by rw [← hq_]; exact (bw HB.out)⟩; clear BK128 HB hq_; have BK128 := n0_; have HB := n1_; clear n0_ n1_)); obtain ⟨_, _, _, _⟩ := p2 BK128))
   refine bodyPost_ret (results_cell_row rfl _ _ gb128 37 #[.int .i64 (wrap64 (IntKind.u64.wrap ((IntKind.u64.wrap (t129 - (IntKind.u64.wrap (a1)))) - (IntKind.u64.wrap (a0))))), .int .u64 t130] (0, 0) _ rfl (by (with_reducible repeat (first | refine blk_drewN ?_ _ | refine blk_drew ?_ | refine blk_alloc ?_ _)); refine blk_put (cs := #[.int .i64 (wrap64 (IntKind.u64.wrap ((IntKind.u64.wrap (t129 - (IntKind.u64.wrap (a1)))) - (IntKind.u64.wrap (a0))))), .int .u64 0]) ?_ 1 _ rfl; refine blk_put (cs := #[.int .i64 0, .int .u64 0]) ?_ 0 _ rfl; (with_reducible repeat (first | refine blk_drewN ?_ _ | refine blk_drew ?_ | refine blk_alloc ?_ _)); exact BK128.out) Try.underlying37 rfl (by kernel_rfl)) rfl ?_
   exact ⟨by first | rfl | (simp [*, errW_none, errW_some] <;> rfl), by repeat (first | (with_reducible first | exact HB.out | apply below_alloc | apply pw_below_drewN | apply below_drew1 | refine below_set ?_ GE128.out) | exact HB.out)⟩
  ·rw [if_neg c5] at H
   have c5b0 : decide (a1 < 0) = false := decide_eq_false c5
   clear c5
   simp only [Option.some.injEq, Prod.mk.injEq] at H
   obtain ⟨rfl, rfl⟩ := H
   go_enter Try.func49, Try.ntmps49
   go_wp2_with (first | ((with_reducible refine gate_dst (N := 4) rfl ?_); refine bx 4 #[.int .i64 0, .int .u64 0] 37 ?_; intro gb128 hg w8 hbox hb; have BK128 := Aside0.mk hbox; have GW128 := u3 hg HB; have GE128 := u3 hg HB; replace HB := u2 HB hb; clear hb hbox hg) | ((with_reducible refine gate_callee (f := 45) rfl ?_); refine gL (some 12) Try.func45 #[.int .u64 (IntKind.u64.wrap (a0)), .int .u64 (IntKind.u64.wrap (a1))] rfl ?_; (with_reducible refine (bits_Mul64.calls (IntKind.u64.wrap (a0)) (IntKind.u64.wrap (a1)) t129 t130 _ A3.out).mono ?_); rintro e w' ⟨rfl, ⟨nd, rfl⟩⟩; refine ⟨_, rfl, ?_⟩; (try (rw [drewN_self w8]; generalize hq_ : World.drewN w8 _ = w8; have n0_ : Aside0 (w8.heap[gb128]? = some (.cells #[.int .i64 0, .int .u64 0] 37 (0, 0))) := ⟨by rw [← hq_]; exact (bk BK128.out)⟩; have n1_ : Aside0 (Below w.heap.size w w8) := ⟨by rw [← hq_]; exact (bw HB.out)⟩; clear BK128 HB hq_; have BK128 := n0_; have HB := n1_; clear n0_ n1_)); obtain ⟨_, _, _, _⟩ := p2 BK128))
   refine bodyPost_ret (results_cell_row rfl _ _ gb128 37 #[.int .i64 (wrap64 (IntKind.u64.wrap (t129 - (IntKind.u64.wrap (a1))))), .int .u64 t130] (0, 0) _ rfl (by (with_reducible repeat (first | refine blk_drewN ?_ _ | refine blk_drew ?_ | refine blk_alloc ?_ _)); refine blk_put (cs := #[.int .i64 (wrap64 (IntKind.u64.wrap (t129 - (IntKind.u64.wrap (a1))))), .int .u64 0]) ?_ 1 _ rfl; refine blk_put (cs := #[.int .i64 0, .int .u64 0]) ?_ 0 _ rfl; (with_reducible repeat (first | refine blk_drewN ?_ _ | refine blk_drew ?_ | refine blk_alloc ?_ _)); exact BK128.out) Try.underlying37 rfl (by kernel_rfl)) rfl ?_
   exact ⟨by first | rfl | (simp [*, errW_none, errW_some] <;> rfl), by repeat (first | (with_reducible first | exact HB.out | apply below_alloc | apply pw_below_drewN | apply below_drew1 | refine below_set ?_ GE128.out) | exact HB.out)⟩
 ·rw [if_neg c4] at H
  have c4b0 : decide (a0 < 0) = false := decide_eq_false c4
  clear c4
  by_cases c10 : a1 < 0
  ·rw [if_pos c10] at H
   have c10b0 : decide (a1 < 0) = true := decide_eq_true c10
   clear c10
   simp only [Option.some.injEq, Prod.mk.injEq] at H
   obtain ⟨rfl, rfl⟩ := H
   go_enter Try.func49, Try.ntmps49
   go_wp2_with (first | ((with_reducible refine gate_dst (N := 4) rfl ?_); refine bx 4 #[.int .i64 0, .int .u64 0] 37 ?_; intro gb128 hg w11 hbox hb; have BK128 := Aside0.mk hbox; have GW128 := u3 hg HB; have GE128 := u3 hg HB; replace HB := u2 HB hb; clear hb hbox hg) | ((with_reducible refine gate_callee (f := 45) rfl ?_); refine gL (some 12) Try.func45 #[.int .u64 (IntKind.u64.wrap (a0)), .int .u64 (IntKind.u64.wrap (a1))] rfl ?_; (with_reducible refine (bits_Mul64.calls (IntKind.u64.wrap (a0)) (IntKind.u64.wrap (a1)) t129 t130 _ A3.out).mono ?_); rintro e w' ⟨rfl, ⟨nd, rfl⟩⟩; refine ⟨_, rfl, ?_⟩; (try (rw [drewN_self w11]; generalize hq_ : World.drewN w11 _ = w11; have n0_ : Aside0 (w11.heap[gb128]? = some (.cells #[.int .i64 0, .int .u64 0] 37 (0, 0))) := ⟨by rw [← hq_]; exact (bk BK128.out)⟩; have n1_ : Aside0 (Below w.heap.size w w11) := ⟨by rw [← hq_]; exact (bw HB.out)⟩; clear BK128 HB hq_; have BK128 := n0_; have HB := n1_; clear n0_ n1_)); obtain ⟨_, _, _, _⟩ := p2 BK128))
   refine bodyPost_ret (results_cell_row rfl _ _ gb128 37 #[.int .i64 (wrap64 (IntKind.u64.wrap (t129 - (IntKind.u64.wrap (a0))))), .int .u64 t130] (0, 0) _ rfl (by (with_reducible repeat (first | refine blk_drewN ?_ _ | refine blk_drew ?_ | refine blk_alloc ?_ _)); refine blk_put (cs := #[.int .i64 (wrap64 (IntKind.u64.wrap (t129 - (IntKind.u64.wrap (a0))))), .int .u64 0]) ?_ 1 _ rfl; refine blk_put (cs := #[.int .i64 0, .int .u64 0]) ?_ 0 _ rfl; (with_reducible repeat (first | refine blk_drewN ?_ _ | refine blk_drew ?_ | refine blk_alloc ?_ _)); exact BK128.out) Try.underlying37 rfl (by kernel_rfl)) rfl ?_
   exact ⟨by first | rfl | (simp [*, errW_none, errW_some] <;> rfl), by repeat (first | (with_reducible first | exact HB.out | apply below_alloc | apply pw_below_drewN | apply below_drew1 | refine below_set ?_ GE128.out) | exact HB.out)⟩
  ·rw [if_neg c10] at H
   have c10b0 : decide (a1 < 0) = false := decide_eq_false c10
   clear c10
   simp only [Option.some.injEq, Prod.mk.injEq] at H
   obtain ⟨rfl, rfl⟩ := H
   go_enter Try.func49, Try.ntmps49
   go_wp2_with (first | ((with_reducible refine gate_dst (N := 4) rfl ?_); refine bx 4 #[.int .i64 0, .int .u64 0] 37 ?_; intro gb128 hg w13 hbox hb; have BK128 := Aside0.mk hbox; have GW128 := u3 hg HB; have GE128 := u3 hg HB; replace HB := u2 HB hb; clear hb hbox hg) | ((with_reducible refine gate_callee (f := 45) rfl ?_); refine gL (some 12) Try.func45 #[.int .u64 (IntKind.u64.wrap (a0)), .int .u64 (IntKind.u64.wrap (a1))] rfl ?_; (with_reducible refine (bits_Mul64.calls (IntKind.u64.wrap (a0)) (IntKind.u64.wrap (a1)) t129 t130 _ A3.out).mono ?_); rintro e w' ⟨rfl, ⟨nd, rfl⟩⟩; refine ⟨_, rfl, ?_⟩; (try (rw [drewN_self w13]; generalize hq_ : World.drewN w13 _ = w13; have n0_ : Aside0 (w13.heap[gb128]? = some (.cells #[.int .i64 0, .int .u64 0] 37 (0, 0))) := ⟨by rw [← hq_]; exact (bk BK128.out)⟩; have n1_ : Aside0 (Below w.heap.size w w13) := ⟨by rw [← hq_]; exact (bw HB.out)⟩; clear BK128 HB hq_; have BK128 := n0_; have HB := n1_; clear n0_ n1_)); obtain ⟨_, _, _, _⟩ := p2 BK128))
   refine bodyPost_ret (results_cell_row rfl _ _ gb128 37 #[.int .i64 (wrap64 (t129)), .int .u64 t130] (0, 0) _ rfl (by (with_reducible repeat (first | refine blk_drewN ?_ _ | refine blk_drew ?_ | refine blk_alloc ?_ _)); refine blk_put (cs := #[.int .i64 (wrap64 (t129)), .int .u64 0]) ?_ 1 _ rfl; refine blk_put (cs := #[.int .i64 0, .int .u64 0]) ?_ 0 _ rfl; (with_reducible repeat (first | refine blk_drewN ?_ _ | refine blk_drew ?_ | refine blk_alloc ?_ _)); exact BK128.out) Try.underlying37 rfl (by kernel_rfl)) rfl ?_
   exact ⟨by first | rfl | (simp [*, errW_none, errW_some] <;> rfl), by repeat (first | (with_reducible first | exact HB.out | apply below_alloc | apply pw_below_drewN | apply below_drew1 | refine below_set ?_ GE128.out) | exact HB.out)⟩
end Go.Proofs.Ytmeckkckjikjiaa.F
end
section
namespace Go.Proofs.Ytmeckkckjikjiaa.F
open RowKit YtmeckkckjikjiaaW.PrintWords YtmeckkckjikjiaaW.PrintLast YtmeckkckjikjiaaW.PrintMore
set_option linter.unusedVariables false
set_option linter.unusedSimpArgs false
def wide_sign.f (a0_0 : Int) (a0_1 : Int) : Option (Int) := if a0_0 < 0 then (some (-1)) else (if a0_0 = 0 then (if a0_1 = 0 then (some 0) else (some 1)) else (some 1))
set_option maxHeartbeats 8000000 in
set_option maxRecDepth 100000 in
theorem wide_sign.calls (a0_0 : Int) (a0_1 : Int) (r : Int) (w : World) (h : wide_sign.f a0_0 a0_1 = some r) :
  Calls Try.prog 71 #[.agg #[.int .i64 a0_0, .int .u64 a0_1]] w fun e w' => e = .returned (.int .i64 r) ∧ Below w.heap.size w w' := by
 have hu37 := Try.underlying37
 have HB := Aside0.mk (Below.refl w.heap.size w)
 have H : (if a0_0 < 0 then (some (-1)) else (if a0_0 = 0 then (if a0_1 = 0 then (some 0) else (some 1)) else (some 1))) = some r := h
 clear h
 by_cases c2 : a0_0 < 0
 ·rw [if_pos c2] at H
  have c2b0 : decide (a0_0 < 0) = true := decide_eq_true c2
  clear c2
  obtain rfl := Option.some.inj H
  go_enter Try.func71, Try.ntmps71
  go_wp2_with (first | ((with_reducible refine gate_dst (N := 1) rfl ?_); refine bx 1 #[.int .i64 a0_0, .int .u64 a0_1] 37 ?_; intro gb341 hg w3 hbox hb; have BK341 := Aside0.mk hbox; have GW341 := u3 hg HB; have GE341 := u3 hg HB; replace HB := u2 HB hb; clear hb hbox hg; obtain ⟨_, _, _, _⟩ := p2 BK341))
  go_ret
  exact ⟨by first | rfl | (simp [*, errW_none, errW_some] <;> rfl), bw HB.out⟩
 ·rw [if_neg c2] at H
  have c2b0 : decide (a0_0 < 0) = false := decide_eq_false c2
  clear c2
  by_cases c5 : a0_0 = 0
  ·rw [if_pos c5] at H
   have c5b0 : (a0_0 == 0) = true := beq_iff_eq.mpr c5
   have c5b1 : (a0_0 != 0) = false := bne_eq_false_iff_eq.mpr c5
   clear c5
   by_cases c6 : a0_1 = 0
   ·rw [if_pos c6] at H
    have c6b0 : (a0_1 == 0) = true := beq_iff_eq.mpr c6
    have c6b1 : (a0_1 != 0) = false := bne_eq_false_iff_eq.mpr c6
    clear c6
    obtain rfl := Option.some.inj H
    go_enter Try.func71, Try.ntmps71
    go_wp2_with (first | ((with_reducible refine gate_dst (N := 1) rfl ?_); refine bx 1 #[.int .i64 a0_0, .int .u64 a0_1] 37 ?_; intro gb341 hg w7 hbox hb; have BK341 := Aside0.mk hbox; have GW341 := u3 hg HB; have GE341 := u3 hg HB; replace HB := u2 HB hb; clear hb hbox hg; obtain ⟨_, _, _, _⟩ := p2 BK341))
    go_ret
    exact ⟨by first | rfl | (simp [*, errW_none, errW_some] <;> rfl), bw HB.out⟩
   ·rw [if_neg c6] at H
    have c6b0 : (a0_1 == 0) = false := beq_eq_false_iff_ne.mpr c6
    have c6b1 : (a0_1 != 0) = true := bne_iff_ne.mpr c6
    obtain rfl := Option.some.inj H
    go_enter Try.func71, Try.ntmps71
    go_wp2_with (first | ((with_reducible refine gate_dst (N := 1) rfl ?_); refine bx 1 #[.int .i64 a0_0, .int .u64 a0_1] 37 ?_; intro gb341 hg w9 hbox hb; have BK341 := Aside0.mk hbox; have GW341 := u3 hg HB; have GE341 := u3 hg HB; replace HB := u2 HB hb; clear hb hbox hg; obtain ⟨_, _, _, _⟩ := p2 BK341))
    go_ret
    exact ⟨by first | rfl | (simp [*, errW_none, errW_some] <;> rfl), bw HB.out⟩
  ·rw [if_neg c5] at H
   have c5b0 : (a0_0 == 0) = false := beq_eq_false_iff_ne.mpr c5
   have c5b1 : (a0_0 != 0) = true := bne_iff_ne.mpr c5
   obtain rfl := Option.some.inj H
   go_enter Try.func71, Try.ntmps71
   go_wp2_with (first | ((with_reducible refine gate_dst (N := 1) rfl ?_); refine bx 1 #[.int .i64 a0_0, .int .u64 a0_1] 37 ?_; intro gb341 hg w11 hbox hb; have BK341 := Aside0.mk hbox; have GW341 := u3 hg HB; have GE341 := u3 hg HB; replace HB := u2 HB hb; clear hb hbox hg; obtain ⟨_, _, _, _⟩ := p2 BK341))
   go_ret
   exact ⟨by first | rfl | (simp [*, errW_none, errW_some] <;> rfl), bw HB.out⟩
end Go.Proofs.Ytmeckkckjikjiaa.F
end
section
namespace Go.Proofs.Ytmeckkckjikjiaa.F
open RowKit YtmeckkckjikjiaaW.PrintWords YtmeckkckjikjiaaW.PrintLast YtmeckkckjikjiaaW.PrintMore
set_option linter.unusedVariables false
set_option linter.unusedSimpArgs false
def wide_Sign.f (a0_0 : Int) (a0_1 : Int) : Option (Int) := (wide_sign.f a0_0 a0_1).bind fun t343 => (some t343)
set_option maxHeartbeats 8000000 in
set_option maxRecDepth 100000 in
theorem wide_Sign.calls (a0_0 : Int) (a0_1 : Int) (r : Int) (w : World) (h : wide_Sign.f a0_0 a0_1 = some r) :
  Calls Try.prog 60 #[.agg #[.int .i64 a0_0, .int .u64 a0_1]] w fun e w' => e = .returned (.int .i64 r) ∧ Below w.heap.size w w' := by
 have hu37 := Try.underlying37
 have HB := Aside0.mk (Below.refl w.heap.size w)
 have H : ((wide_sign.f a0_0 a0_1).bind fun t343 => (some t343)) = some r := h
 clear h
 replace H := Option.bind_eq_some_iff.mp H
 obtain ⟨t343, A20, H⟩ := H
 try dsimp only at H
 have A2 := Aside0.mk A20
 clear A20
 obtain rfl := Option.some.inj H
 go_enter Try.func60, Try.ntmps60
 go_wp2_with (first | ((with_reducible refine gate_dst (N := 1) rfl ?_); refine bx 1 #[.int .i64 a0_0, .int .u64 a0_1] 37 ?_; intro gb342 hg w3 hbox hb; have BK342 := Aside0.mk hbox; have GW342 := u3 hg HB; have GE342 := u3 hg HB; replace HB := u2 HB hb; clear hb hbox hg; obtain ⟨_, _, _, _⟩ := p2 BK342) | ((with_reducible refine gate_callee (f := 71) rfl ?_); refine gL (some 4) Try.func71 #[.agg #[.int .i64 a0_0, .int .u64 a0_1]] rfl ?_; (with_reducible refine (wide_sign.calls a0_0 a0_1 t343 _ A2.out).mono ?_); rintro e w5 ⟨rfl, hb⟩; refine ⟨_, rfl, ?_⟩; replace BK342 := u1 BK342 hb; replace HB := u2 HB hb; clear hb))
 go_ret
 exact ⟨by first | rfl | (simp [*, errW_none, errW_some] <;> rfl), bw HB.out⟩
end Go.Proofs.Ytmeckkckjikjiaa.F
end
section
namespace Go.Proofs.Ytmeckkckjikjiaa.F
open Go RowKit YtmeckkckjikjiaaW.PrintWords
def wv (h l : Int) : Int := h * 18446744073709551616 + l
def whi (n : Int) : Int := wrap64 (n / 18446744073709551616)
def wlo (n : Int) : Int := n % 18446744073709551616
abbrev WOk (h l : Int) : Prop := (-9223372036854775808 ≤ h ∧ h ≤ 9223372036854775807) ∧ (0 ≤ l ∧ l < 18446744073709551616)
end Go.Proofs.Ytmeckkckjikjiaa.F
end
section
namespace Go.Proofs.Ytmeckkckjikjiaa.F
open Go RowKit YtmeckkckjikjiaaW.PrintWords YtmeckkckjikjiaaW.PrintLast YtmeckkckjikjiaaW.PrintMore
set_option linter.unusedVariables false
theorem add64_run (x y c : Int) (hx : 0 ≤ x) (hy : 0 ≤ y) (hc0 : 0 ≤ c) (hc : c ≤ 1) (w : World) :
  (callFunc 46 #[.int .u64 x, .int .u64 y, .int .u64 c]).run Try.prog w = .ok (.value (.tuple #[.int .u64 ((x + y + c) % 18446744073709551616), .int .u64 ((x + y + c) / 18446744073709551616)])) w := by
 rw [run_callFunc_extern Try.func46 (by kernel_rfl) (by kernel_rfl) (by kernel_rfl) (e := add64Entry) (by kernel_rfl), run_add64 x y c hx hy hc0 hc]
 rfl
def sub64Entry : Array Value → Sem Value := fun args => do
 let (x, y, b) ← Extern.MathBitsCarry.three "Sub64" args
 pure (Extern.MathBitsCarry.pair ((x + Extern.MathBitsCarry.m64 - y - b) % Extern.MathBitsCarry.m64) (if x < y + b then 1 else 0))
theorem sub64_nat (x y b : Nat) (hb : b ≤ 1) (P : Program) (w : World) :
  (sub64Entry #[.int .u64 x, .int .u64 y, .int .u64 b]).run P w =
   .ok (.tuple #[.int .u64 (((x + 18446744073709551616 - y - b) % 18446744073709551616 : Nat) : Int), .int .u64 ((if x < y + b then 1 else 0 : Nat) : Int)]) w := by
 have : b = 0 ∨ b = 1 := by omega
 rcases this with rfl | rfl <;> rfl
theorem sub64_run (x y c : Int) (hx : 0 ≤ x ∧ x < 18446744073709551616) (hy : 0 ≤ y ∧ y < 18446744073709551616) (hc0 : 0 ≤ c) (hc : c ≤ 1) (w : World) :
  (callFunc 68 #[.int .u64 x, .int .u64 y, .int .u64 c]).run Try.prog w = .ok (.value (.tuple #[.int .u64 ((x - y - c) % 18446744073709551616), .int .u64 (-((x - y - c) / 18446744073709551616))])) w := by
 obtain ⟨X, rfl⟩ := Int.eq_ofNat_of_zero_le hx.1
 obtain ⟨Y, rfl⟩ := Int.eq_ofNat_of_zero_le hy.1
 obtain ⟨C, rfl⟩ := Int.eq_ofNat_of_zero_le hc0
 rw [run_callFunc_extern Try.func68 (by kernel_rfl) (by kernel_rfl) (by kernel_rfl) (e := sub64Entry) (by kernel_rfl), sub64_nat X Y C (by omega)]
 have e1 : (((X + 18446744073709551616 - Y - C) % 18446744073709551616 : Nat) : Int) = ((X : Int) - Y - C) % 18446744073709551616 := by omega
 have e2 : ((if X < Y + C then 1 else 0 : Nat) : Int) = -(((X : Int) - Y - C) / 18446744073709551616) := by split <;> omega
 rw [e1, e2]
 rfl
theorem three_below (w : World) (o0 o1 o2 : Obj) : Below w.heap.size w (((w.alloc o0).alloc o1).alloc o2) := (((Below.refl _ _).alloc (Nat.le_refl _) _).alloc (by simp) _).alloc (by simp; omega) _
set_option maxHeartbeats 1000000 in
theorem add_walk (a0 a1 b0 b1 lo c hi d : Int) (k1 : ∀ w, (callFunc 46 #[.int .u64 a1, .int .u64 b1, .int .u64 0]).run Try.prog w = .ok (.value (.tuple #[.int .u64 lo, .int .u64 c])) w)
  (k2 : ∀ w, (callFunc 46 #[.int .u64 (IntKind.u64.wrap a0), .int .u64 (IntKind.u64.wrap b0), .int .u64 c]).run Try.prog w = .ok (.value (.tuple #[.int .u64 hi, .int .u64 d])) w) (w : World) :
  Calls Try.prog 69 #[.agg #[.int .i64 a0, .int .u64 a1], .agg #[.int .i64 b0, .int .u64 b1]] w fun e w' => e = .returned (.agg #[.int .i64 (wrap64 hi), .int .u64 lo]) ∧ Below w.heap.size w w' := by
 go_enter Try.func69, Try.ntmps69
 go_wp2
 exact bodyPost_ret (v := .agg #[.int .i64 (wrap64 hi), .int .u64 lo]) (by simp [results, Try.results69, go_sem]) rfl ⟨rfl, three_below _ _ _ _⟩
set_option maxHeartbeats 1000000 in
theorem sub_walk (a0 a1 b0 b1 lo c hi d : Int) (k1 : ∀ w, (callFunc 68 #[.int .u64 a1, .int .u64 b1, .int .u64 0]).run Try.prog w = .ok (.value (.tuple #[.int .u64 lo, .int .u64 c])) w)
  (k2 : ∀ w, (callFunc 68 #[.int .u64 (IntKind.u64.wrap a0), .int .u64 (IntKind.u64.wrap b0), .int .u64 c]).run Try.prog w = .ok (.value (.tuple #[.int .u64 hi, .int .u64 d])) w) (w : World) :
  Calls Try.prog 70 #[.agg #[.int .i64 a0, .int .u64 a1], .agg #[.int .i64 b0, .int .u64 b1]] w fun e w' => e = .returned (.agg #[.int .i64 (wrap64 hi), .int .u64 lo]) ∧ Below w.heap.size w w' := by
 go_enter Try.func70, Try.ntmps70
 go_wp2
 exact bodyPost_ret (v := .agg #[.int .i64 (wrap64 hi), .int .u64 lo]) (by simp [results, Try.results70, go_sem]) rfl ⟨rfl, three_below _ _ _ _⟩
def wide_add.f (a0_0 : Int) (a0_1 : Int) (a1_0 : Int) (a1_1 : Int) : Option (Int × Int) := if WOk a0_0 a0_1 ∧ WOk a1_0 a1_1 then some (whi (wv a0_0 a0_1 + wv a1_0 a1_1), wlo (wv a0_0 a0_1 + wv a1_0 a1_1)) else none
def wide_sub.f (a0_0 : Int) (a0_1 : Int) (a1_0 : Int) (a1_1 : Int) : Option (Int × Int) := if WOk a0_0 a0_1 ∧ WOk a1_0 a1_1 then some (whi (wv a0_0 a0_1 - wv a1_0 a1_1), wlo (wv a0_0 a0_1 - wv a1_0 a1_1)) else none
theorem wide_add.calls (a0_0 : Int) (a0_1 : Int) (a1_0 : Int) (a1_1 : Int) (r1 : Int) (r2 : Int) (w : World) (h : wide_add.f a0_0 a0_1 a1_0 a1_1 = some (r1, r2)) :
  Calls Try.prog 69 #[.agg #[.int .i64 a0_0, .int .u64 a0_1], .agg #[.int .i64 a1_0, .int .u64 a1_1]] w fun e w' => e = .returned (.agg #[.int .i64 r1, .int .u64 r2]) ∧ Below w.heap.size w w' := by
 unfold wide_add.f at h
 by_cases hb : WOk a0_0 a0_1 ∧ WOk a1_0 a1_1
 ·rw [if_pos hb] at h
  injection h with h
  injection h with h1 h2
  obtain ⟨⟨b1, b2⟩, b3, b4⟩ := hb
  have w1 := IntKind.wrap_u64 a0_0
  have w2 := IntKind.wrap_u64 a1_0
  have e1 : r2 = (a0_1 + a1_1 + 0) % 18446744073709551616 := by rw [← h2]; unfold wlo wv; omega
  have e2 : r1 = wrap64 ((IntKind.u64.wrap a0_0 + IntKind.u64.wrap a1_0 + (a0_1 + a1_1 + 0) / 18446744073709551616) % 18446744073709551616) := by rw [← h1]; unfold whi wv wrap64; omega
  rw [e1, e2]
  exact add_walk a0_0 a0_1 a1_0 a1_1 _ _ _ _ (fun w => add64_run a0_1 a1_1 0 (by omega) (by omega) (by omega) (by omega) w) (fun w => add64_run _ _ _ (by omega) (by omega) (by omega) (by omega) w) w
 ·rw [if_neg hb] at h
  cases h
theorem wide_sub.calls (a0_0 : Int) (a0_1 : Int) (a1_0 : Int) (a1_1 : Int) (r1 : Int) (r2 : Int) (w : World) (h : wide_sub.f a0_0 a0_1 a1_0 a1_1 = some (r1, r2)) :
  Calls Try.prog 70 #[.agg #[.int .i64 a0_0, .int .u64 a0_1], .agg #[.int .i64 a1_0, .int .u64 a1_1]] w fun e w' => e = .returned (.agg #[.int .i64 r1, .int .u64 r2]) ∧ Below w.heap.size w w' := by
 unfold wide_sub.f at h
 by_cases hb : WOk a0_0 a0_1 ∧ WOk a1_0 a1_1
 ·rw [if_pos hb] at h
  injection h with h
  injection h with h1 h2
  obtain ⟨⟨b1, b2⟩, b3, b4⟩ := hb
  have w1 := IntKind.wrap_u64 a0_0
  have w2 := IntKind.wrap_u64 a1_0
  have e1 : r2 = (a0_1 - a1_1 - 0) % 18446744073709551616 := by rw [← h2]; unfold wlo wv; omega
  have e2 : r1 = wrap64 ((IntKind.u64.wrap a0_0 - IntKind.u64.wrap a1_0 - -((a0_1 - a1_1 - 0) / 18446744073709551616)) % 18446744073709551616) := by rw [← h1]; unfold whi wv wrap64; omega
  rw [e1, e2]
  exact sub_walk a0_0 a0_1 a1_0 a1_1 _ _ _ _ (fun w => sub64_run a0_1 a1_1 0 ⟨by omega, by omega⟩ ⟨by omega, by omega⟩ (by omega) (by omega) w) (fun w => sub64_run _ _ _ ⟨by omega, by omega⟩ ⟨by omega, by omega⟩ (by omega) (by omega) w) w
 ·rw [if_neg hb] at h
  cases h
end Go.Proofs.Ytmeckkckjikjiaa.F
end
section
namespace Go.Proofs.Ytmeckkckjikjiaa.F
open RowKit YtmeckkckjikjiaaW.PrintWords YtmeckkckjikjiaaW.PrintLast YtmeckkckjikjiaaW.PrintMore
set_option linter.unusedVariables false
set_option linter.unusedSimpArgs false
def wide_Add.f (a0_0 : Int) (a0_1 : Int) (a1_0 : Int) (a1_1 : Int) : Option (Int × Int) := (wide_add.f a0_0 a0_1 a1_0 a1_1).bind fun bt126 => (some (bt126.1, bt126.2))
set_option maxHeartbeats 8000000 in
set_option maxRecDepth 100000 in
theorem wide_Add.calls (a0_0 : Int) (a0_1 : Int) (a1_0 : Int) (a1_1 : Int) (r1 : Int) (r2 : Int) (w : World) (h : wide_Add.f a0_0 a0_1 a1_0 a1_1 = some (r1, r2)) :
  Calls Try.prog 48 #[.agg #[.int .i64 a0_0, .int .u64 a0_1], .agg #[.int .i64 a1_0, .int .u64 a1_1]] w fun e w' => e = .returned (.agg #[.int .i64 r1, .int .u64 r2]) ∧ Below w.heap.size w w' := by
 have hu37 := Try.underlying37
 have HB := Aside0.mk (Below.refl w.heap.size w)
 have H : ((wide_add.f a0_0 a0_1 a1_0 a1_1).bind fun bt126 => (some (bt126.1, bt126.2))) = some (r1, r2) := h
 clear h
 replace H := Option.bind_eq_some_iff.mp H
 obtain ⟨⟨t126, t127⟩, A30, H⟩ := H
 try dsimp only at H
 have A3 := Aside0.mk A30
 clear A30
 simp only [Option.some.injEq, Prod.mk.injEq] at H
 obtain ⟨rfl, rfl⟩ := H
 go_enter Try.func48, Try.ntmps48
 go_wp2_with (first | ((with_reducible refine gate_dst (N := 2) rfl ?_); refine bx 2 #[.int .i64 a0_0, .int .u64 a0_1] 37 ?_; intro gb123 hg w4 hbox hb; have BK123 := Aside0.mk hbox; have GW123 := u3 hg HB; have GE123 := u3 hg HB; replace HB := u2 HB hb; clear hb hbox hg) | ((with_reducible refine gate_dst (N := 3) rfl ?_); refine bx 3 #[.int .i64 a1_0, .int .u64 a1_1] 37 ?_; intro gb124 hg w5 hbox hb; have BK124 := Aside0.mk hbox; have GW124 := u3 hg HB; have GE124 := u3 hg HB; have NB123_124 := u4 hg BK123; have NB124_123 := u5 hg BK123; replace BK123 := u1 BK123 hb; replace HB := u2 HB hb; clear hb hbox hg) | ((with_reducible refine gate_dst (N := 4) rfl ?_); refine bx 4 #[.int .i64 0, .int .u64 0] 37 ?_; intro gb125 hg w6 hbox hb; have BK125 := Aside0.mk hbox; have GW125 := u3 hg HB; have GE125 := u3 hg HB; have NB123_125 := u4 hg BK123; have NB125_123 := u5 hg BK123; have NB124_125 := u4 hg BK124; have NB125_124 := u5 hg BK124; replace BK123 := u1 BK123 hb; replace BK124 := u1 BK124 hb; replace HB := u2 HB hb; clear hb hbox hg; have hnb7 := NB123_124.out; have hnc7 := NB124_123.out; have hnb8 := NB123_125.out; have hnc8 := NB125_123.out; obtain ⟨_, _, _, _⟩ := p2 BK123; have hnb10 := NB124_125.out; have hnc10 := NB125_124.out; obtain ⟨_, _, _, _⟩ := p2 BK124) | ((with_reducible refine gate_callee (f := 69) rfl ?_); refine gL (some 7) Try.func69 #[.agg #[.int .i64 a0_0, .int .u64 a0_1], .agg #[.int .i64 a1_0, .int .u64 a1_1]] rfl ?_; (with_reducible refine (wide_add.calls a0_0 a0_1 a1_0 a1_1 t126 t127 _ A3.out).mono ?_); rintro e w12 ⟨rfl, hb⟩; refine ⟨_, rfl, ?_⟩; replace BK123 := u1 BK123 hb; replace BK124 := u1 BK124 hb; replace BK125 := u1 BK125 hb; replace HB := u2 HB hb; clear hb; obtain ⟨_, _, _, _⟩ := p2 BK125))
 refine bodyPost_ret (results_cell_row rfl _ _ gb125 37 #[.int .i64 t126, .int .u64 t127] (0, 0) _ rfl (by (with_reducible repeat (first | refine blk_drewN ?_ _ | refine blk_drew ?_ | refine blk_alloc ?_ _)); refine blk_put (cs := #[.int .i64 t126, .int .u64 0]) ?_ 1 _ rfl; refine blk_put (cs := #[.int .i64 0, .int .u64 0]) ?_ 0 _ rfl; (with_reducible repeat (first | refine blk_drewN ?_ _ | refine blk_drew ?_ | refine blk_alloc ?_ _)); exact BK125.out) Try.underlying37 rfl (by kernel_rfl)) rfl ?_
 exact ⟨by first | rfl | (simp [*, errW_none, errW_some] <;> rfl), by repeat (first | (with_reducible first | exact HB.out | apply below_alloc | apply pw_below_drewN | apply below_drew1 | refine below_set ?_ GE123.out | refine below_set ?_ GE124.out | refine below_set ?_ GE125.out) | exact HB.out)⟩
end Go.Proofs.Ytmeckkckjikjiaa.F
end
section
namespace Go.Proofs.Ytmeckkckjikjiaa.F
open RowKit YtmeckkckjikjiaaW.PrintWords YtmeckkckjikjiaaW.PrintLast YtmeckkckjikjiaaW.PrintMore
set_option linter.unusedVariables false
set_option linter.unusedSimpArgs false
def wide_Sub.f (a0_0 : Int) (a0_1 : Int) (a1_0 : Int) (a1_1 : Int) : Option (Int × Int) := (wide_sub.f a0_0 a0_1 a1_0 a1_1).bind fun bt142 => (some (bt142.1, bt142.2))
set_option maxHeartbeats 8000000 in
set_option maxRecDepth 100000 in
theorem wide_Sub.calls (a0_0 : Int) (a0_1 : Int) (a1_0 : Int) (a1_1 : Int) (r1 : Int) (r2 : Int) (w : World) (h : wide_Sub.f a0_0 a0_1 a1_0 a1_1 = some (r1, r2)) :
  Calls Try.prog 50 #[.agg #[.int .i64 a0_0, .int .u64 a0_1], .agg #[.int .i64 a1_0, .int .u64 a1_1]] w fun e w' => e = .returned (.agg #[.int .i64 r1, .int .u64 r2]) ∧ Below w.heap.size w w' := by
 have hu37 := Try.underlying37
 have HB := Aside0.mk (Below.refl w.heap.size w)
 have H : ((wide_sub.f a0_0 a0_1 a1_0 a1_1).bind fun bt142 => (some (bt142.1, bt142.2))) = some (r1, r2) := h
 clear h
 replace H := Option.bind_eq_some_iff.mp H
 obtain ⟨⟨t142, t143⟩, A30, H⟩ := H
 try dsimp only at H
 have A3 := Aside0.mk A30
 clear A30
 simp only [Option.some.injEq, Prod.mk.injEq] at H
 obtain ⟨rfl, rfl⟩ := H
 go_enter Try.func50, Try.ntmps50
 go_wp2_with (first | ((with_reducible refine gate_dst (N := 2) rfl ?_); refine bx 2 #[.int .i64 a0_0, .int .u64 a0_1] 37 ?_; intro gb139 hg w4 hbox hb; have BK139 := Aside0.mk hbox; have GW139 := u3 hg HB; have GE139 := u3 hg HB; replace HB := u2 HB hb; clear hb hbox hg) | ((with_reducible refine gate_dst (N := 3) rfl ?_); refine bx 3 #[.int .i64 a1_0, .int .u64 a1_1] 37 ?_; intro gb140 hg w5 hbox hb; have BK140 := Aside0.mk hbox; have GW140 := u3 hg HB; have GE140 := u3 hg HB; have NB139_140 := u4 hg BK139; have NB140_139 := u5 hg BK139; replace BK139 := u1 BK139 hb; replace HB := u2 HB hb; clear hb hbox hg) | ((with_reducible refine gate_dst (N := 4) rfl ?_); refine bx 4 #[.int .i64 0, .int .u64 0] 37 ?_; intro gb141 hg w6 hbox hb; have BK141 := Aside0.mk hbox; have GW141 := u3 hg HB; have GE141 := u3 hg HB; have NB139_141 := u4 hg BK139; have NB141_139 := u5 hg BK139; have NB140_141 := u4 hg BK140; have NB141_140 := u5 hg BK140; replace BK139 := u1 BK139 hb; replace BK140 := u1 BK140 hb; replace HB := u2 HB hb; clear hb hbox hg; have hnb7 := NB139_140.out; have hnc7 := NB140_139.out; have hnb8 := NB139_141.out; have hnc8 := NB141_139.out; obtain ⟨_, _, _, _⟩ := p2 BK139; have hnb10 := NB140_141.out; have hnc10 := NB141_140.out; obtain ⟨_, _, _, _⟩ := p2 BK140) | ((with_reducible refine gate_callee (f := 70) rfl ?_); refine gL (some 7) Try.func70 #[.agg #[.int .i64 a0_0, .int .u64 a0_1], .agg #[.int .i64 a1_0, .int .u64 a1_1]] rfl ?_; (with_reducible refine (wide_sub.calls a0_0 a0_1 a1_0 a1_1 t142 t143 _ A3.out).mono ?_); rintro e w12 ⟨rfl, hb⟩; refine ⟨_, rfl, ?_⟩; replace BK139 := u1 BK139 hb; replace BK140 := u1 BK140 hb; replace BK141 := u1 BK141 hb; replace HB := u2 HB hb; clear hb; obtain ⟨_, _, _, _⟩ := p2 BK141))
 refine bodyPost_ret (results_cell_row rfl _ _ gb141 37 #[.int .i64 t142, .int .u64 t143] (0, 0) _ rfl (by (with_reducible repeat (first | refine blk_drewN ?_ _ | refine blk_drew ?_ | refine blk_alloc ?_ _)); refine blk_put (cs := #[.int .i64 t142, .int .u64 0]) ?_ 1 _ rfl; refine blk_put (cs := #[.int .i64 0, .int .u64 0]) ?_ 0 _ rfl; (with_reducible repeat (first | refine blk_drewN ?_ _ | refine blk_drew ?_ | refine blk_alloc ?_ _)); exact BK141.out) Try.underlying37 rfl (by kernel_rfl)) rfl ?_
 exact ⟨by first | rfl | (simp [*, errW_none, errW_some] <;> rfl), by repeat (first | (with_reducible first | exact HB.out | apply below_alloc | apply pw_below_drewN | apply below_drew1 | refine below_set ?_ GE139.out | refine below_set ?_ GE140.out | refine below_set ?_ GE141.out) | exact HB.out)⟩
end Go.Proofs.Ytmeckkckjikjiaa.F
end
section
namespace Go.Proofs.Ytmeckkckjikjiaa.F
open Go RowKit YtmeckkckjikjiaaW.PrintWords YtmeckkckjikjiaaW.PrintLast YtmeckkckjikjiaaW.PrintMore
set_option linter.unusedVariables false
theorem qadd64_run (x y c : Int) (hx : 0 ≤ x) (hy : 0 ≤ y) (hc0 : 0 ≤ c) (w : World) :
  (callFunc 46 #[.int .u64 x, .int .u64 y, .int .u64 c]).run Try.prog w = .ok (.value (.tuple #[.int .u64 ((x + y + c) % 18446744073709551616), .int .u64 ((x + y + c) / 18446744073709551616)])) w ∨ 1 < c := by
 by_cases hc : c ≤ 1
 ·left
  rw [run_callFunc_extern Try.func46 (by kernel_rfl) (by kernel_rfl) (by kernel_rfl) (e := add64Entry) (by kernel_rfl), run_add64 x y c hx hy hc0 hc]
  rfl
 ·right; omega
theorem add64_go (x y c : Int) (hx : 0 ≤ x) (hy : 0 ≤ y) (hc0 : 0 ≤ c) (hc : c ≤ 1) (w : World) :
  (callFunc 46 #[.int .u64 x, .int .u64 y, .int .u64 c]).run Try.prog w = .ok (.value (.tuple #[.int .u64 ((x + y + c) % 18446744073709551616), .int .u64 ((x + y + c) / 18446744073709551616)])) w :=
 (qadd64_run x y c hx hy hc0 w).resolve_right (by omega)
def qsub64Entry : Array Value → Sem Value := fun args => do
 let (x, y, b) ← Extern.MathBitsCarry.three "Sub64" args
 pure (Extern.MathBitsCarry.pair ((x + Extern.MathBitsCarry.m64 - y - b) % Extern.MathBitsCarry.m64) (if x < y + b then 1 else 0))
theorem qsub64_nat (x y b : Nat) (hb : b ≤ 1) (P : Program) (w : World) :
  (qsub64Entry #[.int .u64 x, .int .u64 y, .int .u64 b]).run P w =
   .ok (.tuple #[.int .u64 (((x + 18446744073709551616 - y - b) % 18446744073709551616 : Nat) : Int), .int .u64 ((if x < y + b then 1 else 0 : Nat) : Int)]) w := by
 have : b = 0 ∨ b = 1 := by omega
 rcases this with rfl | rfl <;> rfl
theorem sub64_go (x y c : Int) (hx : 0 ≤ x ∧ x < 18446744073709551616) (hy : 0 ≤ y ∧ y < 18446744073709551616) (hc0 : 0 ≤ c) (hc : c ≤ 1) (w : World) :
  (callFunc 68 #[.int .u64 x, .int .u64 y, .int .u64 c]).run Try.prog w = .ok (.value (.tuple #[.int .u64 ((x - y - c) % 18446744073709551616), .int .u64 (-((x - y - c) / 18446744073709551616))])) w := by
 obtain ⟨X, rfl⟩ := Int.eq_ofNat_of_zero_le hx.1
 obtain ⟨Y, rfl⟩ := Int.eq_ofNat_of_zero_le hy.1
 obtain ⟨C, rfl⟩ := Int.eq_ofNat_of_zero_le hc0
 rw [run_callFunc_extern Try.func68 (by kernel_rfl) (by kernel_rfl) (by kernel_rfl) (e := qsub64Entry) (by kernel_rfl), qsub64_nat X Y C (by omega)]
 have e1 : (((X + 18446744073709551616 - Y - C) % 18446744073709551616 : Nat) : Int) = ((X : Int) - Y - C) % 18446744073709551616 := by omega
 have e2 : ((if X < Y + C then 1 else 0 : Nat) : Int) = -(((X : Int) - Y - C) / 18446744073709551616) := by split <;> omega
 rw [e1, e2]
 rfl
abbrev q4 (a b c d : Int) : Value := .agg #[.int .u64 a, .int .u64 b, .int .u64 c, .int .u64 d]
abbrev UOk (a : Int) : Prop := 0 ≤ a ∧ a < 18446744073709551616
abbrev QOk (a b c d : Int) : Prop := UOk a ∧ UOk b ∧ UOk c ∧ UOk d
def qv (a b c d : Int) : Int := a + 18446744073709551616 * (b + 18446744073709551616 * (c + 18446744073709551616 * d))
def q0 (n : Int) : Int := n % 18446744073709551616
def q1 (n : Int) : Int := n / 18446744073709551616 % 18446744073709551616
def q2 (n : Int) : Int := n / 18446744073709551616 / 18446744073709551616 % 18446744073709551616
def q3 (n : Int) : Int := n / 18446744073709551616 / 18446744073709551616 / 18446744073709551616 % 18446744073709551616
def qq4 (n : Int) : Int × Int × Int × Int := (q0 n, q1 n, q2 n, q3 n)
def qs (n : Int) : Int := if n % 115792089237316195423570985008687907853269984665640564039457584007913129639936 < 57896044618658097711785492504343953926634992332820282019728792003956564819968 then n % 115792089237316195423570985008687907853269984665640564039457584007913129639936 else n % 115792089237316195423570985008687907853269984665640564039457584007913129639936 - 115792089237316195423570985008687907853269984665640564039457584007913129639936
theorem q_ok (n : Int) : QOk (q0 n) (q1 n) (q2 n) (q3 n) := by unfold q0 q1 q2 q3; exact ⟨⟨by omega, by omega⟩, ⟨by omega, by omega⟩, ⟨by omega, by omega⟩, ⟨by omega, by omega⟩⟩
theorem q_back {a b c d : Int} (h : QOk a b c d) : q0 (qv a b c d) = a ∧ q1 (qv a b c d) = b ∧ q2 (qv a b c d) = c ∧ q3 (qv a b c d) = d := by
 obtain ⟨⟨a0, a1⟩, ⟨b0, b1⟩, ⟨c0, c1⟩, ⟨d0, d1⟩⟩ := h
 unfold q0 q1 q2 q3 qv
 have e1 : (a + 18446744073709551616 * (b + 18446744073709551616 * (c + 18446744073709551616 * d))) / 18446744073709551616 = b + 18446744073709551616 * (c + 18446744073709551616 * d) := by omega
 have e2 : (b + 18446744073709551616 * (c + 18446744073709551616 * d)) / 18446744073709551616 = c + 18446744073709551616 * d := by omega
 have e3 : (c + 18446744073709551616 * d) / 18446744073709551616 = d := by omega
 rw [e1, e2, e3]
 exact ⟨by omega, by omega, by omega, by omega⟩
theorem sum_q {a b c d a' b' c' d' : Int} (h : QOk a b c d) (h' : QOk a' b' c' d') :
  (a + a' + 0) % 18446744073709551616 = q0 (qv a b c d + qv a' b' c' d') ∧
  (b + b' + (a + a' + 0) / 18446744073709551616) % 18446744073709551616 = q1 (qv a b c d + qv a' b' c' d') ∧
  (c + c' + (b + b' + (a + a' + 0) / 18446744073709551616) / 18446744073709551616) % 18446744073709551616 = q2 (qv a b c d + qv a' b' c' d') ∧
  (d + d' + (c + c' + (b + b' + (a + a' + 0) / 18446744073709551616) / 18446744073709551616) / 18446744073709551616) % 18446744073709551616 = q3 (qv a b c d + qv a' b' c' d') := by
 unfold q0 q1 q2 q3 qv
 have e1 : (a + 18446744073709551616 * (b + 18446744073709551616 * (c + 18446744073709551616 * d)) + (a' + 18446744073709551616 * (b' + 18446744073709551616 * (c' + 18446744073709551616 * d')))) / 18446744073709551616 = (b + b' + (a + a' + 0) / 18446744073709551616) + 18446744073709551616 * ((c + c') + 18446744073709551616 * (d + d')) := by omega
 have e0 : (a + 18446744073709551616 * (b + 18446744073709551616 * (c + 18446744073709551616 * d)) + (a' + 18446744073709551616 * (b' + 18446744073709551616 * (c' + 18446744073709551616 * d')))) % 18446744073709551616 = (a + a' + 0) % 18446744073709551616 := by omega
 rw [e0, e1]
 generalize b + b' + (a + a' + 0) / 18446744073709551616 = B
 have e2 : (B + 18446744073709551616 * ((c + c') + 18446744073709551616 * (d + d'))) / 18446744073709551616 = (c + c' + B / 18446744073709551616) + 18446744073709551616 * (d + d') := by omega
 rw [e2]
 generalize c + c' + B / 18446744073709551616 = C
 exact ⟨rfl, by omega, by omega, by omega⟩
theorem dif_q {a b c d a' b' c' d' : Int} (h : QOk a b c d) (h' : QOk a' b' c' d') :
  (a - a' - 0) % 18446744073709551616 = q0 (qv a b c d - qv a' b' c' d') ∧
  (b - b' - -((a - a' - 0) / 18446744073709551616)) % 18446744073709551616 = q1 (qv a b c d - qv a' b' c' d') ∧
  (c - c' - -((b - b' - -((a - a' - 0) / 18446744073709551616)) / 18446744073709551616)) % 18446744073709551616 = q2 (qv a b c d - qv a' b' c' d') ∧
  (d - d' - -((c - c' - -((b - b' - -((a - a' - 0) / 18446744073709551616)) / 18446744073709551616)) / 18446744073709551616)) % 18446744073709551616 = q3 (qv a b c d - qv a' b' c' d') := by
 unfold q0 q1 q2 q3 qv
 have e1 : (a + 18446744073709551616 * (b + 18446744073709551616 * (c + 18446744073709551616 * d)) - (a' + 18446744073709551616 * (b' + 18446744073709551616 * (c' + 18446744073709551616 * d')))) / 18446744073709551616 = (b - b' - -((a - a' - 0) / 18446744073709551616)) + 18446744073709551616 * ((c - c') + 18446744073709551616 * (d - d')) := by omega
 have e0 : (a + 18446744073709551616 * (b + 18446744073709551616 * (c + 18446744073709551616 * d)) - (a' + 18446744073709551616 * (b' + 18446744073709551616 * (c' + 18446744073709551616 * d')))) % 18446744073709551616 = (a - a' - 0) % 18446744073709551616 := by omega
 rw [e0, e1]
 generalize b - b' - -((a - a' - 0) / 18446744073709551616) = B
 have e2 : (B + 18446744073709551616 * ((c - c') + 18446744073709551616 * (d - d'))) / 18446744073709551616 = (c - c' - -(B / 18446744073709551616)) + 18446744073709551616 * (d - d') := by omega
 rw [e2]
 generalize c - c' - -(B / 18446744073709551616) = C
 exact ⟨rfl, by omega, by omega, by omega⟩
theorem q_below (a b c d : Int) (w : World) : Calls Try.prog 52 #[q4 a b c d] w fun e w' => e = .returned (.bool (shr .u64 d 63 == 1)) ∧ Below w.heap.size w w' := by
 go_enter Try.func52, Try.ntmps52
 go_wp2
 go_ret
 exact ⟨rfl, (Below.refl _ _).alloc (Nat.le_refl _) _⟩
theorem q_add (a b c d a' b' c' d' s0 c0 s1 c1 s2 c2 s3 c3 : Int)
  (k0 : ∀ w, (callFunc 46 #[.int .u64 a, .int .u64 a', .int .u64 0]).run Try.prog w = .ok (.value (.tuple #[.int .u64 s0, .int .u64 c0])) w)
  (k1 : ∀ w, (callFunc 46 #[.int .u64 b, .int .u64 b', .int .u64 c0]).run Try.prog w = .ok (.value (.tuple #[.int .u64 s1, .int .u64 c1])) w)
  (k2 : ∀ w, (callFunc 46 #[.int .u64 c, .int .u64 c', .int .u64 c1]).run Try.prog w = .ok (.value (.tuple #[.int .u64 s2, .int .u64 c2])) w)
  (k3 : ∀ w, (callFunc 46 #[.int .u64 d, .int .u64 d', .int .u64 c2]).run Try.prog w = .ok (.value (.tuple #[.int .u64 s3, .int .u64 c3])) w)
  (w : World) : Calls Try.prog 51 #[q4 a b c d, q4 a' b' c' d'] w fun e w' => e = .returned (q4 s0 s1 s2 s3) ∧ Below w.heap.size w w' := by
 go_enter Try.func51, Try.ntmps51
 go_wp2
 refine wp_loop_rounds 5 ?_
 iterate 4
  rw [rounds_succ]
  go_wp2
  go_region
  go_wp2
 rw [rounds_succ]
 go_wp2
 exact bodyPost_ret (v := q4 s0 s1 s2 s3) (by simp [results, Try.results51, go_sem]) rfl ⟨rfl, by repeat (first | (with_reducible first | exact Below.refl _ _ | apply below_alloc | apply pw_below_drewN | apply below_drew1) | exact Below.refl _ _)⟩
theorem q_sub (a b c d a' b' c' d' s0 c0 s1 c1 s2 c2 s3 c3 : Int)
  (k0 : ∀ w, (callFunc 68 #[.int .u64 a, .int .u64 a', .int .u64 0]).run Try.prog w = .ok (.value (.tuple #[.int .u64 s0, .int .u64 c0])) w)
  (k1 : ∀ w, (callFunc 68 #[.int .u64 b, .int .u64 b', .int .u64 c0]).run Try.prog w = .ok (.value (.tuple #[.int .u64 s1, .int .u64 c1])) w)
  (k2 : ∀ w, (callFunc 68 #[.int .u64 c, .int .u64 c', .int .u64 c1]).run Try.prog w = .ok (.value (.tuple #[.int .u64 s2, .int .u64 c2])) w)
  (k3 : ∀ w, (callFunc 68 #[.int .u64 d, .int .u64 d', .int .u64 c2]).run Try.prog w = .ok (.value (.tuple #[.int .u64 s3, .int .u64 c3])) w)
  (w : World) : Calls Try.prog 47 #[q4 a b c d, q4 a' b' c' d'] w fun e w' => e = .returned (q4 s0 s1 s2 s3) ∧ Below w.heap.size w w' := by
 go_enter Try.func47, Try.ntmps47
 go_wp2
 refine wp_loop_rounds 5 ?_
 iterate 4
  rw [rounds_succ]
  go_wp2
  go_region
  go_wp2
 rw [rounds_succ]
 go_wp2
 exact bodyPost_ret (v := q4 s0 s1 s2 s3) (by simp [results, Try.results47, go_sem]) rfl ⟨rfl, by repeat (first | (with_reducible first | exact Below.refl _ _ | apply below_alloc | apply pw_below_drewN | apply below_drew1) | exact Below.refl _ _)⟩
theorem q_add_c {a b c d a' b' c' d' : Int} (h : QOk a b c d) (h' : QOk a' b' c' d') (w : World) : Calls Try.prog 51 #[q4 a b c d, q4 a' b' c' d'] w fun e w' =>
  e = .returned (q4 (q0 (qv a b c d + qv a' b' c' d')) (q1 (qv a b c d + qv a' b' c' d')) (q2 (qv a b c d + qv a' b' c' d')) (q3 (qv a b c d + qv a' b' c' d'))) ∧ Below w.heap.size w w' := by
 obtain ⟨e0, e1, e2, e3⟩ := sum_q h h'
 obtain ⟨⟨a0, a1⟩, ⟨b0, b1⟩, ⟨c0, c1⟩, ⟨d0, d1⟩⟩ := h
 obtain ⟨⟨a0', a1'⟩, ⟨b0', b1'⟩, ⟨c0', c1'⟩, ⟨d0', d1'⟩⟩ := h'
 rw [← e0, ← e1, ← e2, ← e3]
 have u1 : 0 ≤ (a + a' + 0) / 18446744073709551616 ∧ (a + a' + 0) / 18446744073709551616 ≤ 1 := by omega
 generalize hu1 : (a + a' + 0) / 18446744073709551616 = C1 at u1 ⊢
 have u2 : 0 ≤ (b + b' + C1) / 18446744073709551616 ∧ (b + b' + C1) / 18446744073709551616 ≤ 1 := by omega
 generalize hu2 : (b + b' + C1) / 18446744073709551616 = C2 at u2 ⊢
 have u3 : 0 ≤ (c + c' + C2) / 18446744073709551616 ∧ (c + c' + C2) / 18446744073709551616 ≤ 1 := by omega
 generalize hu3 : (c + c' + C2) / 18446744073709551616 = C3 at u3 ⊢
 exact q_add a b c d a' b' c' d' _ C1 _ C2 _ C3 _ _ (fun w => by rw [← hu1]; exact add64_go _ _ _ (by omega) (by omega) (by omega) (by omega) w) (fun w => by rw [← hu2]; exact add64_go _ _ _ (by omega) (by omega) (by omega) (by omega) w)
  (fun w => by rw [← hu3]; exact add64_go _ _ _ (by omega) (by omega) (by omega) (by omega) w) (fun w => add64_go _ _ _ (by omega) (by omega) (by omega) (by omega) w) w
theorem q_sub_c {a b c d a' b' c' d' : Int} (h : QOk a b c d) (h' : QOk a' b' c' d') (w : World) : Calls Try.prog 47 #[q4 a b c d, q4 a' b' c' d'] w fun e w' =>
  e = .returned (q4 (q0 (qv a b c d - qv a' b' c' d')) (q1 (qv a b c d - qv a' b' c' d')) (q2 (qv a b c d - qv a' b' c' d')) (q3 (qv a b c d - qv a' b' c' d'))) ∧ Below w.heap.size w w' := by
 obtain ⟨e0, e1, e2, e3⟩ := dif_q h h'
 obtain ⟨⟨a0, a1⟩, ⟨b0, b1⟩, ⟨c0, c1⟩, ⟨d0, d1⟩⟩ := h
 obtain ⟨⟨a0', a1'⟩, ⟨b0', b1'⟩, ⟨c0', c1'⟩, ⟨d0', d1'⟩⟩ := h'
 rw [← e0, ← e1, ← e2, ← e3]
 have u1 : 0 ≤ -((a - a' - 0) / 18446744073709551616) ∧ -((a - a' - 0) / 18446744073709551616) ≤ 1 := by omega
 generalize hu1 : -((a - a' - 0) / 18446744073709551616) = C1 at u1 ⊢
 have u2 : 0 ≤ -((b - b' - C1) / 18446744073709551616) ∧ -((b - b' - C1) / 18446744073709551616) ≤ 1 := by omega
 generalize hu2 : -((b - b' - C1) / 18446744073709551616) = C2 at u2 ⊢
 have u3 : 0 ≤ -((c - c' - C2) / 18446744073709551616) ∧ -((c - c' - C2) / 18446744073709551616) ≤ 1 := by omega
 generalize hu3 : -((c - c' - C2) / 18446744073709551616) = C3 at u3 ⊢
 exact q_sub a b c d a' b' c' d' _ C1 _ C2 _ C3 _ _ (fun w => by rw [← hu1]; exact sub64_go _ _ _ ⟨by omega, by omega⟩ ⟨by omega, by omega⟩ (by omega) (by omega) w) (fun w => by rw [← hu2]; exact sub64_go _ _ _ ⟨by omega, by omega⟩ ⟨by omega, by omega⟩ (by omega) (by omega) w)
  (fun w => by rw [← hu3]; exact sub64_go _ _ _ ⟨by omega, by omega⟩ ⟨by omega, by omega⟩ (by omega) (by omega) w) (fun w => sub64_go _ _ _ ⟨by omega, by omega⟩ ⟨by omega, by omega⟩ (by omega) (by omega) w) w
end Go.Proofs.Ytmeckkckjikjiaa.F
end
section
namespace Go.Proofs.Ytmeckkckjikjiaa.F
open Go RowKit YtmeckkckjikjiaaW.PrintWords
set_option linter.unusedVariables false
theorem and_mask (a : Int) (ha : 0 ≤ a) (ha2 : a < 18446744073709551616) : bits .and .u64 a 4294967295 = a % 4294967296 := by
 obtain ⟨A, rfl⟩ := Int.eq_ofNat_of_zero_le ha
 have h := bits_and_u64_nat A 4294967295 (by omega) (by omega)
 have e : A &&& 4294967295 = A % 4294967296 := Nat.and_two_pow_sub_one_eq_mod A 32
 rw [e] at h
 exact h
theorem mask_n (a : Nat) (ha : a < 18446744073709551616) : bits .and .u64 (a : Int) 4294967295 = ((a % 4294967296 : Nat) : Int) := by
 rw [and_mask _ (by omega) (by omega)]; omega
theorem wrap_n (a : Nat) (ha : a < 18446744073709551616) : IntKind.u64.wrap (a : Int) = (a : Int) := by rw [IntKind.wrap_u64]; omega
theorem mul64_f {x y : Int} (hx : 0 ≤ x ∧ x < 18446744073709551616) (hy : 0 ≤ y ∧ y < 18446744073709551616) : bits_Mul64.f x y = some (x * y / 18446744073709551616, x * y % 18446744073709551616) := by
 obtain ⟨X, rfl⟩ := Int.eq_ofNat_of_zero_le hx.1
 obtain ⟨Y, rfl⟩ := Int.eq_ofNat_of_zero_le hy.1
 obtain ⟨m1, m2, m3, m4⟩ := Lib.mul64_hi X Y (by omega) (by omega)
 have ba := Lib.half_mul_le (a := X / 4294967296) (b := Y / 4294967296) (by omega) (by omega)
 have bb := Lib.half_mul_le (a := X / 4294967296) (b := Y % 4294967296) (by omega) (by omega)
 have bc := Lib.half_mul_le (a := X % 4294967296) (b := Y / 4294967296) (by omega) (by omega)
 have d1 : ((X : Int)) / 4294967296 = ((X / 4294967296 : Nat) : Int) := by omega
 have d2 : ((Y : Int)) / 4294967296 = ((Y / 4294967296 : Nat) : Int) := by omega
 have e1 : (X : Int) * (Y : Int) / 18446744073709551616 = ((X * Y / 18446744073709551616 : Nat) : Int) := by rw [← Int.natCast_mul]; omega
 have e2 : IntKind.u64.wrap ((X : Int) * (Y : Int)) = (X : Int) * (Y : Int) % 18446744073709551616 := IntKind.wrap_u64 _
 unfold bits_Mul64.f
 rw [e1, e2, mask_n X (by omega), mask_n Y (by omega), d1, d2, ← Int.natCast_mul, ← Int.natCast_mul, ← Int.natCast_mul, ← Int.natCast_mul, ← m4]
 clear e1 e2 d1 d2
 generalize X / 4294967296 * (Y / 4294967296) = p at m4 ba ⊢
 generalize X / 4294967296 * (Y % 4294967296) = q at m2 m3 m4 bb ⊢
 generalize X % 4294967296 * (Y / 4294967296) = r at m3 m4 bc ⊢
 generalize X % 4294967296 * (Y % 4294967296) = s at m1 m2 m3 m4 ⊢
 have f1 : ((s : Int)) / 4294967296 = ((s / 4294967296 : Nat) : Int) := by omega
 have f2 : (q : Int) + ((s / 4294967296 : Nat) : Int) = ((q + s / 4294967296 : Nat) : Int) := by omega
 have f3 : ((q + s / 4294967296 : Nat) : Int) / 4294967296 = (((q + s / 4294967296) / 4294967296 : Nat) : Int) := by omega
 have f4 : (((q + s / 4294967296) % 4294967296 : Nat) : Int) + (r : Int) = (((q + s / 4294967296) % 4294967296 + r : Nat) : Int) := by omega
 have f5 : (((q + s / 4294967296) % 4294967296 + r : Nat) : Int) / 4294967296 = ((((q + s / 4294967296) % 4294967296 + r) / 4294967296 : Nat) : Int) := by omega
 rw [wrap_n s m1, f1, wrap_n q (by omega), f2, wrap_n _ m2, f3, mask_n _ m2, wrap_n r (by omega), f4, wrap_n _ m3, f5, wrap_n p (by omega)]
 have hlt : p + (q + s / 4294967296) / 4294967296 + ((q + s / 4294967296) % 4294967296 + r) / 4294967296 < 18446744073709551616 := by
  rw [m4]
  have hXY : X * Y < 18446744073709551616 * 18446744073709551616 := Nat.mul_lt_mul_of_lt_of_lt (by omega) (by omega)
  omega
 have f6 : (p : Int) + (((q + s / 4294967296) / 4294967296 : Nat) : Int) = ((p + (q + s / 4294967296) / 4294967296 : Nat) : Int) := by omega
 have f7 : ((p + (q + s / 4294967296) / 4294967296 : Nat) : Int) + ((((q + s / 4294967296) % 4294967296 + r) / 4294967296 : Nat) : Int) = ((p + (q + s / 4294967296) / 4294967296 + ((q + s / 4294967296) % 4294967296 + r) / 4294967296 : Nat) : Int) := by omega
 rw [f6, wrap_n _ (by omega), f7, wrap_n _ hlt]
end Go.Proofs.Ytmeckkckjikjiaa.F
end
section
namespace Go.Proofs.Ytmeckkckjikjiaa.Wd
open Go RowKit YtmeckkckjikjiaaW.PrintWords Ytmeckkckjikjiaa.F
set_option linter.unusedVariables false
theorem wok_of (n : Int) : WOk (whi n) (wlo n) := by
 unfold whi wlo wrap64
 exact ⟨by omega, by omega⟩
theorem wv_small {n : Int} (h : -170141183460469231731687303715884105728 ≤ n ∧ n < 170141183460469231731687303715884105728) : wv (whi n) (wlo n) = n := by
 unfold wv whi wlo wrap64
 omega
theorem wadd_f {a b c d : Int} (h : WOk a b) (h' : WOk c d) : wide_Add.f a b c d = some (whi (wv a b + wv c d), wlo (wv a b + wv c d)) := by
 unfold wide_Add.f wide_add.f
 rw [if_pos ⟨h, h'⟩, Option.bind_some]
theorem wsub_f {a b c d : Int} (h : WOk a b) (h' : WOk c d) : wide_Sub.f a b c d = some (whi (wv a b - wv c d), wlo (wv a b - wv c d)) := by
 unfold wide_Sub.f wide_sub.f
 rw [if_pos ⟨h, h'⟩, Option.bind_some]
theorem wmul_f {a b : Int} (ha : -9223372036854775808 ≤ a ∧ a ≤ 9223372036854775807) (hb : -9223372036854775808 ≤ b ∧ b ≤ 9223372036854775807) : wide_Mul.f a b = some (whi (a * b), wlo (a * b)) := by
 unfold wide_Mul.f
 have wa := IntKind.wrap_u64 a
 have wb := IntKind.wrap_u64 b
 rw [mul64_f (by omega) (by omega), Option.bind_some]
 generalize hU : IntKind.u64.wrap a = U at wa ⊢
 generalize hV : IntKind.u64.wrap b = V at wb ⊢
 clear hU hV
 have w1 := fun z => IntKind.wrap_u64 z
 by_cases na : a < 0
 ·obtain rfl : U = a + 18446744073709551616 := by omega
  rw [if_pos na]
  by_cases nb : b < 0
  ·obtain rfl : V = b + 18446744073709551616 := by omega
   have e : (a + 18446744073709551616) * (b + 18446744073709551616) = a * b + 18446744073709551616 * (a + b + 18446744073709551616) := by grind
   rw [if_pos nb, w1, w1, e]
   generalize a * b = M
   unfold whi wlo wrap64
   congr 2
   ·omega
   ·omega
  ·obtain rfl : V = b := by omega
   have e : (a + 18446744073709551616) * V = a * V + 18446744073709551616 * V := by grind
   rw [if_neg nb, w1, e]
   generalize a * V = M
   unfold whi wlo wrap64
   congr 2
   ·omega
   ·omega
 ·obtain rfl : U = a := by omega
  rw [if_neg na]
  by_cases nb : b < 0
  ·obtain rfl : V = b + 18446744073709551616 := by omega
   have e : U * (b + 18446744073709551616) = U * b + 18446744073709551616 * U := by grind
   rw [if_pos nb, w1, e]
   generalize U * b = M
   unfold whi wlo wrap64
   congr 2
   ·omega
   ·omega
  ·obtain rfl : V = b := by omega
   rw [if_neg nb]
   generalize U * V = M
   unfold whi wlo wrap64
   congr 2
theorem sign_f {h l : Int} (ok : WOk h l) : wide_Sign.f h l = some (wv h l).sign := by
 obtain ⟨h1, h2⟩ := ok
 unfold wide_Sign.f wide_sign.f
 by_cases k : h < 0
 ·rw [if_pos k, Option.bind_some, Int.sign_eq_neg_one_of_neg (by unfold wv; omega)]
 ·rw [if_neg k]
  by_cases k2 : h = 0
  ·rw [if_pos k2]
   by_cases k3 : l = 0
   ·rw [if_pos k3, Option.bind_some, k2, k3]; rfl
   ·rw [if_neg k3, Option.bind_some, Int.sign_eq_one_of_pos (by unfold wv; omega)]
  ·rw [if_neg k2, Option.bind_some, Int.sign_eq_one_of_pos (by unfold wv; omega)]
end Go.Proofs.Ytmeckkckjikjiaa.Wd
end
section
namespace Go.Proofs.Ytmeckkckjikjiaa.Pm
set_option linter.unusedVariables false
def ar (a0 a1 b0 b1 c0 c1 : Int) : Int := (b0 - a0) * (c1 - a1) - (b1 - a1) * (c0 - a0)
def ds (a0 a1 b0 b1 : Int) : Int := (b0 - a0) * (b0 - a0) + (b1 - a1) * (b1 - a1)
def dt (a0 a1 b0 b1 c0 c1 d0 d1 : Int) : Int :=
 ((a0 - d0) * (a0 - d0) + (a1 - d1) * (a1 - d1)) * ((b0 - d0) * (c1 - d1) - (b1 - d1) * (c0 - d0)) + ((b0 - d0) * (b0 - d0) + (b1 - d1) * (b1 - d1)) * ((c0 - d0) * (a1 - d1) - (c1 - d1) * (a0 - d0)) +
  ((c0 - d0) * (c0 - d0) + (c1 - d1) * (c1 - d1)) * ((a0 - d0) * (b1 - d1) - (a1 - d1) * (b0 - d0))
def Am (n : Int) (B : Nat) : Prop := n.natAbs ≤ B
theorem Am.of {n : Int} {B : Nat} (h : -(B : Int) ≤ n ∧ n ≤ B) : Am n B := by unfold Am; omega
theorem Am.le {n : Int} {B : Nat} (h : Am n B) : -(B : Int) ≤ n ∧ n ≤ B := by unfold Am at h; omega
theorem Am.mul {n m : Int} {B C : Nat} (h : Am n B) (h' : Am m C) : Am (n * m) (B * C) := by
 unfold Am at *
 rw [Int.natAbs_mul]
 exact Nat.mul_le_mul h h'
theorem Am.add {n m : Int} {B C : Nat} (h : Am n B) (h' : Am m C) : Am (n + m) (B + C) := by unfold Am at *; omega
theorem Am.sub {n m : Int} {B C : Nat} (h : Am n B) (h' : Am m C) : Am (n - m) (B + C) := by unfold Am at *; omega
theorem Am.mono {n : Int} {B C : Nat} (h : Am n B) (hc : B ≤ C) : Am n C := Nat.le_trans h hc
abbrev Co (n : Int) : Prop := -1099511627776 ≤ n ∧ n ≤ 1099511627776
theorem Co.way {n m : Int} (h : Co n) (h' : Co m) : Am (n - m) 2199023255552 := Am.of (by unfold Co at *; omega)
theorem ar_am {a0 a1 b0 b1 c0 c1 : Int} (h0 : Co a0) (h1 : Co a1) (h2 : Co b0) (h3 : Co b1) (h4 : Co c0) (h5 : Co c1) : Am (ar a0 a1 b0 b1 c0 c1) 9671406556917033397649408 :=
 ((Am.mul (h2.way h0) (h5.way h1)).sub (Am.mul (h3.way h1) (h4.way h0))).mono (by omega)
theorem ds_am {a0 a1 b0 b1 : Int} (h0 : Co a0) (h1 : Co a1) (h2 : Co b0) (h3 : Co b1) : Am (ds a0 a1 b0 b1) 9671406556917033397649408 :=
 ((Am.mul (h2.way h0) (h2.way h0)).add (Am.mul (h3.way h1) (h3.way h1))).mono (by omega)
theorem cross_am {x0 x1 y0 y1 : Int} (h0 : Am x0 2199023255552) (h1 : Am x1 2199023255552) (h2 : Am y0 2199023255552) (h3 : Am y1 2199023255552) : Am (x0 * y1 - x1 * y0) 9671406556917033397649408 :=
 ((Am.mul h0 h3).sub (Am.mul h1 h2)).mono (by omega)
theorem square_am {x0 x1 : Int} (h0 : Am x0 2199023255552) (h1 : Am x1 2199023255552) : Am (x0 * x0 + x1 * x1) 9671406556917033397649408 :=
 ((Am.mul h0 h0).add (Am.mul h1 h1)).mono (by omega)
theorem dt_am {a0 a1 b0 b1 c0 c1 d0 d1 : Int} (h0 : Co a0) (h1 : Co a1) (h2 : Co b0) (h3 : Co b1) (h4 : Co c0) (h5 : Co c1) (h6 : Co d0) (h7 : Co d1) : Am (dt a0 a1 b0 b1 c0 c1 d0 d1) 280608314367533360295107487881526339773939048251392 :=
 (((Am.mul (square_am (h0.way h6) (h1.way h7)) (cross_am (h2.way h6) (h3.way h7) (h4.way h6) (h5.way h7))).add (Am.mul (square_am (h2.way h6) (h3.way h7)) (cross_am (h4.way h6) (h5.way h7) (h0.way h6) (h1.way h7)))).add
  (Am.mul (square_am (h4.way h6) (h5.way h7)) (cross_am (h0.way h6) (h1.way h7) (h2.way h6) (h3.way h7)))).mono (by omega)
end Go.Proofs.Ytmeckkckjikjiaa.Pm
end
section
namespace Go.Proofs.Ytmeckkckjikjiaa.F
open RowKit YtmeckkckjikjiaaW.PrintWords YtmeckkckjikjiaaW.PrintLast YtmeckkckjikjiaaW.PrintMore
set_option linter.unusedVariables false
set_option linter.unusedSimpArgs false
def lift_within.f (a0 : Int) : Option (Bool) := if a0 ≥ (-1099511627776) then (some (decide (a0 ≤ 1099511627776))) else (some false)
set_option maxHeartbeats 8000000 in
set_option maxRecDepth 100000 in
theorem lift_within.calls (a0 : Int) (r : Bool) (w : World) (h : lift_within.f a0 = some r) :
  Calls Try.prog 73 #[.int .i64 a0] w fun e w' => e = .returned (.bool r) ∧ Drawn0 w w' := by
 have H : (if a0 ≥ (-1099511627776) then (some (decide (a0 ≤ 1099511627776))) else (some false)) = some r := h
 clear h
 by_cases c2 : a0 ≥ (-1099511627776)
 ·rw [if_pos c2] at H
  have c2b0 : decide ((-1099511627776) ≤ a0) = true := decide_eq_true c2
  clear c2
  obtain rfl := Option.some.inj H
  go_enter Try.func73, Try.ntmps73
  go_wp2
  go_ret
  exact ⟨by first | rfl | (simp; done) | (simp [*]; done), by repeat (first | exact Drawn0.refl _ | apply Drawn0.step)⟩
 ·rw [if_neg c2] at H
  have c2b0 : decide ((-1099511627776) ≤ a0) = false := decide_eq_false c2
  clear c2
  obtain rfl := Option.some.inj H
  go_enter Try.func73, Try.ntmps73
  go_wp2
  go_ret
  exact ⟨by first | rfl | (simp; done) | (simp [*]; done), by repeat (first | exact Drawn0.refl _ | apply Drawn0.step)⟩
end Go.Proofs.Ytmeckkckjikjiaa.F
end
section
namespace Go.Proofs.Ytmeckkckjikjiaa.F
open RowKit YtmeckkckjikjiaaW.PrintWords YtmeckkckjikjiaaW.PrintLast YtmeckkckjikjiaaW.PrintMore
set_option linter.unusedVariables false
set_option linter.unusedSimpArgs false
def lift_can.f (a0_0 : Int) (a0_1 : Int) : Option (Bool) := (lift_within.f a0_0).bind fun t102 => (if t102 = true then ((lift_within.f a0_1).bind fun t103 => (some t103)) else (some false))
set_option maxHeartbeats 8000000 in
set_option maxRecDepth 100000 in
theorem lift_can.calls (a0_0 : Int) (a0_1 : Int) (r : Bool) (w : World) (h : lift_can.f a0_0 a0_1 = some r) :
  Calls Try.prog 66 #[.agg #[.int .i64 a0_0, .int .i64 a0_1]] w fun e w' => e = .returned (.bool r) ∧ Below w.heap.size w w' := by
 have hu23 := Try.underlying23
 have HB := Aside0.mk (Below.refl w.heap.size w)
 have H : ((lift_within.f a0_0).bind fun t102 => (if t102 = true then ((lift_within.f a0_1).bind fun t103 => (some t103)) else (some false))) = some r := h
 clear h
 replace H := Option.bind_eq_some_iff.mp H
 obtain ⟨t102, A20, H⟩ := H
 try dsimp only at H
 have A2 := Aside0.mk A20
 clear A20
 by_cases c3 : t102 = true
 ·subst c3
  rw [if_pos rfl] at H
  replace H := Option.bind_eq_some_iff.mp H
  obtain ⟨t103, A40, H⟩ := H
  try dsimp only at H
  have A4 := Aside0.mk A40
  clear A40
  obtain rfl := Option.some.inj H
  go_enter Try.func66, Try.ntmps66
  go_wp2_with (first | ((with_reducible refine gate_dst (N := 1) rfl ?_); refine bx 1 #[.int .i64 a0_0, .int .i64 a0_1] 23 ?_; intro gb101 hg w5 hbox hb; have BK101 := Aside0.mk hbox; have GW101 := u3 hg HB; have GE101 := u3 hg HB; replace HB := u2 HB hb; clear hb hbox hg; obtain ⟨_, _, _, _⟩ := p2 BK101) | ((with_reducible refine gate_callee (f := 73) rfl ?_); refine gL (some 5) Try.func73 #[.int .i64 a0_0] rfl ?_; (with_reducible refine (lift_within.calls a0_0 true _ A2.out).mono ?_); rintro e w' ⟨rfl, ⟨nd, rfl⟩⟩; refine ⟨_, rfl, ?_⟩) | (go_at_call 73; (with_reducible refine (lift_within.calls a0_1 t103 _ A4.out).mono ?_); rintro e w' ⟨rfl, ⟨nd, rfl⟩⟩))
  go_ret
  exact ⟨by first | rfl | (simp [*, errW_none, errW_some] <;> rfl), bw HB.out⟩
 ·replace c3 := Bool.eq_false_iff.mpr c3
  subst c3
  rw [if_neg (show ¬ (false = true) by decide)] at H
  obtain rfl := Option.some.inj H
  go_enter Try.func66, Try.ntmps66
  go_wp2_with (first | ((with_reducible refine gate_dst (N := 1) rfl ?_); refine bx 1 #[.int .i64 a0_0, .int .i64 a0_1] 23 ?_; intro gb101 hg w7 hbox hb; have BK101 := Aside0.mk hbox; have GW101 := u3 hg HB; have GE101 := u3 hg HB; replace HB := u2 HB hb; clear hb hbox hg; obtain ⟨_, _, _, _⟩ := p2 BK101) | ((with_reducible refine gate_callee (f := 73) rfl ?_); refine gL (some 5) Try.func73 #[.int .i64 a0_0] rfl ?_; (with_reducible refine (lift_within.calls a0_0 false _ A2.out).mono ?_); rintro e w' ⟨rfl, ⟨nd, rfl⟩⟩; refine ⟨_, rfl, ?_⟩))
  go_ret
  exact ⟨by first | rfl | (simp [*, errW_none, errW_some] <;> rfl), bw HB.out⟩
end Go.Proofs.Ytmeckkckjikjiaa.F
end
section
namespace Go.Proofs.Ytmeckkckjikjiaa.F
open RowKit YtmeckkckjikjiaaW.PrintWords YtmeckkckjikjiaaW.PrintLast YtmeckkckjikjiaaW.PrintMore
set_option linter.unusedVariables false
set_option linter.unusedSimpArgs false
def lift_Can.f (a0_0 : Int) (a0_1 : Int) : Option (Bool) := (lift_can.f a0_0 a0_1).bind fun t105 => (some t105)
set_option maxHeartbeats 8000000 in
set_option maxRecDepth 100000 in
theorem lift_Can.calls (a0_0 : Int) (a0_1 : Int) (r : Bool) (w : World) (h : lift_Can.f a0_0 a0_1 = some r) :
  Calls Try.prog 43 #[.agg #[.int .i64 a0_0, .int .i64 a0_1]] w fun e w' => e = .returned (.bool r) ∧ Below w.heap.size w w' := by
 have hu23 := Try.underlying23
 have HB := Aside0.mk (Below.refl w.heap.size w)
 have H : ((lift_can.f a0_0 a0_1).bind fun t105 => (some t105)) = some r := h
 clear h
 replace H := Option.bind_eq_some_iff.mp H
 obtain ⟨t105, A20, H⟩ := H
 try dsimp only at H
 have A2 := Aside0.mk A20
 clear A20
 obtain rfl := Option.some.inj H
 go_enter Try.func43, Try.ntmps43
 go_wp2_with (first | ((with_reducible refine gate_dst (N := 1) rfl ?_); refine bx 1 #[.int .i64 a0_0, .int .i64 a0_1] 23 ?_; intro gb104 hg w3 hbox hb; have BK104 := Aside0.mk hbox; have GW104 := u3 hg HB; have GE104 := u3 hg HB; replace HB := u2 HB hb; clear hb hbox hg; obtain ⟨_, _, _, _⟩ := p2 BK104) | ((with_reducible refine gate_callee (f := 66) rfl ?_); refine gL (some 4) Try.func66 #[.agg #[.int .i64 a0_0, .int .i64 a0_1]] rfl ?_; (with_reducible refine (lift_can.calls a0_0 a0_1 t105 _ A2.out).mono ?_); rintro e w5 ⟨rfl, hb⟩; refine ⟨_, rfl, ?_⟩; replace BK104 := u1 BK104 hb; replace HB := u2 HB hb; clear hb))
 go_ret
 exact ⟨by first | rfl | (simp [*, errW_none, errW_some] <;> rfl), bw HB.out⟩
end Go.Proofs.Ytmeckkckjikjiaa.F
end
section
namespace Go.Proofs.Ytmeckkckjikjiaa.F
open RowKit YtmeckkckjikjiaaW.PrintWords YtmeckkckjikjiaaW.PrintLast YtmeckkckjikjiaaW.PrintMore
set_option linter.unusedVariables false
set_option linter.unusedSimpArgs false
def pred_can.l0 : Nat → List (S23) → Int → Int → Option (Bool)
 | 0, _, _, _ => none
 | k + 1, x5, x6, x7 => if x7 < x6 then (if 0 ≤ x7 then (if x7 < (x5.length : Int) then ((lift_Can.f ((rd_T23 x5 x7).f0) ((rd_T23 x5 x7).f1)).bind fun t108 => (if t108 = true then (pred_can.l0 k x5 x6 (wrap64 (x7 + 1))) else (some false))) else (none)) else (none)) else (some true)
def pred_can.f (k : Nat) (l0 : List (S23)) : Option (Bool) := pred_can.l0 k l0 (l0.length : Int) 0
theorem pred_can.mono_l : ∀ k, (∀ y0 y1 y2, LeO (pred_can.l0 k y0 y1 y2) (pred_can.l0 (k + 1) y0 y1 y2))
 | 0 => fun _ _ _ r h => by simp [pred_can.l0] at h
 | k + 1 => by
  have ih0 := pred_can.mono_l k
  ·intro y0 y1 y2
   unfold pred_can.l0
   repeat' first
   | (with_reducible exact ih0 _ _ _)
   | (with_reducible exact LeO.refl _)
   | (with_reducible exact LeO.none _)
   | (with_reducible refine LeO.ite ?_ ?_)
   | (with_reducible refine LeO.bind ?_ (fun _ => ?_))
   | exact ih0 _ _ _
   | exact LeO.none _
   | refine LeO.ite ?_ ?_
   | refine LeO.bind ?_ (fun _ => ?_)
theorem pred_can.mono : ∀ a0 k, LeO (pred_can.f k a0) (pred_can.f (k + 1) a0) := by
 intro a0 k
 have ih0 := pred_can.mono_l k
 unfold pred_can.f
 repeat' first
   | (with_reducible exact ih0 _ _ _)
   | (with_reducible exact LeO.refl _)
   | (with_reducible exact LeO.none _)
   | (with_reducible refine LeO.ite ?_ ?_)
   | (with_reducible refine LeO.bind ?_ (fun _ => ?_))
   | exact ih0 _ _ _
   | exact LeO.none _
   | refine LeO.ite ?_ ?_
   | refine LeO.bind ?_ (fun _ => ?_)
set_option maxHeartbeats 8000000 in
set_option maxRecDepth 100000 in
theorem pred_can.calls (k : Nat) (A0 : Option Addr) (c0 : Nat) (l0 : List (S23)) (r : Bool) (w : World) (hr0 : Kd.C k23 w A0 l0.length l0) (hc0 : l0.length ≤ c0) (h : pred_can.f k l0 = some r) :
  Calls Try.prog 23 #[.slice A0 l0.length c0] w fun e w' => e = .returned (.bool r) ∧ Below w.heap.size w w' := by
 have hu23 := Try.underlying23
 have HR0 := Aside0.mk hr0
 have HC0 := Aside0.mk hc0
 clear hr0 hc0
 have HB := Aside0.mk (Below.refl w.heap.size w)
 have H : (pred_can.l0 k l0 (l0.length : Int) 0) = some r := h
 clear h
 have H' := Aside0.mk H
 clear H
 go_enter Try.func23, Try.ntmps23
 go_wp2
 go_loopg [7] k (fun kq v7 w' => ∃ (x7_1 : Int), v7 = .int .i64 x7_1 ∧ Aside0 (pred_can.l0 kq l0 (l0.length : Int) x7_1 = some r) ∧ Aside0 (kq ≤ k) ∧ Aside0 (Below w.heap.size w w'))
 case atStart => exact ⟨(0), (by first | rfl | (simp; done) | (simp [*]; done)), H', ⟨Nat.le_refl _⟩, ⟨bw HB.out⟩⟩
 case round =>
  clear H'
  obtain ⟨x7_1, rfl, HA, HK1, HB⟩ := hrel
  cases gk with
  | zero => exact absurd HA.out (by simp [pred_can.l0])
  | succ k1 =>
   have H := HA.out
   clear HA
   simp only [pred_can.l0] at H
   by_cases c2 : x7_1 < (l0.length : Int)
   ·rw [if_pos c2] at H
    have c2b0 : decide (x7_1 < (l0.length : Int)) = true := decide_eq_true c2
    clear c2
    by_cases c3 : 0 ≤ x7_1
    ·rw [if_pos c3] at H
     have c3b0 : decide (0 ≤ x7_1) = true := decide_eq_true c3
     clear c3
     by_cases c4 : x7_1 < (l0.length : Int)
     ·rw [if_pos c4] at H
      have c4b0 : decide (x7_1 < (l0.length : Int)) = true := decide_eq_true c4
      clear c4
      replace H := Option.bind_eq_some_iff.mp H
      obtain ⟨t108, A50, H⟩ := H
      try dsimp only at H
      have A5 := Aside0.mk A50
      clear A50
      by_cases c6 : t108 = true
      ·subst c6
       rw [if_pos rfl] at H
       have H' := Aside0.mk H
       clear H
       have p106 : 0 ≤ (x7_1 : Int) := dt_
       have q106 : x7_1 < (l0.length : Int) := dt_
       obtain ⟨ad106, e106, hx106_0, hx106_1⟩ := at_T23 HR0.out x7_1 p106 q106
       cases e106
       replace hx106_0 := (HB.out.cell (World.block_lt_of_cell? w _ hx106_0)).trans hx106_0
       replace hx106_1 := (HB.out.cell (World.block_lt_of_cell? w _ hx106_1)).trans hx106_1
       replace p106 := eq_true p106
       replace q106 := eq_true q106
       go_wp2_with (first | ((with_reducible refine gate_dst (N := 4) rfl ?_); refine box_event ?hg (N := 4) ?hd (cs := #[.int .i64 0, .int .i64 0]) (t := 23) ?hr ?_; (case hd => rfl); (case hg => rfl); (case hr => first | (go_simp; done) | (go_simp; rfl)); intro gb107 hg w7 hbox hb; have n0_ := Aside0.mk (below_step (by repeat (first | (with_reducible first | exact HB.out | apply below_alloc | apply pw_below_drewN | apply below_drew1) | exact HB.out)) hb); have n1_ := Aside0.mk hbox; have n2_ := Aside0.mk ((by rw [hg]; exact (below_size (by repeat (first | (with_reducible first | exact HB.out | apply below_alloc | apply pw_below_drewN | apply below_drew1) | exact HB.out))) : w.heap.size ≤ gb107)); have n3_ := Aside0.mk ((by rw [hg]; exact (below_size (by repeat (first | (with_reducible first | exact HB.out | apply below_alloc | apply pw_below_drewN | apply below_drew1) | exact HB.out))) : w.heap.size ≤ gb107)); clear HB; have HB := n0_; have BK107 := n1_; have GW107 := n2_; have GE107 := n3_; clear n0_ n1_ n2_ n3_; clear hb hbox hg; obtain ⟨_, _, _, _⟩ := p2 BK107) | ((with_reducible refine gate_callee (f := 43) rfl ?_); refine goesL_ (some 12) rfl rfl Try.func43 (by kernel_rfl) rfl #[.agg #[.int .i64 ((rd_T23 l0 x7_1).f0), .int .i64 ((rd_T23 l0 x7_1).f1)]] rfl (by (try simp only [List.map_toArray, List.map_cons, List.map_nil]); first | done | rfl | (simp only [List.length_drop, List.length_take]; rfl)) ?_; (with_reducible refine (lift_Can.calls ((rd_T23 l0 x7_1).f0) ((rd_T23 l0 x7_1).f1) true _ A5.out).mono ?_); rintro e w9 ⟨rfl, hb⟩; refine ⟨_, rfl, ?_⟩; have n0_ := Aside0.mk (blk_below (g := gb107) (o := .cells #[.int .i64 ((rd_T23 l0 x7_1).f0), .int .i64 ((rd_T23 l0 x7_1).f1)] 23 (0, 0)) (by (with_reducible repeat (first | refine blk_drewN ?_ _ | refine blk_drew ?_ | refine blk_alloc ?_ _)); refine blk_put (cs := #[.int .i64 ((rd_T23 l0 x7_1).f0), .int .i64 0]) ?_ 1 _ rfl; (with_reducible repeat (first | refine blk_drewN ?_ _ | refine blk_drew ?_ | refine blk_alloc ?_ _)); refine blk_put (cs := #[.int .i64 0, .int .i64 0]) ?_ 0 _ rfl; (with_reducible repeat (first | refine blk_drewN ?_ _ | refine blk_drew ?_ | refine blk_alloc ?_ _)); exact BK107.out) hb); have n1_ := Aside0.mk (below_step (by repeat (first | (with_reducible first | exact HB.out | apply below_alloc | apply pw_below_drewN | apply below_drew1 | refine below_set ?_ GE107.out) | exact HB.out)) hb); clear BK107; clear HB; have BK107 := n0_; have HB := n1_; clear n0_ n1_; clear hb))
       go_roundg k1
       case measure => have := HK1.out; omega
       case rel => exact ⟨(wrap64 (x7_1 + 1)), (by first | rfl | (simp; done) | (simp [*]; done)), H', ⟨by have := HK1.out; omega⟩, ⟨bw HB.out⟩⟩
      ·replace c6 := Bool.eq_false_iff.mpr c6
       subst c6
       rw [if_neg (show ¬ (false = true) by decide)] at H
       obtain rfl := Option.some.inj H
       have p106 : 0 ≤ (x7_1 : Int) := dt_
       have q106 : x7_1 < (l0.length : Int) := dt_
       obtain ⟨ad106, e106, hx106_0, hx106_1⟩ := at_T23 HR0.out x7_1 p106 q106
       cases e106
       replace hx106_0 := (HB.out.cell (World.block_lt_of_cell? w _ hx106_0)).trans hx106_0
       replace hx106_1 := (HB.out.cell (World.block_lt_of_cell? w _ hx106_1)).trans hx106_1
       replace p106 := eq_true p106
       replace q106 := eq_true q106
       go_wp2_with (first | ((with_reducible refine gate_dst (N := 4) rfl ?_); refine box_event ?hg (N := 4) ?hd (cs := #[.int .i64 0, .int .i64 0]) (t := 23) ?hr ?_; (case hd => rfl); (case hg => rfl); (case hr => first | (go_simp; done) | (go_simp; rfl)); intro gb107 hg w10 hbox hb; have n0_ := Aside0.mk (below_step (by repeat (first | (with_reducible first | exact HB.out | apply below_alloc | apply pw_below_drewN | apply below_drew1) | exact HB.out)) hb); have n1_ := Aside0.mk hbox; have n2_ := Aside0.mk ((by rw [hg]; exact (below_size (by repeat (first | (with_reducible first | exact HB.out | apply below_alloc | apply pw_below_drewN | apply below_drew1) | exact HB.out))) : w.heap.size ≤ gb107)); have n3_ := Aside0.mk ((by rw [hg]; exact (below_size (by repeat (first | (with_reducible first | exact HB.out | apply below_alloc | apply pw_below_drewN | apply below_drew1) | exact HB.out))) : w.heap.size ≤ gb107)); clear HB; have HB := n0_; have BK107 := n1_; have GW107 := n2_; have GE107 := n3_; clear n0_ n1_ n2_ n3_; clear hb hbox hg; obtain ⟨_, _, _, _⟩ := p2 BK107) | ((with_reducible refine gate_callee (f := 43) rfl ?_); refine goesL_ (some 12) rfl rfl Try.func43 (by kernel_rfl) rfl #[.agg #[.int .i64 ((rd_T23 l0 x7_1).f0), .int .i64 ((rd_T23 l0 x7_1).f1)]] rfl (by (try simp only [List.map_toArray, List.map_cons, List.map_nil]); first | done | rfl | (simp only [List.length_drop, List.length_take]; rfl)) ?_; (with_reducible refine (lift_Can.calls ((rd_T23 l0 x7_1).f0) ((rd_T23 l0 x7_1).f1) false _ A5.out).mono ?_); rintro e w12 ⟨rfl, hb⟩; refine ⟨_, rfl, ?_⟩; have n0_ := Aside0.mk (blk_below (g := gb107) (o := .cells #[.int .i64 ((rd_T23 l0 x7_1).f0), .int .i64 ((rd_T23 l0 x7_1).f1)] 23 (0, 0)) (by (with_reducible repeat (first | refine blk_drewN ?_ _ | refine blk_drew ?_ | refine blk_alloc ?_ _)); refine blk_put (cs := #[.int .i64 ((rd_T23 l0 x7_1).f0), .int .i64 0]) ?_ 1 _ rfl; (with_reducible repeat (first | refine blk_drewN ?_ _ | refine blk_drew ?_ | refine blk_alloc ?_ _)); refine blk_put (cs := #[.int .i64 0, .int .i64 0]) ?_ 0 _ rfl; (with_reducible repeat (first | refine blk_drewN ?_ _ | refine blk_drew ?_ | refine blk_alloc ?_ _)); exact BK107.out) hb); have n1_ := Aside0.mk (below_step (by repeat (first | (with_reducible first | exact HB.out | apply below_alloc | apply pw_below_drewN | apply below_drew1 | refine below_set ?_ GE107.out) | exact HB.out)) hb); clear BK107; clear HB; have BK107 := n0_; have HB := n1_; clear n0_ n1_; clear hb))
       go_ret
       exact ⟨by first | rfl | (simp [*, errW_none, errW_some] <;> rfl), bw HB.out⟩
     ·rw [if_neg c4] at H
      exact absurd H (by simp)
    ·rw [if_neg c3] at H
     exact absurd H (by simp)
   ·rw [if_neg c2] at H
    have c2b0 : decide (x7_1 < (l0.length : Int)) = false := decide_eq_false c2
    clear c2
    obtain rfl := Option.some.inj H
    go_wp2
    go_ret
    exact ⟨by first | rfl | (simp [*, errW_none, errW_some] <;> rfl), bw HB.out⟩
end Go.Proofs.Ytmeckkckjikjiaa.F
end
section
namespace Go.Proofs.Ytmeckkckjikjiaa.F
open RowKit YtmeckkckjikjiaaW.PrintWords YtmeckkckjikjiaaW.PrintLast YtmeckkckjikjiaaW.PrintMore
set_option linter.unusedVariables false
set_option linter.unusedSimpArgs false
def pred_way.f (a0_0 : Int) (a0_1 : Int) (a1_0 : Int) (a1_1 : Int) : Option (Int × Int) := some (wrap64 (a1_0 - a0_0), wrap64 (a1_1 - a0_1))
set_option maxHeartbeats 8000000 in
set_option maxRecDepth 100000 in
theorem pred_way.calls (a0_0 : Int) (a0_1 : Int) (a1_0 : Int) (a1_1 : Int) (r1 : Int) (r2 : Int) (w : World) (h : pred_way.f a0_0 a0_1 a1_0 a1_1 = some (r1, r2)) :
  Calls Try.prog 24 #[.agg #[.int .i64 a0_0, .int .i64 a0_1], .agg #[.int .i64 a1_0, .int .i64 a1_1]] w fun e w' => e = .returned (.agg #[.int .i64 r1, .int .i64 r2]) ∧ Below w.heap.size w w' := by
 have hu23 := Try.underlying23
 have HB := Aside0.mk (Below.refl w.heap.size w)
 have H : (some (wrap64 (a1_0 - a0_0), wrap64 (a1_1 - a0_1))) = some (r1, r2) := h
 clear h
 simp only [Option.some.injEq, Prod.mk.injEq] at H
 obtain ⟨rfl, rfl⟩ := H
 go_enter Try.func24, Try.ntmps24
 go_wp2_with (first | ((with_reducible refine gate_dst (N := 2) rfl ?_); refine bx 2 #[.int .i64 a0_0, .int .i64 a0_1] 23 ?_; intro gb109 hg w3 hbox hb; have BK109 := Aside0.mk hbox; have GW109 := u3 hg HB; have GE109 := u3 hg HB; replace HB := u2 HB hb; clear hb hbox hg) | ((with_reducible refine gate_dst (N := 3) rfl ?_); refine bx 3 #[.int .i64 a1_0, .int .i64 a1_1] 23 ?_; intro gb110 hg w4 hbox hb; have BK110 := Aside0.mk hbox; have GW110 := u3 hg HB; have GE110 := u3 hg HB; have NB109_110 := u4 hg BK109; have NB110_109 := u5 hg BK109; replace BK109 := u1 BK109 hb; replace HB := u2 HB hb; clear hb hbox hg) | ((with_reducible refine gate_dst (N := 4) rfl ?_); refine bx 4 #[.int .i64 0, .int .i64 0] 23 ?_; intro gb111 hg w5 hbox hb; have BK111 := Aside0.mk hbox; have GW111 := u3 hg HB; have GE111 := u3 hg HB; have NB109_111 := u4 hg BK109; have NB111_109 := u5 hg BK109; have NB110_111 := u4 hg BK110; have NB111_110 := u5 hg BK110; replace BK109 := u1 BK109 hb; replace BK110 := u1 BK110 hb; replace HB := u2 HB hb; clear hb hbox hg; have hnb6 := NB110_109.out; have hnc6 := NB109_110.out; have hnb7 := NB110_111.out; have hnc7 := NB111_110.out; obtain ⟨_, _, _, _⟩ := p2 BK110; have hnb9 := NB109_111.out; have hnc9 := NB111_109.out; obtain ⟨_, _, _, _⟩ := p2 BK109; obtain ⟨_, _, _, _⟩ := p2 BK111))
 refine bodyPost_ret (results_cell_row rfl _ _ gb111 23 #[.int .i64 (wrap64 (a1_0 - a0_0)), .int .i64 (wrap64 (a1_1 - a0_1))] (0, 0) _ rfl (by (with_reducible repeat (first | refine blk_drewN ?_ _ | refine blk_drew ?_ | refine blk_alloc ?_ _)); refine blk_put (cs := #[.int .i64 (wrap64 (a1_0 - a0_0)), .int .i64 0]) ?_ 1 _ rfl; refine blk_put (cs := #[.int .i64 0, .int .i64 0]) ?_ 0 _ rfl; (with_reducible repeat (first | refine blk_drewN ?_ _ | refine blk_drew ?_ | refine blk_alloc ?_ _)); exact BK111.out) Try.underlying23 rfl (by kernel_rfl)) rfl ?_
 exact ⟨by first | rfl | (simp [*, errW_none, errW_some] <;> rfl), by repeat (first | (with_reducible first | exact HB.out | apply below_alloc | apply pw_below_drewN | apply below_drew1 | refine below_set ?_ GE109.out | refine below_set ?_ GE110.out | refine below_set ?_ GE111.out) | exact HB.out)⟩
end Go.Proofs.Ytmeckkckjikjiaa.F
end
section
namespace Go.Proofs.Ytmeckkckjikjiaa.F
open RowKit YtmeckkckjikjiaaW.PrintWords YtmeckkckjikjiaaW.PrintLast YtmeckkckjikjiaaW.PrintMore
set_option linter.unusedVariables false
set_option linter.unusedSimpArgs false
def pred_across.f (a0_0 : Int) (a0_1 : Int) (a1_0 : Int) (a1_1 : Int) : Option (Int × Int) := (wide_Mul.f a0_0 a1_1).bind fun bt147 => ((wide_Mul.f a0_1 a1_0).bind fun bt149 => ((wide_Sub.f bt147.1 bt147.2 bt149.1 bt149.2).bind fun bt151 => (some (bt151.1, bt151.2))))
def pred_across.T1 : Bool × List (List Nat × List Nat) := (true, [([], []), ([0], [0]), ([], []), ([2], [2]), ([1, 3], [1, 3]), ([], []), ([5], [5]), ([], []), ([7], [7]), ([6, 8, 4], [6, 8]), ([4, 9, 9], [4, 9]), ([10, 10, 0, 1, 2, 3, 4, 5, 6, 7, 8, 9, 10], [10])])
def pred_across.B1 : List Nat := [0, 1, 0, 4, 15, 0, 32, 0, 128, 511, 1023, 2047]
theorem pred_across.tab1 : rtab .any (opsOf Try.f27 1) = pred_across.T1 := by kernel_rfl
theorem pred_across.bits1 : waitsOk pred_across.T1.2 pred_across.B1 = true := by kernel_rfl
set_option maxHeartbeats 8000000 in
set_option maxRecDepth 100000 in
theorem pred_across.calls (a0_0 : Int) (a0_1 : Int) (a1_0 : Int) (a1_1 : Int) (r1 : Int) (r2 : Int) (w : World) (h : pred_across.f a0_0 a0_1 a1_0 a1_1 = some (r1, r2)) :
  Calls Try.prog 27 #[.agg #[.int .i64 a0_0, .int .i64 a0_1], .agg #[.int .i64 a1_0, .int .i64 a1_1]] w fun e w' => e = .returned (.agg #[.int .i64 r1, .int .u64 r2]) ∧ Below w.heap.size w w' := by
 have hu23 := Try.underlying23
 have hu37 := Try.underlying37
 have HB := Aside0.mk (Below.refl w.heap.size w)
 have H : ((wide_Mul.f a0_0 a1_1).bind fun bt147 => ((wide_Mul.f a0_1 a1_0).bind fun bt149 => ((wide_Sub.f bt147.1 bt147.2 bt149.1 bt149.2).bind fun bt151 => (some (bt151.1, bt151.2))))) = some (r1, r2) := h
 clear h
 replace H := Option.bind_eq_some_iff.mp H
 obtain ⟨⟨t147, t148⟩, A30, H⟩ := H
 try dsimp only at H
 have A3 := Aside0.mk A30
 clear A30
 replace H := Option.bind_eq_some_iff.mp H
 obtain ⟨⟨t149, t150⟩, A40, H⟩ := H
 try dsimp only at H
 have A4 := Aside0.mk A40
 clear A40
 replace H := Option.bind_eq_some_iff.mp H
 obtain ⟨⟨t151, t152⟩, A50, H⟩ := H
 try dsimp only at H
 have A5 := Aside0.mk A50
 clear A50
 simp only [Option.some.injEq, Prod.mk.injEq] at H
 obtain ⟨rfl, rfl⟩ := H
 go_enter Try.func27, Try.ntmps27
 try go_wp2_with (first | ((with_reducible refine gate_dst (N := 2) rfl ?_); refine bx 2 #[.int .i64 a0_0, .int .i64 a0_1] 23 ?_; intro gb144 hg w6 hbox hb; have BK144 := Aside0.mk hbox; have GW144 := u3 hg HB; have GE144 := u3 hg HB; replace HB := u2 HB hb; clear hb hbox hg) | ((with_reducible refine gate_dst (N := 3) rfl ?_); refine bx 3 #[.int .i64 a1_0, .int .i64 a1_1] 23 ?_; intro gb145 hg w7 hbox hb; have BK145 := Aside0.mk hbox; have GW145 := u3 hg HB; have GE145 := u3 hg HB; have NB144_145 := u4 hg BK144; have NB145_144 := u5 hg BK144; replace BK144 := u1 BK144 hb; replace HB := u2 HB hb; clear hb hbox hg) | ((with_reducible refine gate_dst (N := 4) rfl ?_); refine bx 4 #[.int .i64 0, .int .u64 0] 37 ?_; intro gb146 hg w8 hbox hb; have BK146 := Aside0.mk hbox; have GW146 := u3 hg HB; have GE146 := u3 hg HB; have NB144_146 := u4 hg BK144; have NB146_144 := u5 hg BK144; have NB145_146 := u4 hg BK145; have NB146_145 := u5 hg BK145; replace BK144 := u1 BK144 hb; replace BK145 := u1 BK145 hb; replace HB := u2 HB hb; clear hb hbox hg))
 have n0_ := Aside0.mk (blk_drew BK144.out)
 have n1_ := Aside0.mk (blk_drew BK145.out)
 have n2_ := Aside0.mk (blk_drew BK146.out)
 have n3_ := Aside0.mk (below_drew1 HB.out)
 clear BK144
 clear BK145
 clear BK146
 clear HB
 have BK144 := n0_
 have BK145 := n1_
 have BK146 := n2_
 have HB := n3_
 clear n0_ n1_ n2_ n3_
 refine start_ (n := 12) (S := fun w' => w'.cell? ⟨gb144, 0, none⟩ = some (.int .i64 a0_0) ∧ w'.cell? ⟨gb144, 1, none⟩ = some (.int .i64 a0_1) ∧ w'.cell? ⟨gb145, 0, none⟩ = some (.int .i64 a1_0) ∧ w'.cell? ⟨gb145, 1, none⟩ = some (.int .i64 a1_1)) (ds := []) #[F_,F_,F_,F_,F_,F_,F_,F_,F_,F_,F_,F_] (by kernel_rfl) rfl rfl ⟨(p2 BK144).1, (p2 BK144).2.1, (p2 BK145).1, (p2 BK145).2.1⟩ (fun hHeld => ?_); refine with_tabW pred_across.tab1 pred_across.bits1 (fun HT_ HW_ => ?_)
 generalize w8.drew = w9 at BK144 BK145 BK146 HB hHeld ⊢
 refine pA (i := 0) (N := some 5) (v := ?_) (a' := ?_) #[T_,F_,F_,F_,F_,F_,F_,F_,F_,F_,F_,F_] rfl rfl HT_ (Or.inl ⟨by rfl, ?_⟩) ?_ ?_
 rotate_left
 ·intro w'
  go_simp
  with_reducible rfl
 rotate_left
 ·simp only [Act.put, s1, s2, s3, i64_w, i32_w]
  rfl
 refine pA (i := 2) (N := some 7) (v := ?_) (a' := ?_) #[T_,F_,T_,F_,F_,F_,F_,F_,F_,F_,F_,F_] rfl rfl HT_ (Or.inl ⟨by rfl, ?_⟩) ?_ ?_
 rotate_left
 ·intro w'
  go_simp
  with_reducible rfl
 rotate_left
 ·simp only [Act.put, s1, s2, s3, i64_w, i32_w]
  rfl
 refine pA (i := 5) (N := some 10) (v := ?_) (a' := ?_) #[T_,F_,T_,F_,F_,T_,F_,F_,F_,F_,F_,F_] rfl rfl HT_ (Or.inl ⟨by rfl, ?_⟩) ?_ ?_
 rotate_left
 ·intro w'
  go_simp
  with_reducible rfl
 rotate_left
 ·simp only [Act.put, s1, s2, s3, i64_w, i32_w]
  rfl
 refine pA (i := 7) (N := some 12) (v := ?_) (a' := ?_) #[T_,F_,T_,F_,F_,T_,F_,T_,F_,F_,F_,F_] rfl rfl HT_ (Or.inl ⟨by rfl, ?_⟩) ?_ ?_
 rotate_left
 ·intro w'
  go_simp
  with_reducible rfl
 rotate_left
 ·simp only [Act.put, s1, s2, s3, i64_w, i32_w]
  rfl
 refine tA (i := 1) (N := some 6) (v := ?_) (a' := ?_) #[T_,T_,T_,F_,F_,T_,F_,T_,F_,F_,F_,F_] rfl rfl HT_ HW_ (Or.inl ⟨by rfl, ?_⟩) hHeld ?_ ?_
 rotate_left
 ·rintro w' ⟨s0, s1, s2, s3⟩
  go_simp
  with_reducible rfl
 rotate_left
 ·simp only [Act.put, s1, s2, s3, i64_w, i32_w]
  rfl
 refine tA (i := 3) (N := some 8) (v := ?_) (a' := ?_) #[T_,T_,T_,T_,F_,T_,F_,T_,F_,F_,F_,F_] rfl rfl HT_ HW_ (Or.inl ⟨by rfl, ?_⟩) hHeld ?_ ?_
 rotate_left
 ·rintro w' ⟨s0, s1, s2, s3⟩
  go_simp
  with_reducible rfl
 rotate_left
 ·simp only [Act.put, s1, s2, s3, i64_w, i32_w]
  rfl
 refine tA (i := 6) (N := some 11) (v := ?_) (a' := ?_) #[T_,T_,T_,T_,F_,T_,T_,T_,F_,F_,F_,F_] rfl rfl HT_ HW_ (Or.inl ⟨by rfl, ?_⟩) hHeld ?_ ?_
 rotate_left
 ·rintro w' ⟨s0, s1, s2, s3⟩
  go_simp
  with_reducible rfl
 rotate_left
 ·simp only [Act.put, s1, s2, s3, i64_w, i32_w]
  rfl
 refine tA (i := 8) (N := some 13) (v := ?_) (a' := ?_) #[T_,T_,T_,T_,F_,T_,T_,T_,T_,F_,F_,F_] rfl rfl HT_ HW_ (Or.inl ⟨by rfl, ?_⟩) hHeld ?_ ?_
 rotate_left
 ·rintro w' ⟨s0, s1, s2, s3⟩
  go_simp
  with_reducible rfl
 rotate_left
 ·simp only [Act.put, s1, s2, s3, i64_w, i32_w]
  rfl
 refine one_ (i := 4) (N := some 9) #[T_,T_,T_,T_,T_,T_,T_,T_,T_,F_,F_,F_] rfl rfl (one_of HT_.out (by kernel_rfl)) (by decide) (fun K hK => ?_)
 refine goes_ Try.func49 (by kernel_rfl) rfl #[.int .i64 a0_0, .int .i64 a1_1] (by rfl) rfl rfl (by (try simp only [List.map_toArray, List.map_cons, List.map_nil]); first | done | rfl | (simp only [List.length_drop, List.length_take]; rfl)) ?_
 with_reducible refine (wide_Mul.calls a0_0 a1_1 t147 t148 _ A3.out).mono ?_
 rintro e w10 ⟨rfl, hb⟩
 refine ⟨_, rfl, ?_⟩
 have n0_ := u1 BK144 hb
 have n1_ := u1 BK145 hb
 have n2_ := u1 BK146 hb
 have n3_ := Aside0.mk (below_step (bw HB.out) hb)
 clear BK144
 clear BK145
 clear BK146
 clear HB
 have BK144 := n0_
 have BK145 := n1_
 have BK146 := n2_
 have HB := n3_
 clear n0_ n1_ n2_ n3_
 (try clear hb)
 (try clear hb2)
 (try clear hk)
 (try clear hi)
 refine hK.out _ _ ⟨(p2 BK144).1, (p2 BK144).2.1, (p2 BK145).1, (p2 BK145).2.1⟩ (fun hHeld => ?_)
 clear hK K
 refine norm_ (a' := ?_) ?_ ?_
 rotate_left
 ·show Act.put _ (some 9) _ = _
  simp only [Act.put, s1, s2, s3, i64_w, i32_w]
  rfl
 refine one_ (i := 9) (N := some 14) #[T_,T_,T_,T_,T_,T_,T_,T_,T_,T_,F_,F_] rfl rfl (one_of HT_.out (by kernel_rfl)) (by decide) (fun K hK => ?_)
 refine goes_ Try.func49 (by kernel_rfl) rfl #[.int .i64 a0_1, .int .i64 a1_0] (by rfl) rfl rfl (by (try simp only [List.map_toArray, List.map_cons, List.map_nil]); first | done | rfl | (simp only [List.length_drop, List.length_take]; rfl)) ?_
 with_reducible refine (wide_Mul.calls a0_1 a1_0 t149 t150 _ A4.out).mono ?_
 rintro e w11 ⟨rfl, hb⟩
 refine ⟨_, rfl, ?_⟩
 have n0_ := u1 BK144 hb
 have n1_ := u1 BK145 hb
 have n2_ := u1 BK146 hb
 have n3_ := Aside0.mk (below_step (bw HB.out) hb)
 clear BK144
 clear BK145
 clear BK146
 clear HB
 have BK144 := n0_
 have BK145 := n1_
 have BK146 := n2_
 have HB := n3_
 clear n0_ n1_ n2_ n3_
 (try clear hb)
 (try clear hb2)
 (try clear hk)
 (try clear hi)
 refine hK.out _ _ ⟨(p2 BK144).1, (p2 BK144).2.1, (p2 BK145).1, (p2 BK145).2.1⟩ (fun hHeld => ?_)
 clear hK K
 refine norm_ (a' := ?_) ?_ ?_
 rotate_left
 ·show Act.put _ (some 14) _ = _
  simp only [Act.put, s1, s2, s3, i64_w, i32_w]
  rfl
 refine one_ (i := 10) (N := some 15) #[T_,T_,T_,T_,T_,T_,T_,T_,T_,T_,T_,F_] rfl rfl (one_of HT_.out (by kernel_rfl)) (by decide) (fun K hK => ?_)
 refine goes_ Try.func50 (by kernel_rfl) rfl #[.agg #[.int .i64 t147, .int .u64 t148], .agg #[.int .i64 t149, .int .u64 t150]] (by rfl) rfl rfl (by (try simp only [List.map_toArray, List.map_cons, List.map_nil]); first | done | rfl | (simp only [List.length_drop, List.length_take]; rfl)) ?_
 with_reducible refine (wide_Sub.calls t147 t148 t149 t150 t151 t152 _ A5.out).mono ?_
 rintro e w12 ⟨rfl, hb⟩
 refine ⟨_, rfl, ?_⟩
 have n0_ := u1 BK144 hb
 have n1_ := u1 BK145 hb
 have n2_ := u1 BK146 hb
 have n3_ := Aside0.mk (below_step (bw HB.out) hb)
 clear BK144
 clear BK145
 clear BK146
 clear HB
 have BK144 := n0_
 have BK145 := n1_
 have BK146 := n2_
 have HB := n3_
 clear n0_ n1_ n2_ n3_
 (try clear hb)
 (try clear hb2)
 (try clear hk)
 (try clear hi)
 refine hK.out _ _ ⟨(p2 BK144).1, (p2 BK144).2.1, (p2 BK145).1, (p2 BK145).2.1⟩ (fun hHeld => ?_)
 clear hK K
 refine norm_ (a' := ?_) ?_ ?_
 rotate_left
 ·show Act.put _ (some 15) _ = _
  simp only [Act.put, s1, s2, s3, i64_w, i32_w]
  rfl
 refine one_ (i := 11) (N := none) #[T_,T_,T_,T_,T_,T_,T_,T_,T_,T_,T_,T_] rfl rfl (one_of HT_.out (by kernel_rfl)) (by decide) (fun K hK => ?_)
 have hs13 : w12.cell? ⟨gb146, 0, none⟩ = some (.int .i64 0) := (blk_cell BK146.out 0).trans rfl
 have hfs13 := blk_frozen BK146.out 0
 have hns13_0 := NB144_146.out
 have hns13_1 := NB145_146.out
 have hms13_0 := NB146_144.out
 have hms13_1 := NB146_145.out
 have hs14 : w12.cell? ⟨gb146, 1, none⟩ = some (.int .u64 0) := (blk_cell BK146.out 1).trans rfl
 have hfs14 := blk_frozen BK146.out 1
 have hns14_0 := NB144_146.out
 have hns14_1 := NB145_146.out
 have hms14_0 := NB146_144.out
 have hms14_1 := NB146_145.out
 refine skip_ (w1 := ?_) (by rfl) rfl ?_ ?_
 rotate_left
 ·go_simp
  rfl
 refine hK.out _ _ ⟨((cell_far (p := ⟨gb146, _, none⟩) NB144_146.out _).trans (((cell_far (p := ⟨gb146, _, none⟩) NB144_146.out _).trans (hHeld.1)))), ((cell_far (p := ⟨gb146, _, none⟩) NB144_146.out _).trans (((cell_far (p := ⟨gb146, _, none⟩) NB144_146.out _).trans (hHeld.2.1)))), ((cell_far (p := ⟨gb146, _, none⟩) NB145_146.out _).trans (((cell_far (p := ⟨gb146, _, none⟩) NB145_146.out _).trans (hHeld.2.2.1)))), ((cell_far (p := ⟨gb146, _, none⟩) NB145_146.out _).trans (((cell_far (p := ⟨gb146, _, none⟩) NB145_146.out _).trans (hHeld.2.2.2))))⟩ (fun hHeld => ?_)
 clear hK K
 refine done_ (done_of HT_.out (by kernel_rfl)) ?_
 try go_wp2
 refine bodyPost_ret (results_cell_row rfl _ _ gb146 37 #[.int .i64 t151, .int .u64 t152] (0, 0) _ rfl (by (with_reducible repeat (first | refine blk_drewN ?_ _ | refine blk_drew ?_ | refine blk_alloc ?_ _)); refine blk_put (cs := #[.int .i64 t151, .int .u64 0]) ?_ 1 _ rfl; refine blk_put (cs := #[.int .i64 0, .int .u64 0]) ?_ 0 _ rfl; (with_reducible repeat (first | refine blk_drewN ?_ _ | refine blk_drew ?_ | refine blk_alloc ?_ _)); exact BK146.out) Try.underlying37 rfl (by kernel_rfl)) rfl ?_
 exact ⟨by first | rfl | (simp [*, errW_none, errW_some] <;> rfl), by repeat (first | (with_reducible first | exact HB.out | apply below_alloc | apply pw_below_drewN | apply below_drew1 | refine below_set ?_ GE144.out | refine below_set ?_ GE145.out | refine below_set ?_ GE146.out) | exact HB.out)⟩
end Go.Proofs.Ytmeckkckjikjiaa.F
end
section
namespace Go.Proofs.Ytmeckkckjikjiaa.F
open RowKit YtmeckkckjikjiaaW.PrintWords YtmeckkckjikjiaaW.PrintLast YtmeckkckjikjiaaW.PrintMore
set_option linter.unusedVariables false
set_option linter.unusedSimpArgs false
def pred_orient.f (a0_0 : Int) (a0_1 : Int) (a1_0 : Int) (a1_1 : Int) (a2_0 : Int) (a2_1 : Int) : Option (Int) := (pred_way.f a0_0 a0_1 a1_0 a1_1).bind fun bt347 => ((pred_way.f a0_0 a0_1 a2_0 a2_1).bind fun bt349 => ((pred_across.f bt347.1 bt347.2 bt349.1 bt349.2).bind fun bt351 => ((wide_Sign.f bt351.1 bt351.2).bind fun t353 => (some t353))))
def pred_orient.T1 : Bool × List (List Nat × List Nat) := (true, [([], []), ([], []), ([0, 1], [0, 1]), ([], []), ([], []), ([3, 4, 2], [3, 4]), ([2, 5, 5], [2, 5]), ([6, 6], [6]), ([7, 7, 0, 1, 2, 3, 4, 5, 6, 7], [7])])
def pred_orient.B1 : List Nat := [0, 0, 3, 0, 0, 31, 63, 127, 255]
theorem pred_orient.tab1 : rtab .any (opsOf Try.f38 1) = pred_orient.T1 := by kernel_rfl
theorem pred_orient.bits1 : waitsOk pred_orient.T1.2 pred_orient.B1 = true := by kernel_rfl
set_option maxHeartbeats 8000000 in
set_option maxRecDepth 100000 in
theorem pred_orient.calls (a0_0 : Int) (a0_1 : Int) (a1_0 : Int) (a1_1 : Int) (a2_0 : Int) (a2_1 : Int) (r : Int) (w : World) (h : pred_orient.f a0_0 a0_1 a1_0 a1_1 a2_0 a2_1 = some r) :
  Calls Try.prog 38 #[.agg #[.int .i64 a0_0, .int .i64 a0_1], .agg #[.int .i64 a1_0, .int .i64 a1_1], .agg #[.int .i64 a2_0, .int .i64 a2_1]] w fun e w' => e = .returned (.int .i64 r) ∧ Below w.heap.size w w' := by
 have hu23 := Try.underlying23
 have HB := Aside0.mk (Below.refl w.heap.size w)
 have H : ((pred_way.f a0_0 a0_1 a1_0 a1_1).bind fun bt347 => ((pred_way.f a0_0 a0_1 a2_0 a2_1).bind fun bt349 => ((pred_across.f bt347.1 bt347.2 bt349.1 bt349.2).bind fun bt351 => ((wide_Sign.f bt351.1 bt351.2).bind fun t353 => (some t353))))) = some r := h
 clear h
 replace H := Option.bind_eq_some_iff.mp H
 obtain ⟨⟨t347, t348⟩, A40, H⟩ := H
 try dsimp only at H
 have A4 := Aside0.mk A40
 clear A40
 replace H := Option.bind_eq_some_iff.mp H
 obtain ⟨⟨t349, t350⟩, A50, H⟩ := H
 try dsimp only at H
 have A5 := Aside0.mk A50
 clear A50
 replace H := Option.bind_eq_some_iff.mp H
 obtain ⟨⟨t351, t352⟩, A60, H⟩ := H
 try dsimp only at H
 have A6 := Aside0.mk A60
 clear A60
 replace H := Option.bind_eq_some_iff.mp H
 obtain ⟨t353, A70, H⟩ := H
 try dsimp only at H
 have A7 := Aside0.mk A70
 clear A70
 obtain rfl := Option.some.inj H
 go_enter Try.func38, Try.ntmps38
 try go_wp2_with (first | ((with_reducible refine gate_dst (N := 3) rfl ?_); refine bx 3 #[.int .i64 a0_0, .int .i64 a0_1] 23 ?_; intro gb344 hg w8 hbox hb; have BK344 := Aside0.mk hbox; have GW344 := u3 hg HB; have GE344 := u3 hg HB; replace HB := u2 HB hb; clear hb hbox hg) | ((with_reducible refine gate_dst (N := 4) rfl ?_); refine bx 4 #[.int .i64 a1_0, .int .i64 a1_1] 23 ?_; intro gb345 hg w9 hbox hb; have BK345 := Aside0.mk hbox; have GW345 := u3 hg HB; have GE345 := u3 hg HB; have NB344_345 := u4 hg BK344; have NB345_344 := u5 hg BK344; replace BK344 := u1 BK344 hb; replace HB := u2 HB hb; clear hb hbox hg) | ((with_reducible refine gate_dst (N := 5) rfl ?_); refine bx 5 #[.int .i64 a2_0, .int .i64 a2_1] 23 ?_; intro gb346 hg w10 hbox hb; have BK346 := Aside0.mk hbox; have GW346 := u3 hg HB; have GE346 := u3 hg HB; have NB344_346 := u4 hg BK344; have NB346_344 := u5 hg BK344; have NB345_346 := u4 hg BK345; have NB346_345 := u5 hg BK345; replace BK344 := u1 BK344 hb; replace BK345 := u1 BK345 hb; replace HB := u2 HB hb; clear hb hbox hg))
 have n0_ := Aside0.mk (blk_drew BK344.out)
 have n1_ := Aside0.mk (blk_drew BK345.out)
 have n2_ := Aside0.mk (blk_drew BK346.out)
 have n3_ := Aside0.mk (below_drew1 HB.out)
 clear BK344
 clear BK345
 clear BK346
 clear HB
 have BK344 := n0_
 have BK345 := n1_
 have BK346 := n2_
 have HB := n3_
 clear n0_ n1_ n2_ n3_
 refine start_ (n := 9) (S := fun w' => w'.cell? ⟨gb344, 0, none⟩ = some (.int .i64 a0_0) ∧ w'.cell? ⟨gb344, 1, none⟩ = some (.int .i64 a0_1) ∧ w'.cell? ⟨gb345, 0, none⟩ = some (.int .i64 a1_0) ∧ w'.cell? ⟨gb345, 1, none⟩ = some (.int .i64 a1_1) ∧ w'.cell? ⟨gb346, 0, none⟩ = some (.int .i64 a2_0) ∧ w'.cell? ⟨gb346, 1, none⟩ = some (.int .i64 a2_1)) (ds := []) #[F_,F_,F_,F_,F_,F_,F_,F_,F_] (by kernel_rfl) rfl rfl ⟨(p2 BK344).1, (p2 BK344).2.1, (p2 BK345).1, (p2 BK345).2.1, (p2 BK346).1, (p2 BK346).2.1⟩ (fun hHeld => ?_); refine with_tabW pred_orient.tab1 pred_orient.bits1 (fun HT_ HW_ => ?_)
 generalize w10.drew = w11 at BK344 BK345 BK346 HB hHeld ⊢
 refine tA (i := 0) (N := some 7) (v := ?_) (a' := ?_) #[T_,F_,F_,F_,F_,F_,F_,F_,F_] rfl rfl HT_ HW_ (Or.inl ⟨by rfl, ?_⟩) hHeld ?_ ?_
 rotate_left
 ·rintro w' ⟨s0, s1, s2, s3, s4, s5⟩
  go_simp
  with_reducible rfl
 rotate_left
 ·simp only [Act.put, s1, s2, s3, i64_w, i32_w]
  rfl
 refine tA (i := 1) (N := some 8) (v := ?_) (a' := ?_) #[T_,T_,F_,F_,F_,F_,F_,F_,F_] rfl rfl HT_ HW_ (Or.inl ⟨by rfl, ?_⟩) hHeld ?_ ?_
 rotate_left
 ·rintro w' ⟨s0, s1, s2, s3, s4, s5⟩
  go_simp
  with_reducible rfl
 rotate_left
 ·simp only [Act.put, s1, s2, s3, i64_w, i32_w]
  rfl
 refine tA (i := 3) (N := some 10) (v := ?_) (a' := ?_) #[T_,T_,F_,T_,F_,F_,F_,F_,F_] rfl rfl HT_ HW_ (Or.inl ⟨by rfl, ?_⟩) hHeld ?_ ?_
 rotate_left
 ·rintro w' ⟨s0, s1, s2, s3, s4, s5⟩
  go_simp
  with_reducible rfl
 rotate_left
 ·simp only [Act.put, s1, s2, s3, i64_w, i32_w]
  rfl
 refine tA (i := 4) (N := some 11) (v := ?_) (a' := ?_) #[T_,T_,F_,T_,T_,F_,F_,F_,F_] rfl rfl HT_ HW_ (Or.inl ⟨by rfl, ?_⟩) hHeld ?_ ?_
 rotate_left
 ·rintro w' ⟨s0, s1, s2, s3, s4, s5⟩
  go_simp
  with_reducible rfl
 rotate_left
 ·simp only [Act.put, s1, s2, s3, i64_w, i32_w]
  rfl
 refine one_ (i := 2) (N := some 9) #[T_,T_,T_,T_,T_,F_,F_,F_,F_] rfl rfl (one_of HT_.out (by kernel_rfl)) (by decide) (fun K hK => ?_)
 refine goes_ Try.func24 (by kernel_rfl) rfl #[.agg #[.int .i64 a0_0, .int .i64 a0_1], .agg #[.int .i64 a1_0, .int .i64 a1_1]] (by rfl) rfl rfl (by (try simp only [List.map_toArray, List.map_cons, List.map_nil]); first | done | rfl | (simp only [List.length_drop, List.length_take]; rfl)) ?_
 with_reducible refine (pred_way.calls a0_0 a0_1 a1_0 a1_1 t347 t348 _ A4.out).mono ?_
 rintro e w12 ⟨rfl, hb⟩
 refine ⟨_, rfl, ?_⟩
 have n0_ := u1 BK344 hb
 have n1_ := u1 BK345 hb
 have n2_ := u1 BK346 hb
 have n3_ := Aside0.mk (below_step (bw HB.out) hb)
 clear BK344
 clear BK345
 clear BK346
 clear HB
 have BK344 := n0_
 have BK345 := n1_
 have BK346 := n2_
 have HB := n3_
 clear n0_ n1_ n2_ n3_
 (try clear hb)
 (try clear hb2)
 (try clear hk)
 (try clear hi)
 refine hK.out _ _ ⟨(p2 BK344).1, (p2 BK344).2.1, (p2 BK345).1, (p2 BK345).2.1, (p2 BK346).1, (p2 BK346).2.1⟩ (fun hHeld => ?_)
 clear hK K
 refine norm_ (a' := ?_) ?_ ?_
 rotate_left
 ·show Act.put _ (some 9) _ = _
  simp only [Act.put, s1, s2, s3, i64_w, i32_w]
  rfl
 refine one_ (i := 5) (N := some 12) #[T_,T_,T_,T_,T_,T_,F_,F_,F_] rfl rfl (one_of HT_.out (by kernel_rfl)) (by decide) (fun K hK => ?_)
 refine goes_ Try.func24 (by kernel_rfl) rfl #[.agg #[.int .i64 a0_0, .int .i64 a0_1], .agg #[.int .i64 a2_0, .int .i64 a2_1]] (by rfl) rfl rfl (by (try simp only [List.map_toArray, List.map_cons, List.map_nil]); first | done | rfl | (simp only [List.length_drop, List.length_take]; rfl)) ?_
 with_reducible refine (pred_way.calls a0_0 a0_1 a2_0 a2_1 t349 t350 _ A5.out).mono ?_
 rintro e w13 ⟨rfl, hb⟩
 refine ⟨_, rfl, ?_⟩
 have n0_ := u1 BK344 hb
 have n1_ := u1 BK345 hb
 have n2_ := u1 BK346 hb
 have n3_ := Aside0.mk (below_step (bw HB.out) hb)
 clear BK344
 clear BK345
 clear BK346
 clear HB
 have BK344 := n0_
 have BK345 := n1_
 have BK346 := n2_
 have HB := n3_
 clear n0_ n1_ n2_ n3_
 (try clear hb)
 (try clear hb2)
 (try clear hk)
 (try clear hi)
 refine hK.out _ _ ⟨(p2 BK344).1, (p2 BK344).2.1, (p2 BK345).1, (p2 BK345).2.1, (p2 BK346).1, (p2 BK346).2.1⟩ (fun hHeld => ?_)
 clear hK K
 refine norm_ (a' := ?_) ?_ ?_
 rotate_left
 ·show Act.put _ (some 12) _ = _
  simp only [Act.put, s1, s2, s3, i64_w, i32_w]
  rfl
 refine one_ (i := 6) (N := some 13) #[T_,T_,T_,T_,T_,T_,T_,F_,F_] rfl rfl (one_of HT_.out (by kernel_rfl)) (by decide) (fun K hK => ?_)
 refine goes_ Try.func27 (by kernel_rfl) rfl #[.agg #[.int .i64 t347, .int .i64 t348], .agg #[.int .i64 t349, .int .i64 t350]] (by rfl) rfl rfl (by (try simp only [List.map_toArray, List.map_cons, List.map_nil]); first | done | rfl | (simp only [List.length_drop, List.length_take]; rfl)) ?_
 with_reducible refine (pred_across.calls t347 t348 t349 t350 t351 t352 _ A6.out).mono ?_
 rintro e w14 ⟨rfl, hb⟩
 refine ⟨_, rfl, ?_⟩
 have n0_ := u1 BK344 hb
 have n1_ := u1 BK345 hb
 have n2_ := u1 BK346 hb
 have n3_ := Aside0.mk (below_step (bw HB.out) hb)
 clear BK344
 clear BK345
 clear BK346
 clear HB
 have BK344 := n0_
 have BK345 := n1_
 have BK346 := n2_
 have HB := n3_
 clear n0_ n1_ n2_ n3_
 (try clear hb)
 (try clear hb2)
 (try clear hk)
 (try clear hi)
 refine hK.out _ _ ⟨(p2 BK344).1, (p2 BK344).2.1, (p2 BK345).1, (p2 BK345).2.1, (p2 BK346).1, (p2 BK346).2.1⟩ (fun hHeld => ?_)
 clear hK K
 refine norm_ (a' := ?_) ?_ ?_
 rotate_left
 ·show Act.put _ (some 13) _ = _
  simp only [Act.put, s1, s2, s3, i64_w, i32_w]
  rfl
 refine one_ (i := 7) (N := some 14) #[T_,T_,T_,T_,T_,T_,T_,T_,F_] rfl rfl (one_of HT_.out (by kernel_rfl)) (by decide) (fun K hK => ?_)
 refine goes_ Try.func60 (by kernel_rfl) rfl #[.agg #[.int .i64 t351, .int .u64 t352]] (by rfl) rfl rfl (by (try simp only [List.map_toArray, List.map_cons, List.map_nil]); first | done | rfl | (simp only [List.length_drop, List.length_take]; rfl)) ?_
 with_reducible refine (wide_Sign.calls t351 t352 t353 _ A7.out).mono ?_
 rintro e w15 ⟨rfl, hb⟩
 refine ⟨_, rfl, ?_⟩
 have n0_ := u1 BK344 hb
 have n1_ := u1 BK345 hb
 have n2_ := u1 BK346 hb
 have n3_ := Aside0.mk (below_step (bw HB.out) hb)
 clear BK344
 clear BK345
 clear BK346
 clear HB
 have BK344 := n0_
 have BK345 := n1_
 have BK346 := n2_
 have HB := n3_
 clear n0_ n1_ n2_ n3_
 (try clear hb)
 (try clear hb2)
 (try clear hk)
 (try clear hi)
 refine hK.out _ _ ⟨(p2 BK344).1, (p2 BK344).2.1, (p2 BK345).1, (p2 BK345).2.1, (p2 BK346).1, (p2 BK346).2.1⟩ (fun hHeld => ?_)
 clear hK K
 refine norm_ (a' := ?_) ?_ ?_
 rotate_left
 ·show Act.put _ (some 14) _ = _
  simp only [Act.put, s1, s2, s3, i64_w, i32_w]
  rfl
 refine pA (i := 8) (N := some 6) (v := ?_) (a' := ?_) #[T_,T_,T_,T_,T_,T_,T_,T_,T_] rfl rfl HT_ (Or.inl ⟨by rfl, ?_⟩) ?_ ?_
 rotate_left
 ·intro w'
  go_simp
  with_reducible rfl
 rotate_left
 ·simp only [Act.put, s1, s2, s3, i64_w, i32_w]
  rfl
 refine done_ (done_of HT_.out (by kernel_rfl)) ?_
 try go_wp2
 go_ret
 exact ⟨by first | rfl | (simp [*, errW_none, errW_some] <;> rfl), bw HB.out⟩
end Go.Proofs.Ytmeckkckjikjiaa.F
end
section
namespace Go.Proofs.Ytmeckkckjikjiaa.F
open RowKit YtmeckkckjikjiaaW.PrintWords YtmeckkckjikjiaaW.PrintLast YtmeckkckjikjiaaW.PrintMore
set_option linter.unusedVariables false
set_option linter.unusedSimpArgs false
def pred_Orient.f (k : Nat) (a0_0 : Int) (a0_1 : Int) (a1_0 : Int) (a1_1 : Int) (a2_0 : Int) (a2_1 : Int) : Option (Int) := (pred_can.f k (([(⟨a0_0, a0_1⟩ : S23), (⟨a1_0, a1_1⟩ : S23), (⟨a2_0, a2_1⟩ : S23)] : List (S23)))).bind fun t372 => (if t372 = true then ((pred_orient.f a0_0 a0_1 a1_0 a1_1 a2_0 a2_1).bind fun t373 => (some t373)) else (some 0))
theorem pred_Orient.mono : ∀ a0 a1 a2 a3 a4 a5 k, LeO (pred_Orient.f k a0 a1 a2 a3 a4 a5) (pred_Orient.f (k + 1) a0 a1 a2 a3 a4 a5) := by
 intro a0 a1 a2 a3 a4 a5 k
 unfold pred_Orient.f
 repeat' first
   | (with_reducible exact pred_can.mono _ _)
   | (with_reducible exact LeO.refl _)
   | (with_reducible exact LeO.none _)
   | (with_reducible refine LeO.ite ?_ ?_)
   | (with_reducible refine LeO.bind ?_ (fun _ => ?_))
   | exact pred_can.mono _ _
   | exact LeO.none _
   | refine LeO.ite ?_ ?_
   | refine LeO.bind ?_ (fun _ => ?_)
set_option maxHeartbeats 8000000 in
set_option maxRecDepth 100000 in
theorem pred_Orient.calls (k : Nat) (a0_0 : Int) (a0_1 : Int) (a1_0 : Int) (a1_1 : Int) (a2_0 : Int) (a2_1 : Int) (r : Int) (w : World) (h : pred_Orient.f k a0_0 a0_1 a1_0 a1_1 a2_0 a2_1 = some r) :
  Calls Try.prog 14 #[.agg #[.int .i64 a0_0, .int .i64 a0_1], .agg #[.int .i64 a1_0, .int .i64 a1_1], .agg #[.int .i64 a2_0, .int .i64 a2_1]] w fun e w' => e = .returned (.int .i64 r) ∧ Below w.heap.size w w' := by
 have hu23 := Try.underlying23
 have HB := Aside0.mk (Below.refl w.heap.size w)
 have H : ((pred_can.f k (([(⟨a0_0, a0_1⟩ : S23), (⟨a1_0, a1_1⟩ : S23), (⟨a2_0, a2_1⟩ : S23)] : List (S23)))).bind fun t372 => (if t372 = true then ((pred_orient.f a0_0 a0_1 a1_0 a1_1 a2_0 a2_1).bind fun t373 => (some t373)) else (some 0))) = some r := h
 clear h
 obtain ⟨y369, hy369⟩ : ∃ y_ : List (S23), y_ = (([(⟨a0_0, a0_1⟩ : S23), (⟨a1_0, a1_1⟩ : S23), (⟨a2_0, a2_1⟩ : S23)] : List (S23))) := ⟨_, rfl⟩
 replace H : ((pred_can.f k y369).bind fun t372 => (if t372 = true then ((pred_orient.f a0_0 a0_1 a1_0 a1_1 a2_0 a2_1).bind fun t373 => (some t373)) else (some 0))) = some r := by first | (rw [hy369]; with_reducible exact H) | (have H2_ := (Option.bind_some _ _).symm.trans H; rw [hy369]; with_reducible exact H2_) | (have H2_ := (Option.bind_some _ _).symm.trans H; with_reducible exact H2_) | with_reducible exact H | (rw [hy369]; exact H) | exact H
 have Ny369 := Aside0.mk hy369
 clear hy369
 replace H := Option.bind_eq_some_iff.mp H
 obtain ⟨t372, A40, H⟩ := H
 try dsimp only at H
 have A4 := Aside0.mk A40
 clear A40
 by_cases c5 : t372 = true
 ·subst c5
  rw [if_pos rfl] at H
  replace H := Option.bind_eq_some_iff.mp H
  obtain ⟨t373, A60, H⟩ := H
  try dsimp only at H
  have A6 := Aside0.mk A60
  clear A60
  obtain rfl := Option.some.inj H
  go_enter Try.func14, Try.ntmps14
  go_wp2_with (first | ((with_reducible refine gate_dst (N := 3) rfl ?_); refine bx 3 #[.int .i64 a0_0, .int .i64 a0_1] 23 ?_; intro gb366 hg w7 hbox hb; have BK366 := Aside0.mk hbox; have GW366 := u3 hg HB; have GE366 := u3 hg HB; replace HB := u2 HB hb; clear hb hbox hg) | ((with_reducible refine gate_dst (N := 4) rfl ?_); refine bx 4 #[.int .i64 a1_0, .int .i64 a1_1] 23 ?_; intro gb367 hg w8 hbox hb; have BK367 := Aside0.mk hbox; have GW367 := u3 hg HB; have GE367 := u3 hg HB; have NB366_367 := u4 hg BK366; have NB367_366 := u5 hg BK366; replace BK366 := u1 BK366 hb; replace HB := u2 HB hb; clear hb hbox hg) | ((with_reducible refine gate_dst (N := 5) rfl ?_); refine bx 5 #[.int .i64 a2_0, .int .i64 a2_1] 23 ?_; intro gb368 hg w9 hbox hb; have BK368 := Aside0.mk hbox; have GW368 := u3 hg HB; have GE368 := u3 hg HB; have NB366_368 := u4 hg BK366; have NB368_366 := u5 hg BK366; have NB367_368 := u4 hg BK367; have NB368_367 := u5 hg BK367; replace BK366 := u1 BK366 hb; replace BK367 := u1 BK367 hb; replace HB := u2 HB hb; clear hb hbox hg; have hnb10 := NB366_367.out; have hnc10 := NB367_366.out; have hnb11 := NB366_368.out; have hnc11 := NB368_366.out; obtain ⟨_, _, _, _⟩ := p2 BK366; have hnb13 := NB367_368.out; have hnc13 := NB368_367.out; obtain ⟨_, _, _, _⟩ := p2 BK367; obtain ⟨_, _, _, _⟩ := p2 BK368) | ((with_reducible refine gate_dst (N := 10) rfl ?_); refine Kd.R_lit k23 _ 23 ?hg (N := 10) ?hd (xs := ([(⟨a0_0, a0_1⟩ : S23), (⟨a1_0, a1_1⟩ : S23), (⟨a2_0, a2_1⟩ : S23)] : List (S23))) (inner := [.int .i64 a0_0, .int .i64 a0_1, .int .i64 a1_0, .int .i64 a1_1, .int .i64 a2_0, .int .i64 a2_1]) (ok := fun _ => True) (okp := fun _ => True) ?hr ?hp (fun _ hk => hk) trivial (Below.refl _ _) (Nat.le_refl _) (by simp) ?_; (case hd => rfl); (case hg => rfl); (case hr => first | (go_simp; done) | (go_simp; rfl)); (case hp => exact (Reps.c2 (show Kd.M k23 _ _ _ (⟨a0_0, a0_1⟩ : S23) [.int .i64 a0_0, .int .i64 a0_1] from (k23_mkM _ _ _ (⟨a0_0, a0_1⟩ : S23) )) (Reps.c2 (show Kd.M k23 _ _ _ (⟨a1_0, a1_1⟩ : S23) [.int .i64 a1_0, .int .i64 a1_1] from (k23_mkM _ _ _ (⟨a1_0, a1_1⟩ : S23) )) (Reps.c2 (show Kd.M k23 _ _ _ (⟨a2_0, a2_1⟩ : S23) [.int .i64 a2_0, .int .i64 a2_1] from (k23_mkM _ _ _ (⟨a2_0, a2_1⟩ : S23) )) (Reps.none _ _))))); intro v370 w16 ho17 hb hg_ hnew_; clear hg_ hnew_; (first | rw [← Ny369.out] at ho17 | (simp only [Int.reduceToNat] at ho17; rw [← Ny369.out] at ho17)); have n0_ := Aside0.mk (Kd.R_lower (Kd.R_newB (Kd.R_newB (Kd.R_newB ho17 (bk BK366.out)) (bk BK367.out)) (bk BK368.out)) (below_size (bw HB.out))); have n1_ := u1 BK366 hb; have n2_ := u1 BK367 hb; have n3_ := u1 BK368 hb; have n4_ := u2 HB hb; clear BK366; clear BK367; clear BK368; clear HB; have HO371 := n0_; have BK366 := n1_; have BK367 := n2_; have BK368 := n3_; have HB := n4_; clear n0_ n1_ n2_ n3_ n4_; clear hb ho17; obtain ⟨Ao18, co18, eo18⟩ := Kd.R_slice HO371.out; subst eo18) | ((with_reducible refine gate_callee (f := 23) rfl ?_); refine gL (some 11) Try.func23 #[.slice Ao18 y369.length co18] rfl ?_; (with_reducible refine (pred_can.calls k _ _ y369 true _ ?side1 ?side2 A4.out).mono ?_); (case side1 => repeat (first | exact (Kd.R_reads' HO371.out).2.2 | (with_reducible refine Kd.C_alloc ?_ _) | (with_reducible refine Kd.C_drewN ?_ _) | (with_reducible refine Kd.C_drew ?_))); (case side2 => exact (Kd.R_reads' HO371.out).2.1); rintro e w19 ⟨rfl, hb⟩; refine ⟨_, rfl, ?_⟩; have n0_ := Aside0.mk (Kd.R_below (by (with_reducible repeat (first | apply Kd.R_alloc | apply Kd.R_drewN | apply Kd.R_drew)); exact HO371.out) hb); have n1_ := u1 BK366 hb; have n2_ := u1 BK367 hb; have n3_ := u1 BK368 hb; have n4_ := u2 HB hb; clear HO371; clear BK366; clear BK367; clear BK368; clear HB; have HO371 := n0_; have BK366 := n1_; have BK367 := n2_; have BK368 := n3_; have HB := n4_; clear n0_ n1_ n2_ n3_ n4_; clear hb; obtain ⟨_, _, _, _⟩ := p2 BK366; obtain ⟨_, _, _, _⟩ := p2 BK367; obtain ⟨_, _, _, _⟩ := p2 BK368) | ((with_reducible refine gate_callee (f := 38) rfl ?_); refine gL (some 16) Try.func38 #[.agg #[.int .i64 a0_0, .int .i64 a0_1], .agg #[.int .i64 a1_0, .int .i64 a1_1], .agg #[.int .i64 a2_0, .int .i64 a2_1]] rfl ?_; (with_reducible refine (pred_orient.calls a0_0 a0_1 a1_0 a1_1 a2_0 a2_1 t373 _ A6.out).mono ?_); rintro e w23 ⟨rfl, hb⟩; refine ⟨_, rfl, ?_⟩; have n0_ := Aside0.mk (Kd.R_below (by (with_reducible repeat (first | apply Kd.R_alloc | apply Kd.R_drewN | apply Kd.R_drew)); exact HO371.out) hb); have n1_ := u1 BK366 hb; have n2_ := u1 BK367 hb; have n3_ := u1 BK368 hb; have n4_ := u2 HB hb; clear HO371; clear BK366; clear BK367; clear BK368; clear HB; have HO371 := n0_; have BK366 := n1_; have BK367 := n2_; have BK368 := n3_; have HB := n4_; clear n0_ n1_ n2_ n3_ n4_; clear hb))
  go_ret
  exact ⟨by first | rfl | (simp [*, errW_none, errW_some] <;> rfl), bw HB.out⟩
 ·replace c5 := Bool.eq_false_iff.mpr c5
  subst c5
  rw [if_neg (show ¬ (false = true) by decide)] at H
  obtain rfl := Option.some.inj H
  go_enter Try.func14, Try.ntmps14
  go_wp2_with (first | ((with_reducible refine gate_dst (N := 3) rfl ?_); refine bx 3 #[.int .i64 a0_0, .int .i64 a0_1] 23 ?_; intro gb366 hg w24 hbox hb; have BK366 := Aside0.mk hbox; have GW366 := u3 hg HB; have GE366 := u3 hg HB; replace HB := u2 HB hb; clear hb hbox hg) | ((with_reducible refine gate_dst (N := 4) rfl ?_); refine bx 4 #[.int .i64 a1_0, .int .i64 a1_1] 23 ?_; intro gb367 hg w25 hbox hb; have BK367 := Aside0.mk hbox; have GW367 := u3 hg HB; have GE367 := u3 hg HB; have NB366_367 := u4 hg BK366; have NB367_366 := u5 hg BK366; replace BK366 := u1 BK366 hb; replace HB := u2 HB hb; clear hb hbox hg) | ((with_reducible refine gate_dst (N := 5) rfl ?_); refine bx 5 #[.int .i64 a2_0, .int .i64 a2_1] 23 ?_; intro gb368 hg w26 hbox hb; have BK368 := Aside0.mk hbox; have GW368 := u3 hg HB; have GE368 := u3 hg HB; have NB366_368 := u4 hg BK366; have NB368_366 := u5 hg BK366; have NB367_368 := u4 hg BK367; have NB368_367 := u5 hg BK367; replace BK366 := u1 BK366 hb; replace BK367 := u1 BK367 hb; replace HB := u2 HB hb; clear hb hbox hg; have hnb27 := NB366_367.out; have hnc27 := NB367_366.out; have hnb28 := NB366_368.out; have hnc28 := NB368_366.out; obtain ⟨_, _, _, _⟩ := p2 BK366; have hnb30 := NB367_368.out; have hnc30 := NB368_367.out; obtain ⟨_, _, _, _⟩ := p2 BK367; obtain ⟨_, _, _, _⟩ := p2 BK368) | ((with_reducible refine gate_dst (N := 10) rfl ?_); refine Kd.R_lit k23 _ 23 ?hg (N := 10) ?hd (xs := ([(⟨a0_0, a0_1⟩ : S23), (⟨a1_0, a1_1⟩ : S23), (⟨a2_0, a2_1⟩ : S23)] : List (S23))) (inner := [.int .i64 a0_0, .int .i64 a0_1, .int .i64 a1_0, .int .i64 a1_1, .int .i64 a2_0, .int .i64 a2_1]) (ok := fun _ => True) (okp := fun _ => True) ?hr ?hp (fun _ hk => hk) trivial (Below.refl _ _) (Nat.le_refl _) (by simp) ?_; (case hd => rfl); (case hg => rfl); (case hr => first | (go_simp; done) | (go_simp; rfl)); (case hp => exact (Reps.c2 (show Kd.M k23 _ _ _ (⟨a0_0, a0_1⟩ : S23) [.int .i64 a0_0, .int .i64 a0_1] from (k23_mkM _ _ _ (⟨a0_0, a0_1⟩ : S23) )) (Reps.c2 (show Kd.M k23 _ _ _ (⟨a1_0, a1_1⟩ : S23) [.int .i64 a1_0, .int .i64 a1_1] from (k23_mkM _ _ _ (⟨a1_0, a1_1⟩ : S23) )) (Reps.c2 (show Kd.M k23 _ _ _ (⟨a2_0, a2_1⟩ : S23) [.int .i64 a2_0, .int .i64 a2_1] from (k23_mkM _ _ _ (⟨a2_0, a2_1⟩ : S23) )) (Reps.none _ _))))); intro v370 w33 ho34 hb hg_ hnew_; clear hg_ hnew_; (first | rw [← Ny369.out] at ho34 | (simp only [Int.reduceToNat] at ho34; rw [← Ny369.out] at ho34)); have n0_ := Aside0.mk (Kd.R_lower (Kd.R_newB (Kd.R_newB (Kd.R_newB ho34 (bk BK366.out)) (bk BK367.out)) (bk BK368.out)) (below_size (bw HB.out))); have n1_ := u1 BK366 hb; have n2_ := u1 BK367 hb; have n3_ := u1 BK368 hb; have n4_ := u2 HB hb; clear BK366; clear BK367; clear BK368; clear HB; have HO371 := n0_; have BK366 := n1_; have BK367 := n2_; have BK368 := n3_; have HB := n4_; clear n0_ n1_ n2_ n3_ n4_; clear hb ho34; obtain ⟨Ao35, co35, eo35⟩ := Kd.R_slice HO371.out; subst eo35) | ((with_reducible refine gate_callee (f := 23) rfl ?_); refine gL (some 11) Try.func23 #[.slice Ao35 y369.length co35] rfl ?_; (with_reducible refine (pred_can.calls k _ _ y369 false _ ?side1 ?side2 A4.out).mono ?_); (case side1 => repeat (first | exact (Kd.R_reads' HO371.out).2.2 | (with_reducible refine Kd.C_alloc ?_ _) | (with_reducible refine Kd.C_drewN ?_ _) | (with_reducible refine Kd.C_drew ?_))); (case side2 => exact (Kd.R_reads' HO371.out).2.1); rintro e w36 ⟨rfl, hb⟩; refine ⟨_, rfl, ?_⟩; have n0_ := Aside0.mk (Kd.R_below (by (with_reducible repeat (first | apply Kd.R_alloc | apply Kd.R_drewN | apply Kd.R_drew)); exact HO371.out) hb); have n1_ := u1 BK366 hb; have n2_ := u1 BK367 hb; have n3_ := u1 BK368 hb; have n4_ := u2 HB hb; clear HO371; clear BK366; clear BK367; clear BK368; clear HB; have HO371 := n0_; have BK366 := n1_; have BK367 := n2_; have BK368 := n3_; have HB := n4_; clear n0_ n1_ n2_ n3_ n4_; clear hb))
  go_ret
  exact ⟨by first | rfl | (simp [*, errW_none, errW_some] <;> rfl), bw HB.out⟩
end Go.Proofs.Ytmeckkckjikjiaa.F
end
