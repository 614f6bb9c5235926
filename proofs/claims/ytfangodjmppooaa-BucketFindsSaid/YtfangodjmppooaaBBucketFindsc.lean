/- BucketFinds: own texts in one (part 3 of 4): contracts of the functions that the law reaches. -/
import Derived.Test.YtfangodjmppooaaBBucketFindsb

section
namespace Go.Proofs.Ytfangodjmppooaa.F
open RowKit YtfangodjmppooaaW.PrintWords YtfangodjmppooaaW.PrintLast YtfangodjmppooaaW.PrintMore
attribute [local go_sem] max2_int min2_int max_two min_two max_three min_three max_four min_four
set_option linter.unusedVariables false
set_option linter.unusedSimpArgs false
mutual
def zelligeref03_DivMod.l0 : Nat → List Int → List Int → List Int → List Int → Int → Option (List Int × List Int)
 | 0, _, _, _, _, _ => none
 | k + 1, x0, x1, x6, x7, x8 => if x8 ≥ 0 then ((zelligeref03_Add.f k x7 x7).bind fun t264 => (if 0 ≤ (wrap64 (Int.tdiv x8 16)) then (if (wrap64 (Int.tdiv x8 16)) < (x0.length : Int) then (if 0 ≤ (IntKind.u64.wrap (Int.tmod x8 16)) then (if (Int.tmod (shr .i64 (rd x0 (wrap64 (Int.tdiv x8 16))) (IntKind.u64.wrap (Int.tmod x8 16))) 2) = 1 then ((zelligeref03_Add.f k t264 (([1] : List Int))).bind fun t271 => (zelligeref03_DivMod.j1 k x0 x1 x6 t271 x8)) else (zelligeref03_DivMod.j1 k x0 x1 x6 t264 x8)) else (none)) else (none)) else (none))) else ((zelligeref03_Trim.f k x6).bind fun t261 => (some (t261, x7)))
def zelligeref03_DivMod.j1 : Nat → List Int → List Int → List Int → List Int → Int → Option (List Int × List Int)
 | 0, _, _, _, _, _ => none
 | k + 1, x0, x1, x6, x7, x8 => (zelligeref03_Cmp.f k x7 x1).bind fun t274 => (if t274 ≥ 0 then ((zelligeref03_Sub.f k x7 x1).bind fun t275 => (if 0 ≤ (wrap64 (Int.tdiv x8 16)) then (if (wrap64 (Int.tdiv x8 16)) < (x6.length : Int) then (if 0 ≤ (IntKind.u64.wrap (Int.tmod x8 16)) then (zelligeref03_DivMod.l0 k x0 x1 (x6.set ((wrap64 (Int.tdiv x8 16)) : Int).toNat (wrap64 ((rd x6 (wrap64 (Int.tdiv x8 16))) + (shl .i64 1 (IntKind.u64.wrap (Int.tmod x8 16)))))) t275 (wrap64 (x8 - 1))) else (none)) else (none)) else (none))) else (zelligeref03_DivMod.l0 k x0 x1 x6 x7 (wrap64 (x8 - 1))))
end
def zelligeref03_DivMod.f (k : Nat) (l0 : List Int) (l1 : List Int) : Option (List Int × List Int) := if 0 ≤ (l0.length : Int) then (if ((l0.length : Int) : Int).toNat ≤ 35184372088832 then (zelligeref03_DivMod.l0 k l0 l1 (List.replicate ((l0.length : Int) : Int).toNat 0) (([] : List Int)) (wrap64 ((wrap64 (16 * (l0.length : Int))) - 1))) else (none)) else (none)
theorem zelligeref03_DivMod.mono_l : ∀ k, (∀ y0 y1 y2 y3 y4, LeO (zelligeref03_DivMod.l0 k y0 y1 y2 y3 y4) (zelligeref03_DivMod.l0 (k + 1) y0 y1 y2 y3 y4)) ∧ (∀ y0 y1 y2 y3 y4, LeO (zelligeref03_DivMod.j1 k y0 y1 y2 y3 y4) (zelligeref03_DivMod.j1 (k + 1) y0 y1 y2 y3 y4))
 | 0 => ⟨fun _ _ _ _ _ r h => by simp [zelligeref03_DivMod.l0] at h, fun _ _ _ _ _ r h => by simp [zelligeref03_DivMod.j1] at h⟩
 | k + 1 => by
  obtain ⟨ih0, ih1⟩ := zelligeref03_DivMod.mono_l k
  refine ⟨?_, ?_⟩
  ·intro y0 y1 y2 y3 y4
   unfold zelligeref03_DivMod.l0
   repeat' first
   | (with_reducible exact ih0 _ _ _ _ _)
   | (with_reducible exact ih1 _ _ _ _ _)
   | (with_reducible exact zelligeref03_Add.mono _ _ _)
   | (with_reducible exact zelligeref03_Cmp.mono _ _ _)
   | (with_reducible exact zelligeref03_Sub.mono _ _ _)
   | (with_reducible exact zelligeref03_Trim.mono _ _)
   | (with_reducible exact LeO.refl _)
   | (with_reducible exact LeO.none _)
   | (with_reducible refine LeO.ite ?_ ?_)
   | (with_reducible refine LeO.bind ?_ (fun _ => ?_))
   | exact ih0 _ _ _ _ _
   | exact ih1 _ _ _ _ _
   | exact zelligeref03_Add.mono _ _ _
   | exact zelligeref03_Cmp.mono _ _ _
   | exact zelligeref03_Sub.mono _ _ _
   | exact zelligeref03_Trim.mono _ _
   | exact LeO.none _
   | refine LeO.ite ?_ ?_
   | refine LeO.bind ?_ (fun _ => ?_)
  ·intro y0 y1 y2 y3 y4
   unfold zelligeref03_DivMod.j1
   repeat' first
   | (with_reducible exact ih0 _ _ _ _ _)
   | (with_reducible exact ih1 _ _ _ _ _)
   | (with_reducible exact zelligeref03_Add.mono _ _ _)
   | (with_reducible exact zelligeref03_Cmp.mono _ _ _)
   | (with_reducible exact zelligeref03_Sub.mono _ _ _)
   | (with_reducible exact zelligeref03_Trim.mono _ _)
   | (with_reducible exact LeO.refl _)
   | (with_reducible exact LeO.none _)
   | (with_reducible refine LeO.ite ?_ ?_)
   | (with_reducible refine LeO.bind ?_ (fun _ => ?_))
   | exact ih0 _ _ _ _ _
   | exact ih1 _ _ _ _ _
   | exact zelligeref03_Add.mono _ _ _
   | exact zelligeref03_Cmp.mono _ _ _
   | exact zelligeref03_Sub.mono _ _ _
   | exact zelligeref03_Trim.mono _ _
   | exact LeO.none _
   | refine LeO.ite ?_ ?_
   | refine LeO.bind ?_ (fun _ => ?_)
theorem zelligeref03_DivMod.mono : ∀ a0 a1 k, LeO (zelligeref03_DivMod.f k a0 a1) (zelligeref03_DivMod.f (k + 1) a0 a1) := by
 intro a0 a1 k
 obtain ⟨ih0, ih1⟩ := zelligeref03_DivMod.mono_l k
 unfold zelligeref03_DivMod.f
 repeat' first
   | (with_reducible exact ih0 _ _ _ _ _)
   | (with_reducible exact ih1 _ _ _ _ _)
   | (with_reducible exact zelligeref03_Add.mono _ _ _)
   | (with_reducible exact zelligeref03_Cmp.mono _ _ _)
   | (with_reducible exact zelligeref03_Sub.mono _ _ _)
   | (with_reducible exact zelligeref03_Trim.mono _ _)
   | (with_reducible exact LeO.refl _)
   | (with_reducible exact LeO.none _)
   | (with_reducible refine LeO.ite ?_ ?_)
   | (with_reducible refine LeO.bind ?_ (fun _ => ?_))
   | exact ih0 _ _ _ _ _
   | exact ih1 _ _ _ _ _
   | exact zelligeref03_Add.mono _ _ _
   | exact zelligeref03_Cmp.mono _ _ _
   | exact zelligeref03_Sub.mono _ _ _
   | exact zelligeref03_Trim.mono _ _
   | exact LeO.none _
   | refine LeO.ite ?_ ?_
   | refine LeO.bind ?_ (fun _ => ?_)
set_option maxHeartbeats 8000000 in
set_option maxRecDepth 100000 in
theorem zelligeref03_DivMod.calls (k : Nat) (A0 : Option Addr) (c0 : Nat) (l0 : List Int) (A1 : Option Addr) (c1 : Nat) (l1 : List Int) (r1 : List Int) (r2 : List Int) (w : World) (hr0 : Kd.C (Kd.int .i64) w A0 l0.length l0) (hc0 : l0.length ≤ c0) (hr1 : Kd.C (Kd.int .i64) w A1 l1.length l1) (hc1 : l1.length ≤ c1) (h : zelligeref03_DivMod.f k l0 l1 = some (r1, r2)) :
  Calls Try.prog 39 #[.slice A0 l0.length c0, .slice A1 l1.length c1] w fun e w' => ∃ v0_ v1_ : Value, e = .returned (.tuple #[v0_, v1_]) ∧ Kd.R (Kd.int .i64) 3 w' w.heap.size (fun k_ => some k_ ≠ (v1_ : Value).ownBlock) v0_ r1 ∧ Kd.R (Kd.int .i64) 3 w' w.heap.size (fun k_ => some k_ ≠ (v0_ : Value).ownBlock) v1_ r2 ∧ Below w.heap.size w w' := by
 have HR0 := Aside0.mk hr0
 have HC0 := Aside0.mk hc0
 clear hr0 hc0
 have HR1 := Aside0.mk hr1
 have HC1 := Aside0.mk hc1
 clear hr1 hc1
 have HB := Aside0.mk (Below.refl w.heap.size w)
 have H : (if 0 ≤ (l0.length : Int) then (if ((l0.length : Int) : Int).toNat ≤ 35184372088832 then (zelligeref03_DivMod.l0 k l0 l1 (List.replicate ((l0.length : Int) : Int).toNat 0) (([] : List Int)) (wrap64 ((wrap64 (16 * (l0.length : Int))) - 1))) else (none)) else (none)) = some (r1, r2) := h
 clear h
 by_cases c3 : 0 ≤ (l0.length : Int)
 ·rw [if_pos c3] at H
  have c3b0 := eq_true c3
  have c3b1 : decide (0 ≤ (l0.length : Int)) = true := decide_eq_true c3
  clear c3
  by_cases c4 : ((l0.length : Int) : Int).toNat ≤ 35184372088832
  ·rw [if_pos c4] at H
   have c4b0 := eq_true c4
   have c4b1 : decide (((l0.length : Int) : Int).toNat ≤ 35184372088832) = true := decide_eq_true c4
   clear c4
   obtain ⟨y255, hy255⟩ : ∃ y_ : List Int, y_ = (List.replicate ((l0.length : Int) : Int).toNat 0) := ⟨_, rfl⟩
   replace H : (zelligeref03_DivMod.l0 k l0 l1 y255 (([] : List Int)) (wrap64 ((wrap64 (16 * (l0.length : Int))) - 1))) = some (r1, r2) := by first | (rw [hy255]; with_reducible exact H) | (have H2_ := (Option.bind_some _ _).symm.trans H; rw [hy255]; with_reducible exact H2_) | (have H2_ := (Option.bind_some _ _).symm.trans H; with_reducible exact H2_) | with_reducible exact H | (rw [hy255]; exact H) | exact H
   have Ny255 := Aside0.mk hy255
   clear hy255
   obtain ⟨y258, hy258⟩ : ∃ y_ : List Int, y_ = (([] : List Int)) := ⟨_, rfl⟩
   replace H : (zelligeref03_DivMod.l0 k l0 l1 y255 y258 (wrap64 ((wrap64 (16 * (l0.length : Int))) - 1))) = some (r1, r2) := by first | (rw [hy258]; with_reducible exact H) | (have H2_ := (Option.bind_some _ _).symm.trans H; rw [hy258]; with_reducible exact H2_) | (have H2_ := (Option.bind_some _ _).symm.trans H; with_reducible exact H2_) | with_reducible exact H | (rw [hy258]; exact H) | exact H
   have Ny258 := Aside0.mk hy258
   clear hy258
   have H' := Aside0.mk H
   clear H
   go_enter Try.func39, Try.ntmps39
   go_wp2_with (first | ((with_reducible refine gate_dst (N := 11) rfl ?_); refine Kd.R_make (Kd.int .i64) _ 3 rfl (N := 11) rfl 57 _ _ rfl (l0.length : Int) rfl rfl Try.underlying57 (.int .i64 0) 8 info3 rfl (by decide) (by omega) 0 (ok := fun _ => True) (okp := fun _ => True) rfl (fun _ hk => hk) trivial (of_decide_eq_true (by first | (with_reducible assumption) | assumption)) (Nat.le_trans (Nat.mul_le_mul_right _ (of_decide_eq_true (by first | (with_reducible assumption) | assumption) : (l0.length : Int).toNat ≤ 35184372088832)) (by omega)) (Below.refl _ _) (Nat.le_refl _) ?_; intro v256 w5 ho6 hb hg_ hnew_; clear hg_ hnew_; (first | rw [← Ny255.out] at ho6 | (simp only [Int.reduceToNat] at ho6; rw [← Ny255.out] at ho6)); have n0_ := Aside0.mk (Kd.R_lower ho6 (below_size (bw HB.out))); have n1_ := u2 HB hb; clear HB; have HO257 := n0_; have HB := n1_; clear n0_ n1_; clear hb ho6) | ((with_reducible refine gate_dst (N := 12) rfl ?_); refine Kd.R_lit (Kd.int .i64) _ 3 ?hg (N := 12) ?hd (xs := ([] : List Int)) (inner := []) (ok := fun _ => True) (okp := fun _ => True) ?hr ?hp (fun _ hk => hk) trivial (Below.refl _ _) (Nat.le_refl _) (by simp) ?_; (case hd => rfl); (case hg => rfl); (case hr => first | (go_simp; done) | (go_simp; rfl)); (case hp => exact (Reps.none _ _)); intro v259 w7 ho8 hb hg_ hnew_; clear hg_ hnew_; (first | rw [← Ny258.out] at ho8 | (simp only [Int.reduceToNat] at ho8; rw [← Ny258.out] at ho8)); have n0_ := Aside0.mk (Kd.R_elder' (by (with_reducible repeat (first | apply Kd.R_alloc | apply Kd.R_drewN | apply Kd.R_drew)); exact HO257.out) (Kd.R_base ho8) hb); have n1_ := Aside0.mk (Kd.R_lower (Kd.R_new' ho8 (Kd.R_lt (by (with_reducible repeat (first | apply Kd.R_alloc | apply Kd.R_drewN | apply Kd.R_drew)); exact HO257.out))) (below_size (bw HB.out))); have n2_ := u2 HB hb; clear HO257; clear HB; have HO257 := n0_; have HO260 := n1_; have HB := n2_; clear n0_ n1_ n2_; clear hb ho8))
   go_loopg [7, 8] k (fun kq v7 v8 w' => ∃ (x6_1 : List Int) (x7_1 : List Int) (x8_1 : Int), v8 = .int .i64 x8_1 ∧ Aside0 (zelligeref03_DivMod.l0 kq l0 l1 x6_1 x7_1 x8_1 = some (r1, r2)) ∧ Aside0 (kq ≤ k) ∧ Aside0 (Kd.R (Kd.int .i64) 3 w' w.heap.size (fun k_ => some k_ ≠ (v7 : Value).ownBlock) v256 x6_1) ∧ Aside0 (Kd.R (Kd.int .i64) 3 w' w.heap.size (fun k_ => some k_ ≠ (v256 : Value).ownBlock) v7 x7_1) ∧ Aside0 (Below w.heap.size w w'))
   case atStart => exact ⟨(y255), (y258), (wrap64 ((wrap64 (16 * (l0.length : Int))) - 1)), (by first | rfl | (simp; done) | (simp [*]; done)), H', ⟨Nat.le_refl _⟩, ⟨by (with_reducible repeat (first | apply Kd.R_alloc | apply Kd.R_drewN | apply Kd.R_drew)); exact Kd.R_mono HO257.out (fun _ hk => hk.2)⟩, ⟨by (with_reducible repeat (first | apply Kd.R_alloc | apply Kd.R_drewN | apply Kd.R_drew)); exact Kd.R_mono HO260.out (fun _ hk => hk.2)⟩, ⟨bw HB.out⟩⟩
   case round =>
    clear H'
    try clear c1
    try clear p2
    try clear c3
    try clear c3b0
    try clear c3b1
    try clear c4
    try clear c4b0
    try clear c4b1
    try clear p6
    obtain ⟨x6_1, x7_1, x8_1, rfl, HA, HK1, HO_6, HO_7, HB⟩ := hrel
    cases gk with
    | zero => exact absurd HA.out (by simp [zelligeref03_DivMod.l0])
    | succ k1 =>
     have H := HA.out
     clear HA
     simp only [zelligeref03_DivMod.l0] at H
     by_cases c9 : x8_1 ≥ 0
     ·rw [if_pos c9] at H
      have c9b0 : decide (0 ≤ x8_1) = true := decide_eq_true c9
      clear c9
      replace H := Option.bind_eq_some_iff.mp H
      obtain ⟨t264, A100, H⟩ := H
      try dsimp only at H
      have A10 := Aside0.mk A100
      clear A100
      obtain ⟨ji11, hji11⟩ : ∃ j_ : Int, (wrap64 (Int.tdiv x8_1 16)) = j_ := ⟨_, rfl⟩
      replace H : (if 0 ≤ (ji11) then (if (ji11) < (l0.length : Int) then (if 0 ≤ (IntKind.u64.wrap (Int.tmod x8_1 16)) then (if (Int.tmod (shr .i64 (rd l0 (ji11)) (IntKind.u64.wrap (Int.tmod x8_1 16))) 2) = 1 then ((zelligeref03_Add.f k1 t264 (([1] : List Int))).bind fun t271 => (zelligeref03_DivMod.j1 k1 l0 l1 x6_1 t271 x8_1)) else (zelligeref03_DivMod.j1 k1 l0 l1 x6_1 t264 x8_1)) else (none)) else (none)) else (none)) = some (r1, r2) := by first | (rw [hji11] at H; exact H) | (simp only [hji11] at H ⊢; exact H)
      (try rw [hji11] at A10)
      have hji11w : (IntKind.i64.wrap (Int.tdiv x8_1 16)) = ji11 := (i64_w _).trans hji11
      by_cases c12 : 0 ≤ (ji11)
      ·rw [if_pos c12] at H
       have c12b0 : decide (0 ≤ (ji11)) = true := decide_eq_true c12
       clear c12
       by_cases c13 : (ji11) < (l0.length : Int)
       ·rw [if_pos c13] at H
        have c13b0 : decide ((ji11) < (l0.length : Int)) = true := decide_eq_true c13
        clear c13
        obtain ⟨ji14, hji14⟩ : ∃ j_ : Int, (IntKind.u64.wrap (Int.tmod x8_1 16)) = j_ := ⟨_, rfl⟩
        replace H : (if 0 ≤ (ji14) then (if (Int.tmod (shr .i64 (rd l0 (ji11)) (ji14)) 2) = 1 then ((zelligeref03_Add.f k1 t264 (([1] : List Int))).bind fun t271 => (zelligeref03_DivMod.j1 k1 l0 l1 x6_1 t271 x8_1)) else (zelligeref03_DivMod.j1 k1 l0 l1 x6_1 t264 x8_1)) else (none)) = some (r1, r2) := by first | (rw [hji14] at H; exact H) | (simp only [hji14] at H ⊢; exact H)
        (try rw [hji14] at A10)
        by_cases c15 : 0 ≤ (ji14)
        ·rw [if_pos c15] at H
         have c15b0 := eq_true c15
         have c15b1 : decide (0 ≤ (ji14)) = true := decide_eq_true c15
         clear c15
         obtain ⟨ji16, hji16⟩ : ∃ j_ : Int, (shr .i64 (rd l0 (ji11)) (ji14)) = j_ := ⟨_, rfl⟩
         replace H : (if (Int.tmod (ji16) 2) = 1 then ((zelligeref03_Add.f k1 t264 (([1] : List Int))).bind fun t271 => (zelligeref03_DivMod.j1 k1 l0 l1 x6_1 t271 x8_1)) else (zelligeref03_DivMod.j1 k1 l0 l1 x6_1 t264 x8_1)) = some (r1, r2) := by first | (rw [hji16] at H; exact H) | (simp only [hji16] at H ⊢; exact H)
         (try rw [hji16] at A10)
         have hji16_ : ((rd l0 (ji11)) / 2 ^ min (ji14).toNat 64) = ji16 := hji16
         have hji16z : (ji14) ≤ 64 → ((rd l0 (ji11)) / 2 ^ (ji14).toNat) = ji16 := shr_small hji16
         have HC17 := Aside0.mk H
         clear H
         obtain ⟨Ao18, co18, eo18⟩ := Kd.R_slice HO_7.out
         subst eo18
         go_upto_if 34 with (first | ((with_reducible refine gate_callee (f := 46) rfl ?_); refine gL (some 23) Try.func46 #[.slice Ao18 x7_1.length co18, .slice Ao18 x7_1.length co18] rfl ?_; (with_reducible refine (zelligeref03_Add.calls k1 _ _ x7_1 _ _ x7_1 t264 _ ?side1 ?side2 ?side3 ?side4 A10.out).mono ?_); (case side1 => repeat (first | exact (Kd.R_reads' HO_7.out).2.2 | (with_reducible refine Kd.C_alloc ?_ _) | (with_reducible refine Kd.C_drewN ?_ _) | (with_reducible refine Kd.C_drew ?_))); (case side2 => exact (Kd.R_reads' HO_7.out).2.1); (case side3 => repeat (first | exact (Kd.R_reads' HO_7.out).2.2 | (with_reducible refine Kd.C_alloc ?_ _) | (with_reducible refine Kd.C_drewN ?_ _) | (with_reducible refine Kd.C_drew ?_))); (case side4 => exact (Kd.R_reads' HO_7.out).2.1); rintro e w19 ⟨v265, rfl, ho0, hb⟩; refine ⟨_, rfl, ?_⟩; have n0_ := Aside0.mk (Kd.R_elder' (by (with_reducible repeat (first | apply Kd.R_alloc | apply Kd.R_drewN | apply Kd.R_drew)); exact HO_6.out) (Kd.R_base ho0) hb); have n1_ := Aside0.mk (Kd.R_elder' (by (with_reducible repeat (first | apply Kd.R_alloc | apply Kd.R_drewN | apply Kd.R_drew)); exact HO_7.out) (Kd.R_base ho0) hb); have n2_ := Aside0.mk (Kd.R_lower (Kd.R_new' (Kd.R_new' ho0 (Kd.R_lt (by (with_reducible repeat (first | apply Kd.R_alloc | apply Kd.R_drewN | apply Kd.R_drew)); exact HO_6.out))) (Kd.R_lt (by (with_reducible repeat (first | apply Kd.R_alloc | apply Kd.R_drewN | apply Kd.R_drew)); exact HO_7.out))) (below_size (bw HB.out))); have n3_ := u2 HB hb; clear HO_6; clear HO_7; clear HB; have HO_6 := n0_; have HO_7 := n1_; have HO266 := n2_; have HB := n3_; clear n0_ n1_ n2_ n3_; (try clear hb); (try clear hb2); (try clear hk); (try clear hi); (try clear ho0); have p267 : 0 ≤ ((ji11) : Int) := dt_; have q267 : (ji11) < (l0.length : Int) := dt_; obtain ⟨ad267, e267, hx267_0⟩ := Kd.at_int HR0.out (ji11) p267 q267; cases e267; replace hx267_0 := (HB.out.cell (World.block_lt_of_cell? w _ hx267_0)).trans hx267_0; replace p267 := eq_true p267; replace q267 := eq_true q267))
         (try simp only [Act.put, List.setIfInBounds_toArray, List.set_cons_zero, List.set_cons_succ])
         go_cut [7] (fun v7 wc => ∃ (kq : Nat) (x7_16 : List Int), Aside0 (zelligeref03_DivMod.j1 kq l0 l1 x6_1 x7_16 x8_1 = some (r1, r2)) ∧ Aside0 (kq ≤ k1) ∧ Aside0 (Kd.R (Kd.int .i64) 3 wc w.heap.size (fun k_ => some k_ ≠ (v7 : Value).ownBlock) v256 x6_1) ∧ Aside0 (Kd.R (Kd.int .i64) 3 wc w.heap.size (fun k_ => some k_ ≠ (v256 : Value).ownBlock) v7 x7_16) ∧ Aside0 (Below w.heap.size w wc))
         case first =>
          have H := HC17.out
          clear HC17
          by_cases c20 : (Int.tmod (ji16) 2) = 1
          ·rw [if_pos c20] at H
           have c20b0 : ((Int.tmod (ji16) 2) == 1) = true := beq_iff_eq.mpr c20
           have c20b1 : ((Int.tmod (ji16) 2) != 1) = false := bne_eq_false_iff_eq.mpr c20
           clear c20
           (first | rw [c20b0] | (simp only [i64_w, i32_w]; rw [c20b0]) | skip)
           obtain ⟨y268, hy268⟩ : ∃ y_ : List Int, y_ = (([1] : List Int)) := ⟨_, rfl⟩
           replace H : ((zelligeref03_Add.f k1 t264 y268).bind fun t271 => (zelligeref03_DivMod.j1 k1 l0 l1 x6_1 t271 x8_1)) = some (r1, r2) := by first | (rw [hy268]; with_reducible exact H) | (have H2_ := (Option.bind_some _ _).symm.trans H; rw [hy268]; with_reducible exact H2_) | (have H2_ := (Option.bind_some _ _).symm.trans H; with_reducible exact H2_) | with_reducible exact H | (rw [hy268]; exact H) | exact H
           have Ny268 := Aside0.mk hy268
           clear hy268
           replace H := Option.bind_eq_some_iff.mp H
           obtain ⟨t271, A210, H⟩ := H
           try dsimp only at H
           have A21 := Aside0.mk A210
           clear A210
           have H' := Aside0.mk H
           clear H
           go_wp2_with (first | ((with_reducible refine gate_dst (N := 36) rfl ?_); refine Kd.R_lit (Kd.int .i64) _ 3 ?hg (N := 36) ?hd (xs := ([1] : List Int)) (inner := [.int .i64 1]) (ok := fun _ => True) (okp := fun _ => True) ?hr ?hp (fun _ hk => hk) trivial (Below.refl _ _) (Nat.le_refl _) (by simp) ?_; (case hd => rfl); (case hg => rfl); (case hr => first | (go_simp; done) | (go_simp; rfl)); (case hp => exact (Reps.one (show Kd.M (Kd.int .i64) _ _ _ 1 [.int .i64 1] from rfl) (Reps.none _ _))); intro v269 w22 ho23 hb hg_ hnew_; clear hg_ hnew_; (first | rw [← Ny268.out] at ho23 | (simp only [Int.reduceToNat] at ho23; rw [← Ny268.out] at ho23)); have n0_ := Aside0.mk (Kd.R_elder' (by (with_reducible repeat (first | apply Kd.R_alloc | apply Kd.R_drewN | apply Kd.R_drew)); exact HO_6.out) (Kd.R_base ho23) hb); have n1_ := Aside0.mk (Kd.R_elder' (by (with_reducible repeat (first | apply Kd.R_alloc | apply Kd.R_drewN | apply Kd.R_drew)); exact HO_7.out) (Kd.R_base ho23) hb); have n2_ := Aside0.mk (Kd.R_elder' (by (with_reducible repeat (first | apply Kd.R_alloc | apply Kd.R_drewN | apply Kd.R_drew)); exact HO266.out) (Kd.R_base ho23) hb); have n3_ := Aside0.mk (Kd.R_lower (Kd.R_new' (Kd.R_new' (Kd.R_new' ho23 (Kd.R_lt (by (with_reducible repeat (first | apply Kd.R_alloc | apply Kd.R_drewN | apply Kd.R_drew)); exact HO_6.out))) (Kd.R_lt (by (with_reducible repeat (first | apply Kd.R_alloc | apply Kd.R_drewN | apply Kd.R_drew)); exact HO_7.out))) (Kd.R_lt (by (with_reducible repeat (first | apply Kd.R_alloc | apply Kd.R_drewN | apply Kd.R_drew)); exact HO266.out))) (below_size (bw HB.out))); have n4_ := u2 HB hb; clear HO_6; clear HO_7; clear HO266; clear HB; have HO_6 := n0_; have HO_7 := n1_; have HO266 := n2_; have HO270 := n3_; have HB := n4_; clear n0_ n1_ n2_ n3_ n4_; clear hb ho23; obtain ⟨Ao24, co24, eo24⟩ := Kd.R_slice HO266.out; subst eo24; obtain ⟨Ao25, co25, eo25⟩ := Kd.R_slice HO270.out; subst eo25) | ((with_reducible refine gate_callee (f := 46) rfl ?_); refine gL (some 37) Try.func46 #[.slice Ao24 t264.length co24, .slice Ao25 y268.length co25] rfl ?_; (with_reducible refine (zelligeref03_Add.calls k1 _ _ t264 _ _ y268 t271 _ ?side1 ?side2 ?side3 ?side4 A21.out).mono ?_); (case side1 => repeat (first | exact (Kd.R_reads' HO266.out).2.2 | (with_reducible refine Kd.C_alloc ?_ _) | (with_reducible refine Kd.C_drewN ?_ _) | (with_reducible refine Kd.C_drew ?_))); (case side2 => exact (Kd.R_reads' HO266.out).2.1); (case side3 => repeat (first | exact (Kd.R_reads' HO270.out).2.2 | (with_reducible refine Kd.C_alloc ?_ _) | (with_reducible refine Kd.C_drewN ?_ _) | (with_reducible refine Kd.C_drew ?_))); (case side4 => exact (Kd.R_reads' HO270.out).2.1); rintro e w26 ⟨v272, rfl, ho0, hb⟩; refine ⟨_, rfl, ?_⟩; have n0_ := Aside0.mk (Kd.R_elder' (by (with_reducible repeat (first | apply Kd.R_alloc | apply Kd.R_drewN | apply Kd.R_drew)); exact HO_6.out) (Kd.R_base ho0) hb); have n1_ := Aside0.mk (Kd.R_elder' (by (with_reducible repeat (first | apply Kd.R_alloc | apply Kd.R_drewN | apply Kd.R_drew)); exact HO_7.out) (Kd.R_base ho0) hb); have n2_ := Aside0.mk (Kd.R_elder' (by (with_reducible repeat (first | apply Kd.R_alloc | apply Kd.R_drewN | apply Kd.R_drew)); exact HO266.out) (Kd.R_base ho0) hb); have n3_ := Aside0.mk (Kd.R_elder' (by (with_reducible repeat (first | apply Kd.R_alloc | apply Kd.R_drewN | apply Kd.R_drew)); exact HO270.out) (Kd.R_base ho0) hb); have n4_ := Aside0.mk (Kd.R_lower (Kd.R_new' (Kd.R_new' (Kd.R_new' (Kd.R_new' ho0 (Kd.R_lt (by (with_reducible repeat (first | apply Kd.R_alloc | apply Kd.R_drewN | apply Kd.R_drew)); exact HO_6.out))) (Kd.R_lt (by (with_reducible repeat (first | apply Kd.R_alloc | apply Kd.R_drewN | apply Kd.R_drew)); exact HO_7.out))) (Kd.R_lt (by (with_reducible repeat (first | apply Kd.R_alloc | apply Kd.R_drewN | apply Kd.R_drew)); exact HO266.out))) (Kd.R_lt (by (with_reducible repeat (first | apply Kd.R_alloc | apply Kd.R_drewN | apply Kd.R_drew)); exact HO270.out))) (below_size (bw HB.out))); have n5_ := u2 HB hb; clear HO_6; clear HO_7; clear HO266; clear HO270; clear HB; have HO_6 := n0_; have HO_7 := n1_; have HO266 := n2_; have HO270 := n3_; have HO273 := n4_; have HB := n5_; clear n0_ n1_ n2_ n3_ n4_ n5_; (try clear hb); (try clear hb2); (try clear hk); (try clear hi); (try clear ho0)))
           go_meet
           case rel => exact ⟨_, (t271), H', ⟨by have := HK1.out; first | omega | exact Nat.le_refl _⟩, ⟨by (with_reducible repeat (first | apply Kd.R_alloc | apply Kd.R_drewN | apply Kd.R_drew)); exact Kd.R_mono HO_6.out (fun _ hk => hk.2)⟩, ⟨by (with_reducible repeat (first | apply Kd.R_alloc | apply Kd.R_drewN | apply Kd.R_drew)); exact Kd.R_mono HO273.out (fun _ hk => hk.1.1.1.2)⟩, ⟨bw HB.out⟩⟩
          ·rw [if_neg c20] at H
           have c20b0 : ((Int.tmod (ji16) 2) == 1) = false := beq_eq_false_iff_ne.mpr c20
           have c20b1 : ((Int.tmod (ji16) 2) != 1) = true := bne_iff_ne.mpr c20
           (first | rw [c20b0] | (simp only [i64_w, i32_w]; rw [c20b0]) | skip)
           have H' := Aside0.mk H
           clear H
           go_wp2
           go_meet
           case rel => exact ⟨_, (t264), H', ⟨by have := HK1.out; first | omega | exact Nat.le_refl _⟩, ⟨by (with_reducible repeat (first | apply Kd.R_alloc | apply Kd.R_drewN | apply Kd.R_drew)); exact Kd.R_mono HO_6.out (fun _ hk => hk.2)⟩, ⟨by (with_reducible repeat (first | apply Kd.R_alloc | apply Kd.R_drewN | apply Kd.R_drew)); exact Kd.R_mono HO266.out (fun _ hk => hk.1.2)⟩, ⟨bw HB.out⟩⟩
         case rest =>
          clear HC17
          try clear c1
          try clear c2
          try clear p2
          try clear q2
          try clear hx2
          try clear c3
          try clear c3b0
          try clear c3b1
          try clear c4
          try clear c4b0
          try clear c4b1
          try clear p6
          try clear c9
          try clear c9b0
          try clear c12
          try clear c12b0
          try clear c13
          try clear c13b0
          try clear c15
          try clear c15b0
          try clear c15b1
          try clear c20
          try clear c20b0
          try clear c20b1
          try clear p26
          try clear q26
          try clear hx26
          try clear hx267_0
          try clear p2
          try clear p267
          try clear p6
          try clear q267
          obtain ⟨kq, x7_16, HA, HJ16, HO_6, HO_7, HB⟩ := hcut
          cases kq with
          | zero => exact absurd HA.out (by simp [zelligeref03_DivMod.j1])
          | succ kj16 =>
           have H := HA.out
           clear HA
           simp only [zelligeref03_DivMod.j1] at H
           replace H := Option.bind_eq_some_iff.mp H
           obtain ⟨t274, A270, H⟩ := H
           try dsimp only at H
           have A27 := Aside0.mk A270
           clear A270
           by_cases c28 : t274 ≥ 0
           ·rw [if_pos c28] at H
            have c28b0 : decide (0 ≤ t274) = true := decide_eq_true c28
            clear c28
            replace H := Option.bind_eq_some_iff.mp H
            obtain ⟨t275, A290, H⟩ := H
            try dsimp only at H
            have A29 := Aside0.mk A290
            clear A290
            (try clear hji11z); (try clear hji11u); (try clear hji11v); (try clear hji11x); (try clear hji11y); (try clear hji11_); (try clear hji11w); (try clear hji11)
            obtain ⟨ji30, hji30⟩ : ∃ j_ : Int, (wrap64 (Int.tdiv x8_1 16)) = j_ := ⟨_, rfl⟩
            replace H : (if 0 ≤ (ji30) then (if (ji30) < (x6_1.length : Int) then (if 0 ≤ (IntKind.u64.wrap (Int.tmod x8_1 16)) then (zelligeref03_DivMod.l0 kj16 l0 l1 (x6_1.set ((ji30) : Int).toNat (wrap64 ((rd x6_1 (ji30)) + (shl .i64 1 (IntKind.u64.wrap (Int.tmod x8_1 16)))))) t275 (wrap64 (x8_1 - 1))) else (none)) else (none)) else (none)) = some (r1, r2) := by first | (rw [hji30] at H; exact H) | (simp only [hji30] at H ⊢; exact H)
            (try rw [hji30] at A27)
            (try rw [hji30] at A29)
            have hji30w : (IntKind.i64.wrap (Int.tdiv x8_1 16)) = ji30 := (i64_w _).trans hji30
            by_cases c31 : 0 ≤ (ji30)
            ·rw [if_pos c31] at H
             have c31b0 : decide (0 ≤ (ji30)) = true := decide_eq_true c31
             clear c31
             by_cases c32 : (ji30) < (x6_1.length : Int)
             ·rw [if_pos c32] at H
              have c32b0 : decide ((ji30) < (x6_1.length : Int)) = true := decide_eq_true c32
              clear c32
              (try clear hji14z); (try clear hji14u); (try clear hji14v); (try clear hji14x); (try clear hji14y); (try clear hji14_); (try clear hji14w); (try clear hji14)
              obtain ⟨ji33, hji33⟩ : ∃ j_ : Int, (IntKind.u64.wrap (Int.tmod x8_1 16)) = j_ := ⟨_, rfl⟩
              replace H : (if 0 ≤ (ji33) then (zelligeref03_DivMod.l0 kj16 l0 l1 (x6_1.set ((ji30) : Int).toNat (wrap64 ((rd x6_1 (ji30)) + (shl .i64 1 (ji33))))) t275 (wrap64 (x8_1 - 1))) else (none)) = some (r1, r2) := by first | (rw [hji33] at H; exact H) | (simp only [hji33] at H ⊢; exact H)
              (try rw [hji33] at A27)
              (try rw [hji33] at A29)
              by_cases c34 : 0 ≤ (ji33)
              ·rw [if_pos c34] at H
               have c34b0 := eq_true c34
               have c34b1 : decide (0 ≤ (ji33)) = true := decide_eq_true c34
               clear c34
               obtain ⟨ji35, hji35⟩ : ∃ j_ : Int, (shl .i64 1 (ji33)) = j_ := ⟨_, rfl⟩
               replace H : (zelligeref03_DivMod.l0 kj16 l0 l1 (x6_1.set ((ji30) : Int).toNat (wrap64 ((rd x6_1 (ji30)) + (ji35)))) t275 (wrap64 (x8_1 - 1))) = some (r1, r2) := by first | (rw [hji35] at H; exact H) | (simp only [hji35] at H ⊢; exact H)
               (try rw [hji35] at A27)
               (try rw [hji35] at A29)
               have hji35_ : (IntKind.i64.wrap (1 * 2 ^ min (ji33).toNat 64)) = ji35 := hji35
               have hji35z : (ji33) ≤ 64 → (IntKind.i64.wrap (1 * 2 ^ (ji33).toNat)) = ji35 := shl_small hji35
               have hji35u : (IntKind.i64.wrap (2 ^ min (ji33).toNat 64)) = ji35 := by have h_ := hji35_; rw [Int.one_mul] at h_; exact h_
               have hji35v : (ji33) ≤ 64 → (IntKind.i64.wrap (2 ^ (ji33).toNat)) = ji35 := fun hle_ => by have h_ := hji35z hle_; rw [Int.one_mul] at h_; exact h_
               have hji35y : (wrap64 (1 * 2 ^ min (ji33).toNat 64)) = ji35 := (i64_w _).symm.trans hji35_
               have hji35x : (ji33) ≤ 64 → (wrap64 (1 * 2 ^ (ji33).toNat)) = ji35 := fun h_ => (i64_w _).symm.trans (hji35z h_)
               obtain ⟨y279, hy279⟩ : ∃ y_ : List Int, y_ = (x6_1.set ((ji30) : Int).toNat (wrap64 ((rd x6_1 (ji30)) + (ji35)))) := ⟨_, rfl⟩
               replace H : (zelligeref03_DivMod.l0 kj16 l0 l1 y279 t275 (wrap64 (x8_1 - 1))) = some (r1, r2) := by first | (rw [hy279]; with_reducible exact H) | (have H2_ := (Option.bind_some _ _).symm.trans H; rw [hy279]; with_reducible exact H2_) | (have H2_ := (Option.bind_some _ _).symm.trans H; with_reducible exact H2_) | with_reducible exact H | (rw [hy279]; exact H) | exact H
               have Ny279 := Aside0.mk hy279
               clear hy279
               have H' := Aside0.mk H
               clear H
               obtain ⟨Ao37, co37, eo37⟩ := Kd.R_slice HO_7.out
               subst eo37
               go_wp2_with (first | ((with_reducible refine gate_callee (f := 47) rfl ?_); refine gL (some 40) Try.func47 #[.slice Ao37 x7_16.length co37, .slice A1 l1.length c1] rfl ?_; (with_reducible refine (zelligeref03_Cmp.calls kj16 _ _ x7_16 _ _ l1 t274 _ ?side1 ?side2 ?side3 ?side4 A27.out).mono ?_); (case side1 => repeat (first | exact (Kd.R_reads' HO_7.out).2.2 | (with_reducible refine Kd.C_alloc ?_ _) | (with_reducible refine Kd.C_drewN ?_ _) | (with_reducible refine Kd.C_drew ?_))); (case side2 => exact (Kd.R_reads' HO_7.out).2.1); (case side3 => repeat (first | exact (Kd.C_below HR1.out HB.out) | (with_reducible refine Kd.C_alloc ?_ _) | (with_reducible refine Kd.C_drewN ?_ _) | (with_reducible refine Kd.C_drew ?_))); (case side4 => exact HC1.out); rintro e w' ⟨rfl, ⟨nd, rfl⟩⟩; refine ⟨_, rfl, ?_⟩; (try (rw [drewN_self wc]; generalize hq_ : World.drewN wc _ = wc; have n0_ : Aside0 (Kd.R (Kd.int .i64) 3 wc w.heap.size (fun k_ => some k_ ≠ (.slice Ao37 x7_16.length co37 : Value).ownBlock) v256 x6_1) := ⟨by rw [← hq_]; exact (by (with_reducible repeat (first | apply Kd.R_alloc | apply Kd.R_drewN | apply Kd.R_drew)); exact HO_6.out)⟩; have n1_ : Aside0 (Kd.R (Kd.int .i64) 3 wc w.heap.size (fun k_ => some k_ ≠ (v256 : Value).ownBlock) (.slice Ao37 x7_16.length co37) x7_16) := ⟨by rw [← hq_]; exact (by (with_reducible repeat (first | apply Kd.R_alloc | apply Kd.R_drewN | apply Kd.R_drew)); exact HO_7.out)⟩; have n2_ : Aside0 (Below w.heap.size w wc) := ⟨by rw [← hq_]; exact (bw HB.out)⟩; clear HO_6 HO_7 HB hq_; have HO_6 := n0_; have HO_7 := n1_; have HB := n2_; clear n0_ n1_ n2_))) | ((with_reducible refine gate_callee (f := 48) rfl ?_); refine gL (some 44) Try.func48 #[.slice Ao37 x7_16.length co37, .slice A1 l1.length c1] rfl ?_; (with_reducible refine (zelligeref03_Sub.calls kj16 _ _ x7_16 _ _ l1 t275 _ ?side1 ?side2 ?side3 ?side4 A29.out).mono ?_); (case side1 => repeat (first | exact (Kd.R_reads' HO_7.out).2.2 | (with_reducible refine Kd.C_alloc ?_ _) | (with_reducible refine Kd.C_drewN ?_ _) | (with_reducible refine Kd.C_drew ?_))); (case side2 => exact (Kd.R_reads' HO_7.out).2.1); (case side3 => repeat (first | exact (Kd.C_below HR1.out HB.out) | (with_reducible refine Kd.C_alloc ?_ _) | (with_reducible refine Kd.C_drewN ?_ _) | (with_reducible refine Kd.C_drew ?_))); (case side4 => exact HC1.out); rintro e w38 ⟨v276, rfl, ho0, hb⟩; refine ⟨_, rfl, ?_⟩; have n0_ := Aside0.mk (Kd.R_elder' (by (with_reducible repeat (first | apply Kd.R_alloc | apply Kd.R_drewN | apply Kd.R_drew)); exact HO_6.out) (Kd.R_base ho0) hb); have n1_ := Aside0.mk (Kd.R_elder' (by (with_reducible repeat (first | apply Kd.R_alloc | apply Kd.R_drewN | apply Kd.R_drew)); exact HO_7.out) (Kd.R_base ho0) hb); have n2_ := Aside0.mk (Kd.R_lower (Kd.R_new' (Kd.R_new' ho0 (Kd.R_lt (by (with_reducible repeat (first | apply Kd.R_alloc | apply Kd.R_drewN | apply Kd.R_drew)); exact HO_6.out))) (Kd.R_lt (by (with_reducible repeat (first | apply Kd.R_alloc | apply Kd.R_drewN | apply Kd.R_drew)); exact HO_7.out))) (below_size (bw HB.out))); have n3_ := u2 HB hb; clear HO_6; clear HO_7; clear HB; have HO_6 := n0_; have HO_7 := n1_; have HO277 := n2_; have HB := n3_; clear n0_ n1_ n2_ n3_; (try clear hb); (try clear hb2); (try clear hk); (try clear hi); (try clear ho0); obtain ⟨Ao39, co39, eo39⟩ := Kd.R_slice HO_6.out; subst eo39; have p278 : 0 ≤ ((ji30) : Int) := dt_; have q278 : (ji30) < (x6_1.length : Int) := dt_; obtain ⟨ad278, e278, hx278_0⟩ := Kd.at_int (Kd.R_reads' HO_6.out).2.2 (ji30) p278 q278; cases e278; replace p278 := eq_true p278; replace q278 := eq_true q278; have p36 : 0 ≤ ((ji30) : Int) := dt_; have q36 : ((ji30) : Int) < ((x6_1.length : Int) : Int) := dt_; obtain ⟨go36, co36, eo36, gb36, gl36, cl36, HG36⟩ := Kd.R_form HO_6.out (by omega); (first | cases eo36 | (injection eo36 with ea_ en_ ec_; (first | subst ea_ | (injection ea_ with ea_; subst ea_)); subst ec_; clear en_)); have GB36 := Aside0.mk gb36; have GG36 := Aside0.mk HG36; clear gb36 gl36 HG36; (first | simp only [add_plain] at hx278_0 | skip); obtain ⟨hx36_0, hf36_0⟩ := Kd.R_celln 0 HO_6.out ((ji30) : Int) p36 q36; replace p36 := eq_true p36; replace q36 := eq_true q36; obtain ⟨hy40_, hz40_⟩ := Kd.R_celln 0 HO_6.out ((ji30) : Int) (of_decide_eq_true (by first | (with_reducible assumption) | assumption)) (of_decide_eq_true (by first | (with_reducible assumption) | assumption)); have HP40 := Kd.R_putg HO_6.out ((ji30) : Int) (wrap64 ((rd x6_1 (ji30)) + (ji35)))) | ((with_reducible refine gate_store (t := 3) (p := 58) rfl ?_); refine store_event (t := 3) (p := 58) (v := ?vo_w41) (w1 := (w38.setCell ⟨go36, ((ji30) : Int).toNat, none⟩ (.int .i64 (wrap64 ((rd x6_1 (ji30)) + (ji35)))))) ?hg ?ho ?hn ?hr ?_; (case ho => rfl); (case hg => rfl); (case hn => rfl); (case hr => first | (go_simp; done) | (go_simp; rfl)); intro w41 hw; have hg : w38.grownBy w41 (some go36) := (by rw [hw]; exact HP40.2); have hp_ : Kd.R (Kd.int .i64) 3 w41 w.heap.size (fun k_ => some k_ ≠ (.slice Ao37 x7_16.length co37 : Value).ownBlock ∧ some k_ ≠ (v276 : Value).ownBlock) (.slice (some ⟨go36, 0, none⟩) x6_1.length co39) y279 := (by rw [hw, Ny279.out]; exact HP40.1); clear HP40; have n0_ := Aside0.mk (hp_); have n1_ := Aside0.mk (Kd.R_after (v := (.slice (some ⟨go36, 0, none⟩) x6_1.length co39)) (v1 := (.slice (some ⟨go36, 0, none⟩) x6_1.length co39)) (ok := (fun k_ => some k_ ≠ (v276 : Value).ownBlock)) (by (with_reducible repeat (first | apply Kd.R_alloc | apply Kd.R_drewN | apply Kd.R_drew)); exact Kd.R_mono HO_7.out (fun _ hk => ⟨hk.2, hk.1⟩)) hg (.inl rfl)); have n2_ := Aside0.mk (Kd.R_after (v := (.slice (some ⟨go36, 0, none⟩) x6_1.length co39)) (v1 := (.slice (some ⟨go36, 0, none⟩) x6_1.length co39)) (ok := (fun k_ => some k_ ≠ (.slice Ao37 x7_16.length co37 : Value).ownBlock)) (by (with_reducible repeat (first | apply Kd.R_alloc | apply Kd.R_drewN | apply Kd.R_drew)); exact Kd.R_mono HO277.out (fun _ hk => ⟨hk.2, hk.1.2⟩)) hg (.inl rfl)); have n3_ := Aside0.mk ((by rw [hw]; exact below_set (HB.out) GB36.out : Below w.heap.size w w41)); clear HO_6; clear HO_7; clear HO277; clear HB; have HO_6 := n0_; have HO_7 := n1_; have HO277 := n2_; have HB := n3_; clear n0_ n1_ n2_ n3_; clear hg hw hp_))
               go_roundg kj16
               case measure => have := HK1.out; have := HJ16.out; omega
               case rel => exact ⟨(y279), (t275), (wrap64 (x8_1 - 1)), (by first | rfl | (simp; done) | (simp [*]; done)), H', ⟨by have := HK1.out; have := HJ16.out; omega⟩, ⟨by (with_reducible repeat (first | apply Kd.R_alloc | apply Kd.R_drewN | apply Kd.R_drew)); exact Kd.R_mono HO_6.out (fun _ hk => hk.2)⟩, ⟨by (with_reducible repeat (first | apply Kd.R_alloc | apply Kd.R_drewN | apply Kd.R_drew)); exact Kd.R_mono HO277.out (fun _ hk => hk.2)⟩, ⟨bw HB.out⟩⟩
              ·rw [if_neg c34] at H
               exact absurd H (by simp)
             ·rw [if_neg c32] at H
              exact absurd H (by simp)
            ·rw [if_neg c31] at H
             exact absurd H (by simp)
           ·rw [if_neg c28] at H
            have c28b0 : decide (0 ≤ t274) = false := decide_eq_false c28
            clear c28
            have H' := Aside0.mk H
            clear H
            obtain ⟨Ao42, co42, eo42⟩ := Kd.R_slice HO_7.out
            subst eo42
            go_wp2_with (first | ((with_reducible refine gate_callee (f := 47) rfl ?_); refine gL (some 40) Try.func47 #[.slice Ao42 x7_16.length co42, .slice A1 l1.length c1] rfl ?_; (with_reducible refine (zelligeref03_Cmp.calls kj16 _ _ x7_16 _ _ l1 t274 _ ?side1 ?side2 ?side3 ?side4 A27.out).mono ?_); (case side1 => repeat (first | exact (Kd.R_reads' HO_7.out).2.2 | (with_reducible refine Kd.C_alloc ?_ _) | (with_reducible refine Kd.C_drewN ?_ _) | (with_reducible refine Kd.C_drew ?_))); (case side2 => exact (Kd.R_reads' HO_7.out).2.1); (case side3 => repeat (first | exact (Kd.C_below HR1.out HB.out) | (with_reducible refine Kd.C_alloc ?_ _) | (with_reducible refine Kd.C_drewN ?_ _) | (with_reducible refine Kd.C_drew ?_))); (case side4 => exact HC1.out); rintro e w' ⟨rfl, ⟨nd, rfl⟩⟩; refine ⟨_, rfl, ?_⟩))
            go_roundg kj16
            case measure => have := HK1.out; have := HJ16.out; omega
            case rel => exact ⟨(x6_1), (x7_16), (wrap64 (x8_1 - 1)), (by first | rfl | (simp; done) | (simp [*]; done)), H', ⟨by have := HK1.out; have := HJ16.out; omega⟩, ⟨by (with_reducible repeat (first | apply Kd.R_alloc | apply Kd.R_drewN | apply Kd.R_drew)); exact HO_6.out⟩, ⟨by (with_reducible repeat (first | apply Kd.R_alloc | apply Kd.R_drewN | apply Kd.R_drew)); exact HO_7.out⟩, ⟨bw HB.out⟩⟩
        ·rw [if_neg c15] at H
         exact absurd H (by simp)
       ·rw [if_neg c13] at H
        exact absurd H (by simp)
      ·rw [if_neg c12] at H
       exact absurd H (by simp)
     ·rw [if_neg c9] at H
      have c9b0 : decide (0 ≤ x8_1) = false := decide_eq_false c9
      clear c9
      replace H := Option.bind_eq_some_iff.mp H
      obtain ⟨t261, A430, H⟩ := H
      try dsimp only at H
      have A43 := Aside0.mk A430
      clear A430
      simp only [Option.some.injEq, Prod.mk.injEq] at H
      obtain ⟨rfl, rfl⟩ := H
      obtain ⟨Ao44, co44, eo44⟩ := Kd.R_slice HO_6.out
      subst eo44
      go_wp2_with (first | ((with_reducible refine gate_callee (f := 49) rfl ?_); refine gL (some 60) Try.func49 #[.slice Ao44 x6_1.length co44] rfl ?_; (with_reducible refine (zelligeref03_Trim.calls k1 (fun k_ => some k_ = (.slice Ao44 x6_1.length co44 : Value).ownBlock) (.slice Ao44 x6_1.length co44) x6_1 t261 w _ ?side1 ?side2 A43.out).mono ?_); (case side1 => repeat (first | (with_reducible first | exact HB.out | apply below_alloc | apply pw_below_drewN | apply below_drew1) | exact HB.out)); (case side2 => exact Kd.R_tight rfl HO_6.out); rintro e w45 ⟨v262, rfl, ho0, hb, hkp⟩; refine ⟨_, rfl, ?_⟩; have n0_ := Aside0.mk (Kd.R_mono (ok' := fun k_ => some k_ ≠ (v262 : Value).ownBlock) (Kd.R_keptB (HO_7.out) hkp (fun k_ hk_ hs_ => (hk_) hs_)) (fun k_ hk_ => fun e_ => Or.elim (ho0.1 k_ e_.symm) (fun hs_ => hk_.2.1 hs_) (fun hn_ => Nat.not_le.2 hk_.2.2 hn_))); have n1_ := Aside0.mk (Kd.R_mono (ok' := fun k_ => some k_ ≠ (u7 : Value).ownBlock) ho0 (fun k_ hk_ => Or.elim hk_ (fun hs_ => fun e_ => (((HO_7.out).1 k_ e_.symm)) hs_) (fun hn_ => (Kd.fresh' (Kd.R_lt (by (with_reducible repeat (first | apply Kd.R_alloc | apply Kd.R_drewN | apply Kd.R_drew)); exact HO_7.out)) k_ hn_)))); have n2_ := Aside0.mk (hb); clear HO_7; clear HB; clear HO_6; have HO_7 := n0_; have HO263 := n1_; have HB := n2_; clear n0_ n1_ n2_; (try clear hb); (try clear hkp); (try clear ho0)))
      go_ret2
      exact ⟨_, _, by first | rfl | (simp [*, errW_none, errW_some] <;> rfl), by (with_reducible repeat (first | apply Kd.R_alloc | apply Kd.R_drewN | apply Kd.R_drew)); exact HO263.out, by (with_reducible repeat (first | apply Kd.R_alloc | apply Kd.R_drewN | apply Kd.R_drew)); exact HO_7.out, bw HB.out⟩
  ·rw [if_neg c4] at H
   exact absurd H (by simp)
 ·rw [if_neg c3] at H
  exact absurd H (by simp)
end Go.Proofs.Ytfangodjmppooaa.F
end
section
namespace Go.Proofs.Ytfangodjmppooaa.Dig
open Go RowKit YtfangodjmppooaaW.PrintWords YtfangodjmppooaaW.PrintLast YtfangodjmppooaaW.PrintMore Ytfangodjmppooaa.F
attribute [local irreducible] val P
theorem dig_one : dig 1 = [1] := by
 rw [dig_pos (by decide), dig_zero']
 rfl
where dig_zero' : dig (1 / 65536) = [] := dig_zero
theorem half_step (v x t : Nat) (ht : t < 16) (h : Nat) (e : v = x + 65536 * h) : v / 2 ^ t = 2 * (v / 2 ^ (t + 1)) + (x / 2 ^ t) % 2 := by
 subst e
 rcases t with _ | _ | _ | _ | _ | _ | _ | _ | _ | _ | _ | _ | _ | _ | _ | _ | t <;> first | omega | (simp only [Nat.zero_add, Nat.reduceAdd, Nat.reducePow, Nat.pow_zero]; omega)
theorem room (t d h q : Nat) (ht : t < 16) (hd : d < 65536) (e : d + 65536 * h = 2 ^ (t + 1) * q) : d + 2 ^ t < 65536 := by
 rcases t with _ | _ | _ | _ | _ | _ | _ | _ | _ | _ | _ | _ | _ | _ | _ | _ | t <;> first | omega | (simp only [Nat.zero_add, Nat.reduceAdd, Nat.reducePow, Nat.pow_zero] at e ⊢; omega)
theorem pow16 (t : Nat) (ht : t < 16) : (2 : Int) ^ t ≤ 32768 ∧ 1 ≤ (2 : Int) ^ t ∧ (2 : Int) ^ t = ((2 ^ t : Nat) : Int) := by
 rcases t with _ | _ | _ | _ | _ | _ | _ | _ | _ | _ | _ | _ | _ | _ | _ | _ | t <;> first | omega | (refine ⟨?_, ?_, ?_⟩ <;> decide)
def nval (l : List Int) : Nat := (val l).toNat
theorem nval_eq {l : List Int} (h : Dg l) : (nval l : Int) = val l := by
 have := val_nonneg h
 unfold nval
 omega
theorem bit_go (x : Int) (t : Nat) (ht : t < 16) (x0 : 0 ≤ x) : Int.tmod (shr .i64 x (t : Int)) 2 = (((x.toNat / 2 ^ t) % 2 : Nat) : Int) := by
 have e : shr .i64 x (t : Int) = ((x.toNat / 2 ^ t : Nat) : Int) := by
  unfold shr
  rw [Int.toNat_natCast, Nat.min_eq_left (by simp [IntKind.bits]; omega), (pow16 t ht).2.2]
  conv => lhs; rw [show x = ((x.toNat : Nat) : Int) by omega]
  exact (Int.natCast_ediv _ _).symm
 rw [e, Int.tmod_eq_emod_of_nonneg (Int.natCast_nonneg _)]
 exact (Int.natCast_emod _ _).symm
theorem one_go (t : Nat) (ht : t < 16) : shl .i64 1 (t : Int) = 2 ^ t := by
 unfold shl
 rw [Int.toNat_natCast, Nat.min_eq_left (by simp [IntKind.bits]; omega), Int.one_mul]
 have := pow16 t ht
 have e : IntKind.i64.wrap (2 ^ t) = wrap64 (2 ^ t) := i64_w _
 rw [e, w64 (by omega) (by omega)]
theorem put_bit (u Q h v v' : Nat) (d : Int) (_d0 : 0 ≤ d) (e : (v : Int) = d + 65536 * h) (hv : v = 2 * (u * Q)) (e' : (v' : Int) = d + (u : Int) + 65536 * h) : v' = u * (2 * Q + 1) := by
 have : u * (2 * Q + 1) = 2 * (u * Q) + u := by grind
 generalize u * Q = x at *
 omega
theorem ar1 {ρ b : Nat} (h : ¬ ρ < b) (hρ : ρ < 2 * b) : b ≤ ρ ∧ ρ - b < b := by omega
theorem ar3 {ρ b Q : Nat} (h : b ≤ ρ) : 2 * Q * b + ρ = (2 * Q + 1) * b + (ρ - b) := by
 have h1 : (2 * Q + 1) * b = 2 * Q * b + b := Nat.succ_mul _ _
 omega
theorem dm_j1 {b : Nat} {a q : List Int} (lb : (dig b).length ≤ 3000) (dq : Dg q) {m t ρ Q : Nat} (ht : t < 16) (hm : m < q.length) (nq : q.length ≤ 5000) (hρ : ρ < 2 * b) (hz : ∀ p, p < m → q.getD p 0 = 0)
  (hv : nval (q.drop m) = 2 ^ (t + 1) * Q) {k : Nat} (hk : 40010 < k) :
  ∃ q' Q' ρ', zelligeref03_DivMod.j1 (k + 1) a (dig b) q (dig ρ) ((16 * m + t : Nat) : Int) = zelligeref03_DivMod.l0 k a (dig b) q' (dig ρ') (((16 * m + t : Nat) : Int) - 1) ∧ q'.length = q.length ∧ Dg q' ∧ (∀ p, p < m → q'.getD p 0 = 0) ∧
   nval (q'.drop m) = 2 ^ t * Q' ∧ ρ' < b ∧ 2 * Q * b + ρ = Q' * b + ρ' := by
 have lρ : (dig ρ).length ≤ 3001 := by
  have h1 := dig_len_mono (show ρ ≤ b * 2 by omega)
  have h2 := mul_len b 2
  have h3 : (dig 2).length ≤ 1 := dig_len (by simp only [P]; omega)
  omega
 have ew : wrap64 (((16 * m + t : Nat) : Int) - 1) = ((16 * m + t : Nat) : Int) - 1 := w64 (by omega) (by omega)
 rw [zelligeref03_DivMod.j1, cmp_f ρ b (by omega) (by omega), ew]
 rw [Option.bind_some]
 clear ew
 by_cases h : ρ < b
 ·rw [if_pos h, if_neg (by omega)]
  refine ⟨q, 2 * Q, ρ, rfl, rfl, dq, hz, ?_, h, rfl⟩
  rw [hv, Nat.pow_succ, Nat.mul_assoc]
 ·rw [if_neg h]
  have s0 : (if ρ > b then (1 : Int) else 0) ≥ 0 := by split <;> omega
  have e1 : Aside0 (wrap64 (Int.tdiv ((16 * m + t : Nat) : Int) 16) = (m : Int)) := ⟨by rw [Int.tdiv_eq_ediv_of_nonneg (by omega), w64 (by omega) (by omega)]; omega⟩
  have e2 : Aside0 (IntKind.u64.wrap (Int.tmod ((16 * m + t : Nat) : Int) 16) = (t : Int)) := ⟨by
   rw [Int.tmod_eq_emod_of_nonneg (by omega)]
   have u64 : ∀ x : Int, IntKind.u64.wrap x = x % 18446744073709551616 := by intro x; simp [IntKind.wrap, IntKind.bits, IntKind.signed]
   rw [u64]; omega⟩
  have gq := Dg_get dq m
  have ed := val_drop hm
  have ev := nval_eq (Dg_drop dq m)
  have ev1 := nval_eq (Dg_drop dq (m + 1))
  have pt := pow16 t ht
  have hroom : (q.getD m 0).toNat + 2 ^ t < 65536 := by
   refine room t (q.getD m 0).toNat (nval (q.drop (m + 1))) Q ht (by clear hv ed ev ev1; omega) ?_
   rw [← hv]
   clear hv pt
   omega
  have r0 : 0 ≤ q.getD m 0 + 2 ^ t ∧ q.getD m 0 + 2 ^ t < 65536 := by clear hv ed ev ev1; omega
  have Hv := Aside0.mk hv
  have Ed := Aside0.mk ed
  have Ev := Aside0.mk ev
  have Ev1 := Aside0.mk ev1
  have Pt := Aside0.mk pt
  clear hv ed ev ev1 pt hroom
  have e3 : Aside0 (wrap64 (rd q (m : Int) + 2 ^ t) = q.getD m 0 + 2 ^ t) := ⟨by rw [rd_nat, w64 (by omega) (by omega)]⟩
  clear gq
  rw [if_pos s0, sub_f ρ b (ar1 h hρ).1 (Nat.le_trans lρ (by decide)) (Nat.lt_trans (by decide) hk)]
  rw [Option.bind_some]
  rw [e1.out, e2.out, if_pos (Int.natCast_nonneg _), if_pos (Int.ofNat_lt.2 hm), if_pos (Int.natCast_nonneg _), one_go t ht, e3.out]
  refine ⟨q.set m (q.getD m 0 + 2 ^ t), 2 * Q + 1, ρ - b, rfl, by rw [List.length_set], Dg_set dq r0.1 r0.2, ?_, ?_, (ar1 h hρ).2, ?_⟩
  ·intro p hp
   rw [getD_set_ne (by omega)]
   exact hz p hp
  ·have dq' : Dg (q.set m (q.getD m 0 + 2 ^ t)) := Dg_set dq r0.1 r0.2
   have ed' := val_drop (l := q.set m (q.getD m 0 + 2 ^ t)) (i := m) (by rw [List.length_set]; exact hm)
   have e5 : (q.set m (q.getD m 0 + 2 ^ t)).drop (m + 1) = q.drop (m + 1) := List.drop_set_of_lt (by omega)
   have e6 : (q.set m (q.getD m 0 + 2 ^ t)).getD m 0 = q.getD m 0 + 2 ^ t := by rw [List.getD_eq_getElem?_getD, List.getElem?_set_self hm]; rfl
   rw [e5, e6] at ed'
   refine put_bit (2 ^ t) Q (nval (q.drop (m + 1))) (nval (q.drop m)) _ (q.getD m 0) (Dg_get dq m).1 (by rw [Ev.out, Ev1.out, Ed.out]) (by rw [Hv.out, Nat.pow_succ, Nat.mul_comm (2 ^ t) 2, Nat.mul_assoc]) ?_
   rw [nval_eq (Dg_drop dq' m), Ev1.out, ed', Pt.out.2.2]
  ·exact ar3 (ar1 h hρ).1
theorem dm_l0 {a : List Int} {b : Nat} (lb : (dig b).length ≤ 3000) (hb : 0 < b) (da : Dg a) (na : a.length ≤ 3000) : ∀ (n k : Nat) (q : List Int) (ρ Q : Nat), n ≤ 16 * a.length → 2 * n + 40020 < k → q.length = a.length → Dg q → ρ < b →
  (∀ p, 16 * p + 16 ≤ n → q.getD p 0 = 0) →
  (∀ m t, n = 16 * m + t → t < 16 → nval (q.drop m) = 2 ^ t * Q ∧ nval (a.drop m) / 2 ^ t = Q * b + ρ) →
  ∃ ql rl, zelligeref03_DivMod.l0 k a (dig b) q (dig ρ) ((n : Int) - 1) = some (ql, rl) ∧ ql = dig (nval a / b) ∧ rl = dig (nval a % b) := by
 intro n
 induction n with
 | zero =>
  intro k q ρ Q hn hk hl dq hρ hz hI
  obtain ⟨k, rfl⟩ : ∃ m, k = m + 1 := ⟨k - 1, by omega⟩
  obtain ⟨h1, h2⟩ := hI 0 0 rfl (by omega)
  rw [List.drop_zero, Nat.pow_zero, Nat.one_mul] at h1
  rw [List.drop_zero, Nat.pow_zero, Nat.div_one] at h2
  obtain ⟨r, hr, c1, c2⟩ := trim_f (l := q) dq (by omega) (k := k) (by omega)
  rw [zelligeref03_DivMod.l0, if_neg (by omega), hr]
  refine ⟨r, dig ρ, rfl, ?_, ?_⟩
  ·rw [h2, Nat.add_comm, Nat.add_mul_div_right _ _ hb, Nat.div_eq_of_lt hρ, Nat.zero_add]
   refine eq_dig_of c1 ?_
   rw [c2, ← nval_eq dq, h1]
  ·rw [h2, Nat.add_comm, Nat.add_mul_mod_self_right, Nat.mod_eq_of_lt hρ]
 | succ n ih =>
  intro k q ρ Q hn hk hl dq hρ hz hI
  obtain ⟨k, rfl⟩ : ∃ m, k = m + 2 := ⟨k - 2, by omega⟩
  obtain ⟨m, t, rfl, ht⟩ : ∃ m t, n = 16 * m + t ∧ t < 16 := ⟨n / 16, n % 16, by omega, by omega⟩
  have hma : m < a.length := by omega
  have lρ : (dig ρ).length ≤ 3000 := Nat.le_trans (dig_len_mono (by omega)) lb
  have lρ2 : (dig (ρ + ρ)).length ≤ 3001 := by
   have h1 := dig_len_mono (show ρ + ρ ≤ b * 2 by omega)
   have h2 := mul_len b 2
   have h3 : (dig 2).length ≤ 1 := dig_len (by simp only [P]; omega)
   omega
  have hS : nval (q.drop m) = 2 ^ (t + 1) * Q ∧ nval (a.drop m) / 2 ^ (t + 1) = Q * b + ρ := by
   by_cases h15 : t = 15
   ·subst h15
    obtain ⟨h1, h2⟩ := hI (m + 1) 0 (by omega) (by omega)
    rw [Nat.pow_zero, Nat.one_mul] at h1
    rw [Nat.pow_zero, Nat.div_one] at h2
    have z := hz m (by omega)
    have e1 := val_drop (l := q) (i := m) (by omega)
    have e2 := val_drop hma
    have v1 := nval_eq (Dg_drop dq m)
    have v2 := nval_eq (Dg_drop dq (m + 1))
    have v3 := nval_eq (Dg_drop da m)
    have v4 := nval_eq (Dg_drop da (m + 1))
    have g := Dg_get da m
    exact ⟨by omega, by omega⟩
   ·exact hI m (t + 1) (by omega) (by omega)
  have hda := val_drop hma
  have v3 := nval_eq (Dg_drop da m)
  have v4 := nval_eq (Dg_drop da (m + 1))
  have gA := Dg_get da m
  have hbit := half_step (nval (a.drop m)) (a.getD m 0).toNat t ht (nval (a.drop (m + 1))) (by omega)
  clear hda v3 v4
  have e0 : (((16 * m + t + 1 : Nat) : Int) - 1) = ((16 * m + t : Nat) : Int) := by omega
  have e1 : Aside0 (wrap64 (Int.tdiv ((16 * m + t : Nat) : Int) 16) = (m : Int)) := ⟨by rw [Int.tdiv_eq_ediv_of_nonneg (by omega), w64 (by omega) (by omega)]; omega⟩
  have e2 : Aside0 (IntKind.u64.wrap (Int.tmod ((16 * m + t : Nat) : Int) 16) = (t : Int)) := ⟨by
   rw [Int.tmod_eq_emod_of_nonneg (by omega)]
   have u64 : ∀ x : Int, IntKind.u64.wrap x = x % 18446744073709551616 := by intro x; simp [IntKind.wrap, IntKind.bits, IntKind.signed]
   rw [u64]; omega⟩
  have go : ∀ β, β ≤ 1 → (a.getD m 0).toNat / 2 ^ t % 2 = β → ∃ ql rl, zelligeref03_DivMod.j1 (k + 1) a (dig b) q (dig (ρ + ρ + β)) ((16 * m + t : Nat) : Int) = some (ql, rl) ∧ ql = dig (nval a / b) ∧ rl = dig (nval a % b) := by
   intro β hβ hb'
   obtain ⟨q', Q', ρ', h1, h2, h3, h4, h5, h6, h7⟩ := dm_j1 (a := a) lb dq (m := m) (t := t) (ρ := ρ + ρ + β) (Q := Q) ht (by omega) (by omega) (by omega) (fun p hp => hz p (by omega)) hS.1 (k := k) (by omega)
   rw [h1]
   refine ih k q' ρ' Q' (by omega) (by omega) (by omega) h3 h6 (fun p hp => h4 p (by omega)) ?_
   intro m' t' hmt ht'
   obtain ⟨rfl, rfl⟩ : m' = m ∧ t' = t := by omega
   refine ⟨h5, ?_⟩
   rw [hbit, hS.2, hb', ← h7, Nat.mul_add, Nat.mul_assoc]
   omega
  rw [e0, zelligeref03_DivMod.l0, if_pos (by omega), add_f ρ ρ (by omega) (by omega) (by omega)]
  rw [Option.bind_some]
  rw [e1.out, e2.out, if_pos (by omega), if_pos (by omega), if_pos (by omega), rd_nat, bit_go _ t ht gA.1]
  by_cases hβ : (a.getD m 0).toNat / 2 ^ t % 2 = 1
  ·rw [hβ, if_pos (by rfl), ← dig_one, add_f (ρ + ρ) 1 (by omega) (by rw [dig_one]; simp) (by omega)]
   exact go 1 (by omega) hβ
  ·have h0 : (a.getD m 0).toNat / 2 ^ t % 2 = 0 := by omega
   rw [h0, if_neg (by decide)]
   exact go 0 (by omega) h0
theorem divmod_f (a b : Nat) (hb : 0 < b) (la : (dig a).length ≤ 3000) (lb : (dig b).length ≤ 3000) {k : Nat} (hk : 200000 < k) : zelligeref03_DivMod.f k (dig a) (dig b) = some (dig (a / b), dig (a % b)) := by
 have na : nval (dig a) = a := by unfold nval; rw [dig_val]; omega
 have hrep : Dg (List.replicate (dig a).length (0 : Int)) := fun d hd => by rw [List.eq_of_mem_replicate hd]; omega
 obtain ⟨ql, rl, h1, h2, h3⟩ := dm_l0 (a := dig a) lb hb (dig_Dg a) la (16 * (dig a).length) k (List.replicate (dig a).length 0) 0 0 (Nat.le_refl _) (by omega) (by simp) hrep hb (fun p _ => getD_rep _ _) (by
  intro m t e ht
  obtain ⟨rfl, rfl⟩ : m = (dig a).length ∧ t = 0 := by omega
  rw [List.drop_eq_nil_of_le (by simp), List.drop_eq_nil_of_le (Nat.le_refl _)]
  simp [nval, val])
 unfold zelligeref03_DivMod.f
 rw [if_pos (by omega), show ((dig a).length : Int).toNat = (dig a).length from by omega, if_pos (by omega), w64 (x := 16 * ((dig a).length : Int)) (by omega) (by omega), w64 (by omega) (by omega)]
 rw [show (16 * ((dig a).length : Int) - 1) = ((16 * (dig a).length : Nat) : Int) - 1 from by omega, show ([] : List Int) = dig 0 from dig_zero.symm, h1, h2, h3, na]
end Go.Proofs.Ytfangodjmppooaa.Dig
end
section
namespace Go.Proofs.Ytfangodjmppooaa.F
open RowKit YtfangodjmppooaaW.PrintWords YtfangodjmppooaaW.PrintLast YtfangodjmppooaaW.PrintMore
set_option linter.unusedVariables false
set_option linter.unusedSimpArgs false
def zelligeref04_Add.f (k : Nat) (a0_0 : Int) (l0_1 : List Int) (a1_0 : Int) (l1_1 : List Int) : Option (Int × List Int) := if a0_0 = 0 then (some (a1_0, l1_1)) else (if a1_0 = 0 then (some (a0_0, l0_1)) else (if a0_0 = a1_0 then ((zelligeref03_Add.f k l0_1 l1_1).bind fun t208 => (some (a0_0, t208))) else ((zelligeref03_Cmp.f k l0_1 l1_1).bind fun t211 => (if t211 ≥ 0 then ((zelligeref03_Sub.f k l0_1 l1_1).bind fun t212 => ((zelligeref04_make1.f a0_0 t212).bind fun bt215 => (some (bt215.1, bt215.2)))) else ((zelligeref03_Sub.f k l1_1 l0_1).bind fun t219 => ((zelligeref04_make1.f a1_0 t219).bind fun bt222 => (some (bt222.1, bt222.2))))))))
theorem zelligeref04_Add.mono : ∀ a0 a1 a2 a3 k, LeO (zelligeref04_Add.f k a0 a1 a2 a3) (zelligeref04_Add.f (k + 1) a0 a1 a2 a3) := by
 intro a0 a1 a2 a3 k
 unfold zelligeref04_Add.f
 repeat' first
   | (with_reducible exact zelligeref03_Add.mono _ _ _)
   | (with_reducible exact zelligeref03_Cmp.mono _ _ _)
   | (with_reducible exact zelligeref03_Sub.mono _ _ _)
   | (with_reducible exact LeO.refl _)
   | (with_reducible exact LeO.none _)
   | (with_reducible refine LeO.ite ?_ ?_)
   | (with_reducible refine LeO.bind ?_ (fun _ => ?_))
   | exact zelligeref03_Add.mono _ _ _
   | exact zelligeref03_Cmp.mono _ _ _
   | exact zelligeref03_Sub.mono _ _ _
   | exact LeO.none _
   | refine LeO.ite ?_ ?_
   | refine LeO.bind ?_ (fun _ => ?_)
def zelligeref04_Add.T6 : Bool × List (List Nat × List Nat) := (true, [([], []), ([0], [0]), ([], []), ([2], [2]), ([], []), ([4], [4]), ([3, 5], [3, 5]), ([1, 6], [1, 6]), ([7, 6, 0, 1, 2, 3, 4, 5, 6, 7], [7])])
def zelligeref04_Add.B6 : List Nat := [0, 1, 0, 4, 0, 16, 60, 127, 255]
theorem zelligeref04_Add.tab6 : rtab .any (opsOf Try.f50 6) = zelligeref04_Add.T6 := by kernel_rfl
theorem zelligeref04_Add.bits6 : waitsOk zelligeref04_Add.T6.2 zelligeref04_Add.B6 = true := by kernel_rfl
def zelligeref04_Add.T8 : Bool × List (List Nat × List Nat) := (true, [([], []), ([0], [0]), ([], []), ([2], [2]), ([], []), ([4], [4]), ([3, 5], [3, 5]), ([1, 6, 6], [1, 6]), ([7, 7, 0, 1, 2, 3, 4, 5, 6, 7], [7])])
def zelligeref04_Add.B8 : List Nat := [0, 1, 0, 4, 0, 16, 60, 127, 255]
theorem zelligeref04_Add.tab8 : rtab .any (opsOf Try.f50 8) = zelligeref04_Add.T8 := by kernel_rfl
theorem zelligeref04_Add.bits8 : waitsOk zelligeref04_Add.T8.2 zelligeref04_Add.B8 = true := by kernel_rfl
def zelligeref04_Add.T9 : Bool × List (List Nat × List Nat) := (true, [([], []), ([0], [0]), ([], []), ([2], [2]), ([], []), ([4], [4]), ([3, 5], [3, 5]), ([1, 6, 6], [1, 6]), ([7, 7, 0, 1, 2, 3, 4, 5, 6, 7], [7])])
def zelligeref04_Add.B9 : List Nat := [0, 1, 0, 4, 0, 16, 60, 127, 255]
theorem zelligeref04_Add.tab9 : rtab .any (opsOf Try.f50 9) = zelligeref04_Add.T9 := by kernel_rfl
theorem zelligeref04_Add.bits9 : waitsOk zelligeref04_Add.T9.2 zelligeref04_Add.B9 = true := by kernel_rfl
set_option maxHeartbeats 8000000 in
set_option maxRecDepth 100000 in
theorem zelligeref04_Add.calls (k : Nat) (a0_0 : Int) (P0_1_ : Nat → Prop) (u9000_ : Value) (l0_1 : List Int) (a1_0 : Int) (P1_1_ : Nat → Prop) (u9001_ : Value) (l1_1 : List Int) (r1 : Int) (r2 : List Int) (w0 w : World) (hB : Below w0.heap.size w0 w) (ho0_1 : Kd.R (Kd.int .i64) 3 w w0.heap.size P0_1_ u9000_ l0_1) (hp0_1_1_1 : ∀ k_, P0_1_ k_ → ¬ P1_1_ k_) (ho1_1 : Kd.R (Kd.int .i64) 3 w w0.heap.size P1_1_ u9001_ l1_1) (hp1_1_0_1 : ∀ k_, P1_1_ k_ → ¬ P0_1_ k_) (h : zelligeref04_Add.f k a0_0 l0_1 a1_0 l1_1 = some (r1, r2)) :
  Calls Try.prog 50 #[.agg #[.int .i64 a0_0, u9000_], .agg #[.int .i64 a1_0, u9001_]] w fun e w' => ∃ v1_ : Value, e = .returned (.agg #[.int .i64 r1, v1_]) ∧ Kd.R (Kd.int .i64) 3 w' w0.heap.size (fun k_ => ((P0_1_ k_ ∨ P1_1_ k_) ∨ w.heap.size ≤ k_)) v1_ r2 ∧ Below w0.heap.size w0 w' ∧ Kept w w' (fun k_ => P0_1_ k_ ∨ P1_1_ k_) := by
 have hu71 := Try.underlying71
 have HO0_1 := Aside0.mk (show Kd.R (Kd.int .i64) 3 w w0.heap.size (fun k_ => ((P0_1_ k_ ∨ P1_1_ k_) ∨ w.heap.size ≤ k_) ∧ some k_ ≠ (u9001_ : Value).ownBlock) u9000_ l0_1 from Kd.R_mono ho0_1 (fun k_ hk => ⟨(.inl (.inl hk)), fun e_ => hp0_1_1_1 k_ hk (ho1_1.1 k_ e_.symm)⟩))
 have HO1_1 := Aside0.mk (show Kd.R (Kd.int .i64) 3 w w0.heap.size (fun k_ => ((P0_1_ k_ ∨ P1_1_ k_) ∨ w.heap.size ≤ k_) ∧ some k_ ≠ (u9000_ : Value).ownBlock) u9001_ l1_1 from Kd.R_mono ho1_1 (fun k_ hk => ⟨(.inl (.inr hk)), fun e_ => hp1_1_0_1 k_ hk (ho0_1.1 k_ e_.symm)⟩))
 have HK := Aside0.mk (Kept.refl w (fun k_ => P0_1_ k_ ∨ P1_1_ k_))
 have HW0 := Aside0.mk hB.size
 have HB := Aside0.mk hB
 clear hB
 have H : (if a0_0 = 0 then (some (a1_0, l1_1)) else (if a1_0 = 0 then (some (a0_0, l0_1)) else (if a0_0 = a1_0 then ((zelligeref03_Add.f k l0_1 l1_1).bind fun t208 => (some (a0_0, t208))) else ((zelligeref03_Cmp.f k l0_1 l1_1).bind fun t211 => (if t211 ≥ 0 then ((zelligeref03_Sub.f k l0_1 l1_1).bind fun t212 => ((zelligeref04_make1.f a0_0 t212).bind fun bt215 => (some (bt215.1, bt215.2)))) else ((zelligeref03_Sub.f k l1_1 l0_1).bind fun t219 => ((zelligeref04_make1.f a1_0 t219).bind fun bt222 => (some (bt222.1, bt222.2))))))))) = some (r1, r2) := h
 clear h
 by_cases c3 : a0_0 = 0
 ·rw [if_pos c3] at H
  have c3b0 : (a0_0 == 0) = true := beq_iff_eq.mpr c3
  have c3b1 : (a0_0 != 0) = false := bne_eq_false_iff_eq.mpr c3
  clear c3
  simp only [Option.some.injEq, Prod.mk.injEq] at H
  obtain ⟨rfl, rfl⟩ := H
  obtain ⟨Ao4, co4, eo4⟩ := Kd.R_slice HO0_1.out
  subst eo4
  go_enter Try.func50, Try.ntmps50
  go_wp2_with (first | ((with_reducible refine gate_dst (N := 2) rfl ?_); refine bx 2 #[.int .i64 a0_0, .slice Ao4 l0_1.length co4] 71 ?_; intro gb205 hg w5 hbox hb; have n0_ := Aside0.mk (Kd.R_below (by (with_reducible repeat (first | apply Kd.R_alloc | apply Kd.R_drewN | apply Kd.R_drew)); exact HO0_1.out) hb); have n1_ := Aside0.mk (Kd.R_below (by (with_reducible repeat (first | apply Kd.R_alloc | apply Kd.R_drewN | apply Kd.R_drew)); exact HO1_1.out) hb); have n2_ := Aside0.mk (Kept.below (S := (fun k_ => P0_1_ k_ ∨ P1_1_ k_)) (by repeat (first | (with_reducible first | exact HK.out | apply Kept.alloc | apply Kept.drewN | apply Kept.drew) | exact HK.out)) hb); have n3_ := u2 HB hb; have n4_ := Aside0.mk hbox; have n5_ := Aside0.mk ((by rw [hg]; exact (by first | exact HK.out.1 | exact (show Kept w _ (fun k_ => P0_1_ k_ ∨ P1_1_ k_) from by repeat (first | (with_reducible first | exact HK.out | apply Kept.alloc | apply Kept.drewN | apply Kept.drew) | exact HK.out)).1) : w.heap.size ≤ gb205)); have n6_ := Aside0.mk ((by rw [hg]; exact (below_size (bw HB.out)) : w0.heap.size ≤ gb205)); clear HO0_1; clear HO1_1; clear HK; clear HB; have HO0_1 := n0_; have HO1_1 := n1_; have HK := n2_; have HB := n3_; have BK205 := n4_; have GW205 := n5_; have GE205 := n6_; clear n0_ n1_ n2_ n3_ n4_ n5_ n6_; clear hb hbox hg; obtain ⟨Ao6, co6, eo6⟩ := Kd.R_slice HO1_1.out; subst eo6) | ((with_reducible refine gate_dst (N := 3) rfl ?_); refine bx 3 #[.int .i64 a1_0, .slice Ao6 l1_1.length co6] 71 ?_; intro gb206 hg w7 hbox hb; have n0_ := Aside0.mk (Kd.R_below (by (with_reducible repeat (first | apply Kd.R_alloc | apply Kd.R_drewN | apply Kd.R_drew)); exact HO0_1.out) hb); have n1_ := Aside0.mk (Kd.R_below (by (with_reducible repeat (first | apply Kd.R_alloc | apply Kd.R_drewN | apply Kd.R_drew)); exact HO1_1.out) hb); have n2_ := u1 BK205 hb; have n3_ := Aside0.mk (Kept.below (S := (fun k_ => P0_1_ k_ ∨ P1_1_ k_)) (by repeat (first | (with_reducible first | exact HK.out | apply Kept.alloc | apply Kept.drewN | apply Kept.drew | refine Kept.setCell ?_ (.inr GW205.out) _) | exact HK.out)) hb); have n4_ := u2 HB hb; have n5_ := Aside0.mk hbox; have n6_ := Aside0.mk ((by rw [hg]; exact (by first | exact HK.out.1 | exact (show Kept w _ (fun k_ => P0_1_ k_ ∨ P1_1_ k_) from by repeat (first | (with_reducible first | exact HK.out | apply Kept.alloc | apply Kept.drewN | apply Kept.drew | refine Kept.setCell ?_ (.inr GW205.out) _) | exact HK.out)).1) : w.heap.size ≤ gb206)); have n7_ := Aside0.mk ((by rw [hg]; exact (below_size (bw HB.out)) : w0.heap.size ≤ gb206)); have n8_ := u4 hg BK205; have n9_ := u5 hg BK205; clear HO0_1; clear HO1_1; clear BK205; clear HK; clear HB; have HO0_1 := n0_; have HO1_1 := n1_; have BK205 := n2_; have HK := n3_; have HB := n4_; have BK206 := n5_; have GW206 := n6_; have GE206 := n7_; have NB205_206 := n8_; have NB206_205 := n9_; clear n0_ n1_ n2_ n3_ n4_ n5_ n6_ n7_ n8_ n9_; clear hb hbox hg) | ((with_reducible refine gate_dst (N := 4) rfl ?_); refine bx 4 #[.int .i64 0, .slice none 0 0] 71 ?_; intro gb207 hg w8 hbox hb; have n0_ := Aside0.mk (Kd.R_below (by (with_reducible repeat (first | apply Kd.R_alloc | apply Kd.R_drewN | apply Kd.R_drew)); exact HO0_1.out) hb); have n1_ := Aside0.mk (Kd.R_below (by (with_reducible repeat (first | apply Kd.R_alloc | apply Kd.R_drewN | apply Kd.R_drew)); exact HO1_1.out) hb); have n2_ := u1 BK205 hb; have n3_ := u1 BK206 hb; have n4_ := Aside0.mk (Kept.below (S := (fun k_ => P0_1_ k_ ∨ P1_1_ k_)) (by repeat (first | (with_reducible first | exact HK.out | apply Kept.alloc | apply Kept.drewN | apply Kept.drew | refine Kept.setCell ?_ (.inr GW205.out) _ | refine Kept.setCell ?_ (.inr GW206.out) _) | exact HK.out)) hb); have n5_ := u2 HB hb; have n6_ := Aside0.mk hbox; have n7_ := Aside0.mk ((by rw [hg]; exact (by first | exact HK.out.1 | exact (show Kept w _ (fun k_ => P0_1_ k_ ∨ P1_1_ k_) from by repeat (first | (with_reducible first | exact HK.out | apply Kept.alloc | apply Kept.drewN | apply Kept.drew | refine Kept.setCell ?_ (.inr GW205.out) _ | refine Kept.setCell ?_ (.inr GW206.out) _) | exact HK.out)).1) : w.heap.size ≤ gb207)); have n8_ := Aside0.mk ((by rw [hg]; exact (below_size (bw HB.out)) : w0.heap.size ≤ gb207)); have n9_ := u4 hg BK205; have n10_ := u5 hg BK205; have n11_ := u4 hg BK206; have n12_ := u5 hg BK206; clear HO0_1; clear HO1_1; clear BK205; clear BK206; clear HK; clear HB; have HO0_1 := n0_; have HO1_1 := n1_; have BK205 := n2_; have BK206 := n3_; have HK := n4_; have HB := n5_; have BK207 := n6_; have GW207 := n7_; have GE207 := n8_; have NB205_207 := n9_; have NB207_205 := n10_; have NB206_207 := n11_; have NB207_206 := n12_; clear n0_ n1_ n2_ n3_ n4_ n5_ n6_ n7_ n8_ n9_ n10_ n11_ n12_; clear hb hbox hg; have hnb9 := NB205_206.out; have hnc9 := NB206_205.out; have hnb10 := NB205_207.out; have hnc10 := NB207_205.out; obtain ⟨_, _, _, _⟩ := p2 BK205; have hnb12 := NB206_207.out; have hnc12 := NB207_206.out; obtain ⟨_, _, _, _⟩ := p2 BK206; obtain ⟨_, _, _, _⟩ := p2 BK207))
  refine bodyPost_ret (results_cell_row rfl _ _ gb207 71 #[.int .i64 a1_0, .slice Ao6 l1_1.length co6] (0, 0) _ rfl (by (with_reducible repeat (first | refine blk_drewN ?_ _ | refine blk_drew ?_ | refine blk_alloc ?_ _)); refine blk_put (cs := #[.int .i64 a1_0, .slice none 0 0]) ?_ 1 _ rfl; refine blk_put (cs := #[.int .i64 0, .slice none 0 0]) ?_ 0 _ rfl; (with_reducible repeat (first | refine blk_drewN ?_ _ | refine blk_drew ?_ | refine blk_alloc ?_ _)); exact BK207.out) Try.underlying71 rfl (by kernel_rfl)) rfl ?_
  exact ⟨_, by first | rfl | (simp [*, errW_none, errW_some] <;> rfl), by (with_reducible repeat (first | apply Kd.R_alloc | apply Kd.R_drewN | apply Kd.R_drew)); exact Kd.R_mono (Kd.R_far (p := ⟨gb207, 1, none⟩) (Kd.R_far (p := ⟨gb207, 0, none⟩) (Kd.R_types HO1_1.out BK207.out (by decide)) (fun _ hk => hk.2) (.int .i64 a1_0)) (fun _ hk => hk.2) (.slice Ao6 l1_1.length co6)) (fun _ hk => hk.1.1), by repeat (first | (with_reducible first | exact HB.out | apply below_alloc | apply pw_below_drewN | apply below_drew1 | refine below_set ?_ GE205.out | refine below_set ?_ GE206.out | refine below_set ?_ GE207.out) | exact HB.out), by repeat (first | (with_reducible first | exact HK.out | apply Kept.alloc | apply Kept.drewN | apply Kept.drew | refine Kept.setCell ?_ (.inr GW205.out) _ | refine Kept.setCell ?_ (.inr GW206.out) _ | refine Kept.setCell ?_ (.inr GW207.out) _) | exact HK.out)⟩
 ·rw [if_neg c3] at H
  have c3b0 : (a0_0 == 0) = false := beq_eq_false_iff_ne.mpr c3
  have c3b1 : (a0_0 != 0) = true := bne_iff_ne.mpr c3
  by_cases c15 : a1_0 = 0
  ·rw [if_pos c15] at H
   have c15b0 : (a1_0 == 0) = true := beq_iff_eq.mpr c15
   have c15b1 : (a1_0 != 0) = false := bne_eq_false_iff_eq.mpr c15
   clear c15
   simp only [Option.some.injEq, Prod.mk.injEq] at H
   obtain ⟨rfl, rfl⟩ := H
   obtain ⟨Ao16, co16, eo16⟩ := Kd.R_slice HO0_1.out
   subst eo16
   go_enter Try.func50, Try.ntmps50
   go_wp2_with (first | ((with_reducible refine gate_dst (N := 2) rfl ?_); refine bx 2 #[.int .i64 a0_0, .slice Ao16 l0_1.length co16] 71 ?_; intro gb205 hg w17 hbox hb; have n0_ := Aside0.mk (Kd.R_below (by (with_reducible repeat (first | apply Kd.R_alloc | apply Kd.R_drewN | apply Kd.R_drew)); exact HO0_1.out) hb); have n1_ := Aside0.mk (Kd.R_below (by (with_reducible repeat (first | apply Kd.R_alloc | apply Kd.R_drewN | apply Kd.R_drew)); exact HO1_1.out) hb); have n2_ := Aside0.mk (Kept.below (S := (fun k_ => P0_1_ k_ ∨ P1_1_ k_)) (by repeat (first | (with_reducible first | exact HK.out | apply Kept.alloc | apply Kept.drewN | apply Kept.drew) | exact HK.out)) hb); have n3_ := u2 HB hb; have n4_ := Aside0.mk hbox; have n5_ := Aside0.mk ((by rw [hg]; exact (by first | exact HK.out.1 | exact (show Kept w _ (fun k_ => P0_1_ k_ ∨ P1_1_ k_) from by repeat (first | (with_reducible first | exact HK.out | apply Kept.alloc | apply Kept.drewN | apply Kept.drew) | exact HK.out)).1) : w.heap.size ≤ gb205)); have n6_ := Aside0.mk ((by rw [hg]; exact (below_size (bw HB.out)) : w0.heap.size ≤ gb205)); clear HO0_1; clear HO1_1; clear HK; clear HB; have HO0_1 := n0_; have HO1_1 := n1_; have HK := n2_; have HB := n3_; have BK205 := n4_; have GW205 := n5_; have GE205 := n6_; clear n0_ n1_ n2_ n3_ n4_ n5_ n6_; clear hb hbox hg; obtain ⟨Ao18, co18, eo18⟩ := Kd.R_slice HO1_1.out; subst eo18) | ((with_reducible refine gate_dst (N := 3) rfl ?_); refine bx 3 #[.int .i64 a1_0, .slice Ao18 l1_1.length co18] 71 ?_; intro gb206 hg w19 hbox hb; have n0_ := Aside0.mk (Kd.R_below (by (with_reducible repeat (first | apply Kd.R_alloc | apply Kd.R_drewN | apply Kd.R_drew)); exact HO0_1.out) hb); have n1_ := Aside0.mk (Kd.R_below (by (with_reducible repeat (first | apply Kd.R_alloc | apply Kd.R_drewN | apply Kd.R_drew)); exact HO1_1.out) hb); have n2_ := u1 BK205 hb; have n3_ := Aside0.mk (Kept.below (S := (fun k_ => P0_1_ k_ ∨ P1_1_ k_)) (by repeat (first | (with_reducible first | exact HK.out | apply Kept.alloc | apply Kept.drewN | apply Kept.drew | refine Kept.setCell ?_ (.inr GW205.out) _) | exact HK.out)) hb); have n4_ := u2 HB hb; have n5_ := Aside0.mk hbox; have n6_ := Aside0.mk ((by rw [hg]; exact (by first | exact HK.out.1 | exact (show Kept w _ (fun k_ => P0_1_ k_ ∨ P1_1_ k_) from by repeat (first | (with_reducible first | exact HK.out | apply Kept.alloc | apply Kept.drewN | apply Kept.drew | refine Kept.setCell ?_ (.inr GW205.out) _) | exact HK.out)).1) : w.heap.size ≤ gb206)); have n7_ := Aside0.mk ((by rw [hg]; exact (below_size (bw HB.out)) : w0.heap.size ≤ gb206)); have n8_ := u4 hg BK205; have n9_ := u5 hg BK205; clear HO0_1; clear HO1_1; clear BK205; clear HK; clear HB; have HO0_1 := n0_; have HO1_1 := n1_; have BK205 := n2_; have HK := n3_; have HB := n4_; have BK206 := n5_; have GW206 := n6_; have GE206 := n7_; have NB205_206 := n8_; have NB206_205 := n9_; clear n0_ n1_ n2_ n3_ n4_ n5_ n6_ n7_ n8_ n9_; clear hb hbox hg) | ((with_reducible refine gate_dst (N := 4) rfl ?_); refine bx 4 #[.int .i64 0, .slice none 0 0] 71 ?_; intro gb207 hg w20 hbox hb; have n0_ := Aside0.mk (Kd.R_below (by (with_reducible repeat (first | apply Kd.R_alloc | apply Kd.R_drewN | apply Kd.R_drew)); exact HO0_1.out) hb); have n1_ := Aside0.mk (Kd.R_below (by (with_reducible repeat (first | apply Kd.R_alloc | apply Kd.R_drewN | apply Kd.R_drew)); exact HO1_1.out) hb); have n2_ := u1 BK205 hb; have n3_ := u1 BK206 hb; have n4_ := Aside0.mk (Kept.below (S := (fun k_ => P0_1_ k_ ∨ P1_1_ k_)) (by repeat (first | (with_reducible first | exact HK.out | apply Kept.alloc | apply Kept.drewN | apply Kept.drew | refine Kept.setCell ?_ (.inr GW205.out) _ | refine Kept.setCell ?_ (.inr GW206.out) _) | exact HK.out)) hb); have n5_ := u2 HB hb; have n6_ := Aside0.mk hbox; have n7_ := Aside0.mk ((by rw [hg]; exact (by first | exact HK.out.1 | exact (show Kept w _ (fun k_ => P0_1_ k_ ∨ P1_1_ k_) from by repeat (first | (with_reducible first | exact HK.out | apply Kept.alloc | apply Kept.drewN | apply Kept.drew | refine Kept.setCell ?_ (.inr GW205.out) _ | refine Kept.setCell ?_ (.inr GW206.out) _) | exact HK.out)).1) : w.heap.size ≤ gb207)); have n8_ := Aside0.mk ((by rw [hg]; exact (below_size (bw HB.out)) : w0.heap.size ≤ gb207)); have n9_ := u4 hg BK205; have n10_ := u5 hg BK205; have n11_ := u4 hg BK206; have n12_ := u5 hg BK206; clear HO0_1; clear HO1_1; clear BK205; clear BK206; clear HK; clear HB; have HO0_1 := n0_; have HO1_1 := n1_; have BK205 := n2_; have BK206 := n3_; have HK := n4_; have HB := n5_; have BK207 := n6_; have GW207 := n7_; have GE207 := n8_; have NB205_207 := n9_; have NB207_205 := n10_; have NB206_207 := n11_; have NB207_206 := n12_; clear n0_ n1_ n2_ n3_ n4_ n5_ n6_ n7_ n8_ n9_ n10_ n11_ n12_; clear hb hbox hg; have hnb21 := NB205_206.out; have hnc21 := NB206_205.out; have hnb22 := NB205_207.out; have hnc22 := NB207_205.out; obtain ⟨_, _, _, _⟩ := p2 BK205; have hnb24 := NB206_207.out; have hnc24 := NB207_206.out; obtain ⟨_, _, _, _⟩ := p2 BK206; obtain ⟨_, _, _, _⟩ := p2 BK207))
   refine bodyPost_ret (results_cell_row rfl _ _ gb207 71 #[.int .i64 a0_0, .slice Ao16 l0_1.length co16] (0, 0) _ rfl (by (with_reducible repeat (first | refine blk_drewN ?_ _ | refine blk_drew ?_ | refine blk_alloc ?_ _)); refine blk_put (cs := #[.int .i64 a0_0, .slice none 0 0]) ?_ 1 _ rfl; refine blk_put (cs := #[.int .i64 0, .slice none 0 0]) ?_ 0 _ rfl; (with_reducible repeat (first | refine blk_drewN ?_ _ | refine blk_drew ?_ | refine blk_alloc ?_ _)); exact BK207.out) Try.underlying71 rfl (by kernel_rfl)) rfl ?_
   exact ⟨_, by first | rfl | (simp [*, errW_none, errW_some] <;> rfl), by (with_reducible repeat (first | apply Kd.R_alloc | apply Kd.R_drewN | apply Kd.R_drew)); exact Kd.R_mono (Kd.R_far (p := ⟨gb207, 1, none⟩) (Kd.R_far (p := ⟨gb207, 0, none⟩) (Kd.R_types HO0_1.out BK207.out (by decide)) (fun _ hk => hk.2) (.int .i64 a0_0)) (fun _ hk => hk.2) (.slice Ao16 l0_1.length co16)) (fun _ hk => hk.1.1), by repeat (first | (with_reducible first | exact HB.out | apply below_alloc | apply pw_below_drewN | apply below_drew1 | refine below_set ?_ GE205.out | refine below_set ?_ GE206.out | refine below_set ?_ GE207.out) | exact HB.out), by repeat (first | (with_reducible first | exact HK.out | apply Kept.alloc | apply Kept.drewN | apply Kept.drew | refine Kept.setCell ?_ (.inr GW205.out) _ | refine Kept.setCell ?_ (.inr GW206.out) _ | refine Kept.setCell ?_ (.inr GW207.out) _) | exact HK.out)⟩
  ·rw [if_neg c15] at H
   have c15b0 : (a1_0 == 0) = false := beq_eq_false_iff_ne.mpr c15
   have c15b1 : (a1_0 != 0) = true := bne_iff_ne.mpr c15
   by_cases c27 : a0_0 = a1_0
   ·rw [if_pos c27] at H
    have c27b0 : (a0_0 == a1_0) = true := beq_iff_eq.mpr c27
    have c27b1 : (a0_0 != a1_0) = false := bne_eq_false_iff_eq.mpr c27
    clear c27
    replace H := Option.bind_eq_some_iff.mp H
    obtain ⟨t208, A280, H⟩ := H
    try dsimp only at H
    have A28 := Aside0.mk A280
    clear A280
    simp only [Option.some.injEq, Prod.mk.injEq] at H
    obtain ⟨rfl, rfl⟩ := H
    obtain ⟨Ao29, co29, eo29⟩ := Kd.R_slice HO0_1.out
    subst eo29
    go_enter Try.func50, Try.ntmps50
    try go_wp2_with (first | ((with_reducible refine gate_dst (N := 2) rfl ?_); refine bx 2 #[.int .i64 a0_0, .slice Ao29 l0_1.length co29] 71 ?_; intro gb205 hg w30 hbox hb; have n0_ := Aside0.mk (Kd.R_below (by (with_reducible repeat (first | apply Kd.R_alloc | apply Kd.R_drewN | apply Kd.R_drew)); exact HO0_1.out) hb); have n1_ := Aside0.mk (Kd.R_below (by (with_reducible repeat (first | apply Kd.R_alloc | apply Kd.R_drewN | apply Kd.R_drew)); exact HO1_1.out) hb); have n2_ := Aside0.mk (Kept.below (S := (fun k_ => P0_1_ k_ ∨ P1_1_ k_)) (by repeat (first | (with_reducible first | exact HK.out | apply Kept.alloc | apply Kept.drewN | apply Kept.drew) | exact HK.out)) hb); have n3_ := u2 HB hb; have n4_ := Aside0.mk hbox; have n5_ := Aside0.mk ((by rw [hg]; exact (by first | exact HK.out.1 | exact (show Kept w _ (fun k_ => P0_1_ k_ ∨ P1_1_ k_) from by repeat (first | (with_reducible first | exact HK.out | apply Kept.alloc | apply Kept.drewN | apply Kept.drew) | exact HK.out)).1) : w.heap.size ≤ gb205)); have n6_ := Aside0.mk ((by rw [hg]; exact (below_size (bw HB.out)) : w0.heap.size ≤ gb205)); clear HO0_1; clear HO1_1; clear HK; clear HB; have HO0_1 := n0_; have HO1_1 := n1_; have HK := n2_; have HB := n3_; have BK205 := n4_; have GW205 := n5_; have GE205 := n6_; clear n0_ n1_ n2_ n3_ n4_ n5_ n6_; clear hb hbox hg; obtain ⟨Ao31, co31, eo31⟩ := Kd.R_slice HO1_1.out; subst eo31) | ((with_reducible refine gate_dst (N := 3) rfl ?_); refine bx 3 #[.int .i64 a1_0, .slice Ao31 l1_1.length co31] 71 ?_; intro gb206 hg w32 hbox hb; have n0_ := Aside0.mk (Kd.R_below (by (with_reducible repeat (first | apply Kd.R_alloc | apply Kd.R_drewN | apply Kd.R_drew)); exact HO0_1.out) hb); have n1_ := Aside0.mk (Kd.R_below (by (with_reducible repeat (first | apply Kd.R_alloc | apply Kd.R_drewN | apply Kd.R_drew)); exact HO1_1.out) hb); have n2_ := u1 BK205 hb; have n3_ := Aside0.mk (Kept.below (S := (fun k_ => P0_1_ k_ ∨ P1_1_ k_)) (by repeat (first | (with_reducible first | exact HK.out | apply Kept.alloc | apply Kept.drewN | apply Kept.drew | refine Kept.setCell ?_ (.inr GW205.out) _) | exact HK.out)) hb); have n4_ := u2 HB hb; have n5_ := Aside0.mk hbox; have n6_ := Aside0.mk ((by rw [hg]; exact (by first | exact HK.out.1 | exact (show Kept w _ (fun k_ => P0_1_ k_ ∨ P1_1_ k_) from by repeat (first | (with_reducible first | exact HK.out | apply Kept.alloc | apply Kept.drewN | apply Kept.drew | refine Kept.setCell ?_ (.inr GW205.out) _) | exact HK.out)).1) : w.heap.size ≤ gb206)); have n7_ := Aside0.mk ((by rw [hg]; exact (below_size (bw HB.out)) : w0.heap.size ≤ gb206)); have n8_ := u4 hg BK205; have n9_ := u5 hg BK205; clear HO0_1; clear HO1_1; clear BK205; clear HK; clear HB; have HO0_1 := n0_; have HO1_1 := n1_; have BK205 := n2_; have HK := n3_; have HB := n4_; have BK206 := n5_; have GW206 := n6_; have GE206 := n7_; have NB205_206 := n8_; have NB206_205 := n9_; clear n0_ n1_ n2_ n3_ n4_ n5_ n6_ n7_ n8_ n9_; clear hb hbox hg) | ((with_reducible refine gate_dst (N := 4) rfl ?_); refine bx 4 #[.int .i64 0, .slice none 0 0] 71 ?_; intro gb207 hg w33 hbox hb; have n0_ := Aside0.mk (Kd.R_below (by (with_reducible repeat (first | apply Kd.R_alloc | apply Kd.R_drewN | apply Kd.R_drew)); exact HO0_1.out) hb); have n1_ := Aside0.mk (Kd.R_below (by (with_reducible repeat (first | apply Kd.R_alloc | apply Kd.R_drewN | apply Kd.R_drew)); exact HO1_1.out) hb); have n2_ := u1 BK205 hb; have n3_ := u1 BK206 hb; have n4_ := Aside0.mk (Kept.below (S := (fun k_ => P0_1_ k_ ∨ P1_1_ k_)) (by repeat (first | (with_reducible first | exact HK.out | apply Kept.alloc | apply Kept.drewN | apply Kept.drew | refine Kept.setCell ?_ (.inr GW205.out) _ | refine Kept.setCell ?_ (.inr GW206.out) _) | exact HK.out)) hb); have n5_ := u2 HB hb; have n6_ := Aside0.mk hbox; have n7_ := Aside0.mk ((by rw [hg]; exact (by first | exact HK.out.1 | exact (show Kept w _ (fun k_ => P0_1_ k_ ∨ P1_1_ k_) from by repeat (first | (with_reducible first | exact HK.out | apply Kept.alloc | apply Kept.drewN | apply Kept.drew | refine Kept.setCell ?_ (.inr GW205.out) _ | refine Kept.setCell ?_ (.inr GW206.out) _) | exact HK.out)).1) : w.heap.size ≤ gb207)); have n8_ := Aside0.mk ((by rw [hg]; exact (below_size (bw HB.out)) : w0.heap.size ≤ gb207)); have n9_ := u4 hg BK205; have n10_ := u5 hg BK205; have n11_ := u4 hg BK206; have n12_ := u5 hg BK206; clear HO0_1; clear HO1_1; clear BK205; clear BK206; clear HK; clear HB; have HO0_1 := n0_; have HO1_1 := n1_; have BK205 := n2_; have BK206 := n3_; have HK := n4_; have HB := n5_; have BK207 := n6_; have GW207 := n7_; have GE207 := n8_; have NB205_207 := n9_; have NB207_205 := n10_; have NB206_207 := n11_; have NB207_206 := n12_; clear n0_ n1_ n2_ n3_ n4_ n5_ n6_ n7_ n8_ n9_ n10_ n11_ n12_; clear hb hbox hg; have hnb34 := NB205_206.out; have hnc34 := NB206_205.out; have hnb35 := NB205_207.out; have hnc35 := NB207_205.out; obtain ⟨_, _, _, _⟩ := p2 BK205; have hnb37 := NB206_207.out; have hnc37 := NB207_206.out; obtain ⟨_, _, _, _⟩ := p2 BK206))
    have n0_ := Aside0.mk (Kd.R_drew HO0_1.out)
    have n1_ := Aside0.mk (Kd.R_drew HO1_1.out)
    have n2_ := Aside0.mk (blk_drew BK205.out)
    have n3_ := Aside0.mk (blk_drew BK206.out)
    have n4_ := Aside0.mk (blk_drew BK207.out)
    have n5_ := Aside0.mk (Kept.drew HK.out)
    have n6_ := Aside0.mk (below_drew1 HB.out)
    clear HO0_1
    clear HO1_1
    clear BK205
    clear BK206
    clear BK207
    clear HK
    clear HB
    have HO0_1 := n0_
    have HO1_1 := n1_
    have BK205 := n2_
    have BK206 := n3_
    have BK207 := n4_
    have HK := n5_
    have HB := n6_
    clear n0_ n1_ n2_ n3_ n4_ n5_ n6_
    refine start_ (n := 9) (S := fun w' => w'.cell? ⟨gb205, 0, none⟩ = some (.int .i64 a0_0) ∧ w'.cell? ⟨gb205, 1, none⟩ = some (.slice Ao29 l0_1.length co29) ∧ w'.cell? ⟨gb206, 0, none⟩ = some (.int .i64 a1_0) ∧ w'.cell? ⟨gb206, 1, none⟩ = some (.slice Ao31 l1_1.length co31)) (ds := []) #[F_,F_,F_,F_,F_,F_,F_,F_,F_] (by kernel_rfl) rfl rfl ⟨(p2 BK205).1, (p2 BK205).2.1, (p2 BK206).1, (p2 BK206).2.1⟩ (fun hHeld => ?_); refine with_tabW zelligeref04_Add.tab6 zelligeref04_Add.bits6 (fun HT_ HW_ => ?_)
    generalize w33.drew = w39 at HO0_1 HO1_1 BK205 BK206 BK207 HK HB hHeld ⊢
    refine pA (i := 0) (N := some 18) (v := ?_) (a' := ?_) #[T_,F_,F_,F_,F_,F_,F_,F_,F_] rfl rfl HT_ (Or.inl ⟨by rfl, ?_⟩) ?_ ?_
    rotate_left
    ·intro w'
     go_simp
     with_reducible rfl
    rotate_left
    ·simp only [Act.put, s1, s2, s3, i64_w, i32_w]
     rfl
    refine pA (i := 2) (N := some 20) (v := ?_) (a' := ?_) #[T_,F_,T_,F_,F_,F_,F_,F_,F_] rfl rfl HT_ (Or.inl ⟨by rfl, ?_⟩) ?_ ?_
    rotate_left
    ·intro w'
     go_simp
     with_reducible rfl
    rotate_left
    ·simp only [Act.put, s1, s2, s3, i64_w, i32_w]
     rfl
    refine pA (i := 4) (N := some 22) (v := ?_) (a' := ?_) #[T_,F_,T_,F_,T_,F_,F_,F_,F_] rfl rfl HT_ (Or.inl ⟨by rfl, ?_⟩) ?_ ?_
    rotate_left
    ·intro w'
     go_simp
     with_reducible rfl
    rotate_left
    ·simp only [Act.put, s1, s2, s3, i64_w, i32_w]
     rfl
    refine tA (i := 1) (N := some 19) (v := ?_) (a' := ?_) #[T_,T_,T_,F_,T_,F_,F_,F_,F_] rfl rfl HT_ HW_ (Or.inl ⟨by rfl, ?_⟩) hHeld ?_ ?_
    rotate_left
    ·rintro w' ⟨s0, s1, s2, s3⟩
     go_simp
     with_reducible rfl
    rotate_left
    ·simp only [Act.put, s1, s2, s3, i64_w, i32_w]
     rfl
    refine tA (i := 3) (N := some 21) (v := ?_) (a' := ?_) #[T_,T_,T_,T_,T_,F_,F_,F_,F_] rfl rfl HT_ HW_ (Or.inl ⟨by rfl, ?_⟩) hHeld ?_ ?_
    rotate_left
    ·rintro w' ⟨s0, s1, s2, s3⟩
     go_simp
     with_reducible rfl
    rotate_left
    ·simp only [Act.put, s1, s2, s3, i64_w, i32_w]
     rfl
    refine tA (i := 5) (N := some 23) (v := ?_) (a' := ?_) #[T_,T_,T_,T_,T_,T_,F_,F_,F_] rfl rfl HT_ HW_ (Or.inl ⟨by rfl, ?_⟩) hHeld ?_ ?_
    rotate_left
    ·rintro w' ⟨s0, s1, s2, s3⟩
     go_simp
     with_reducible rfl
    rotate_left
    ·simp only [Act.put, s1, s2, s3, i64_w, i32_w]
     rfl
    refine one_ (i := 6) (N := some 24) #[T_,T_,T_,T_,T_,T_,T_,F_,F_] rfl rfl (one_of HT_.out (by kernel_rfl)) (by decide) (fun K hK => ?_)
    refine goes_ Try.func46 (by kernel_rfl) rfl #[.slice Ao29 l0_1.length co29, .slice Ao31 l1_1.length co31] (by rfl) rfl rfl (by (try simp only [List.map_toArray, List.map_cons, List.map_nil]); first | done | rfl | (simp only [List.length_drop, List.length_take]; rfl)) ?_
    with_reducible refine (zelligeref03_Add.calls k _ _ l0_1 _ _ l1_1 t208 _ ?side1 ?side2 ?side3 ?side4 A28.out).mono ?_
    (case side1 => repeat (first | exact (Kd.R_reads' HO0_1.out).2.2 | (with_reducible refine Kd.C_alloc ?_ _) | (with_reducible refine Kd.C_drewN ?_ _) | (with_reducible refine Kd.C_drew ?_)))
    (case side2 => exact (Kd.R_reads' HO0_1.out).2.1)
    (case side3 => repeat (first | exact (Kd.R_reads' HO1_1.out).2.2 | (with_reducible refine Kd.C_alloc ?_ _) | (with_reducible refine Kd.C_drewN ?_ _) | (with_reducible refine Kd.C_drew ?_)))
    (case side4 => exact (Kd.R_reads' HO1_1.out).2.1)
    rintro e w40 ⟨v209, rfl, ho0, hb⟩
    refine ⟨_, rfl, ?_⟩
    have n0_ := Aside0.mk (Kd.R_elder' (by (with_reducible repeat (first | apply Kd.R_alloc | apply Kd.R_drewN | apply Kd.R_drew)); exact HO0_1.out) (Kd.R_base ho0) hb)
    have n1_ := Aside0.mk (Kd.R_elder' (by (with_reducible repeat (first | apply Kd.R_alloc | apply Kd.R_drewN | apply Kd.R_drew)); exact HO1_1.out) (Kd.R_base ho0) hb)
    have n2_ := Aside0.mk (Kd.R_lower (Kd.R_new' (Kd.R_new' (Kd.R_newM (M := fun k_ => ((P0_1_ k_ ∨ P1_1_ k_) ∨ w.heap.size ≤ k_)) ho0 (by first | exact HK.out.1 | exact (show Kept w _ (fun k_ => P0_1_ k_ ∨ P1_1_ k_) from by repeat (first | (with_reducible first | exact HK.out | apply Kept.alloc | apply Kept.drewN | apply Kept.drew | refine Kept.setCell ?_ (.inr GW205.out) _ | refine Kept.setCell ?_ (.inr GW206.out) _ | refine Kept.setCell ?_ (.inr GW207.out) _) | exact HK.out)).1) (fun k_ h_ => .inr h_)) (Kd.R_lt (by (with_reducible repeat (first | apply Kd.R_alloc | apply Kd.R_drewN | apply Kd.R_drew)); exact HO0_1.out))) (Kd.R_lt (by (with_reducible repeat (first | apply Kd.R_alloc | apply Kd.R_drewN | apply Kd.R_drew)); exact HO1_1.out))) (below_size (bw HB.out)))
    have n3_ := u1 BK205 hb
    have n4_ := u1 BK206 hb
    have n5_ := u1 BK207 hb
    have n6_ := Aside0.mk (Kept.below (S := (fun k_ => P0_1_ k_ ∨ P1_1_ k_)) (by repeat (first | (with_reducible first | exact HK.out | apply Kept.alloc | apply Kept.drewN | apply Kept.drew | refine Kept.setCell ?_ (.inr GW205.out) _ | refine Kept.setCell ?_ (.inr GW206.out) _ | refine Kept.setCell ?_ (.inr GW207.out) _) | exact HK.out)) hb)
    have n7_ := Aside0.mk (below_step (bw HB.out) hb)
    clear HO0_1
    clear HO1_1
    clear BK205
    clear BK206
    clear BK207
    clear HK
    clear HB
    have HO0_1 := n0_
    have HO1_1 := n1_
    have HO210 := n2_
    have BK205 := n3_
    have BK206 := n4_
    have BK207 := n5_
    have HK := n6_
    have HB := n7_
    clear n0_ n1_ n2_ n3_ n4_ n5_ n6_ n7_
    (try clear hb)
    (try clear hb2)
    (try clear hk)
    (try clear hi)
    (try clear ho0)
    obtain ⟨Ao41, co41, eo41⟩ := Kd.R_slice HO210.out
    (first | subst eo41 | (injection eo41 with f1_ f2_ f3_; have f4_ := f1_.symm; have f5_ := f3_.symm; clear f1_ f2_ f3_; subst f4_; subst f5_))
    refine hK.out _ _ ⟨(p2 BK205).1, (p2 BK205).2.1, (p2 BK206).1, (p2 BK206).2.1⟩ (fun hHeld => ?_)
    clear hK K
    refine norm_ (a' := ?_) ?_ ?_
    rotate_left
    ·show Act.put _ (some 24) _ = _
     simp only [Act.put, s1, s2, s3, i64_w, i32_w]
     rfl
    refine pA (i := 7) (N := some 25) (v := ?_) (a' := ?_) #[T_,T_,T_,T_,T_,T_,T_,T_,F_] rfl rfl HT_ (Or.inl ⟨by rfl, ?_⟩) ?_ ?_
    rotate_left
    ·intro w'
     go_simp
     with_reducible rfl
    rotate_left
    ·simp only [Act.put, s1, s2, s3, i64_w, i32_w]
     rfl
    refine one_ (i := 8) (N := none) #[T_,T_,T_,T_,T_,T_,T_,T_,T_] rfl rfl (one_of HT_.out (by kernel_rfl)) (by decide) (fun K hK => ?_)
    have hs42 : w40.cell? ⟨gb207, 0, none⟩ = some (.int .i64 0) := (blk_cell BK207.out 0).trans rfl
    have hfs42 := blk_frozen BK207.out 0
    have hns42_0 := NB205_207.out
    have hns42_1 := NB206_207.out
    have hms42_0 := NB207_205.out
    have hms42_1 := NB207_206.out
    have hs43 : w40.cell? ⟨gb207, 1, none⟩ = some (.slice none 0 0) := (blk_cell BK207.out 1).trans rfl
    have hfs43 := blk_frozen BK207.out 1
    have hns43_0 := NB205_207.out
    have hns43_1 := NB206_207.out
    have hms43_0 := NB207_205.out
    have hms43_1 := NB207_206.out
    refine skip_ (w1 := ?_) (by rfl) rfl ?_ ?_
    rotate_left
    ·go_simp
     rfl
    refine hK.out _ _ ⟨((cell_far (p := ⟨gb207, _, none⟩) NB205_207.out _).trans (((cell_far (p := ⟨gb207, _, none⟩) NB205_207.out _).trans (hHeld.1)))), ((cell_far (p := ⟨gb207, _, none⟩) NB205_207.out _).trans (((cell_far (p := ⟨gb207, _, none⟩) NB205_207.out _).trans (hHeld.2.1)))), ((cell_far (p := ⟨gb207, _, none⟩) NB206_207.out _).trans (((cell_far (p := ⟨gb207, _, none⟩) NB206_207.out _).trans (hHeld.2.2.1)))), ((cell_far (p := ⟨gb207, _, none⟩) NB206_207.out _).trans (((cell_far (p := ⟨gb207, _, none⟩) NB206_207.out _).trans (hHeld.2.2.2))))⟩ (fun hHeld => ?_)
    clear hK K
    refine done_ (done_of HT_.out (by kernel_rfl)) ?_
    try go_wp2
    refine bodyPost_ret (results_cell_row rfl _ _ gb207 71 #[.int .i64 a0_0, .slice Ao41 t208.length co41] (0, 0) _ rfl (by (with_reducible repeat (first | refine blk_drewN ?_ _ | refine blk_drew ?_ | refine blk_alloc ?_ _)); refine blk_put (cs := #[.int .i64 a0_0, .slice none 0 0]) ?_ 1 _ rfl; refine blk_put (cs := #[.int .i64 0, .slice none 0 0]) ?_ 0 _ rfl; (with_reducible repeat (first | refine blk_drewN ?_ _ | refine blk_drew ?_ | refine blk_alloc ?_ _)); exact BK207.out) Try.underlying71 rfl (by kernel_rfl)) rfl ?_
    exact ⟨_, by first | rfl | (simp [*, errW_none, errW_some] <;> rfl), by (with_reducible repeat (first | apply Kd.R_alloc | apply Kd.R_drewN | apply Kd.R_drew)); exact Kd.R_mono (Kd.R_far (p := ⟨gb207, 1, none⟩) (Kd.R_far (p := ⟨gb207, 0, none⟩) (Kd.R_types HO210.out BK207.out (by decide)) (fun _ hk => hk.2) (.int .i64 a0_0)) (fun _ hk => hk.2) (.slice Ao41 t208.length co41)) (fun _ hk => hk.1.1.1.1), by repeat (first | (with_reducible first | exact HB.out | apply below_alloc | apply pw_below_drewN | apply below_drew1 | refine below_set ?_ GE205.out | refine below_set ?_ GE206.out | refine below_set ?_ GE207.out) | exact HB.out), by repeat (first | (with_reducible first | exact HK.out | apply Kept.alloc | apply Kept.drewN | apply Kept.drew | refine Kept.setCell ?_ (.inr GW205.out) _ | refine Kept.setCell ?_ (.inr GW206.out) _ | refine Kept.setCell ?_ (.inr GW207.out) _) | exact HK.out)⟩
   ·rw [if_neg c27] at H
    have c27b0 : (a0_0 == a1_0) = false := beq_eq_false_iff_ne.mpr c27
    have c27b1 : (a0_0 != a1_0) = true := bne_iff_ne.mpr c27
    replace H := Option.bind_eq_some_iff.mp H
    obtain ⟨t211, A440, H⟩ := H
    try dsimp only at H
    have A44 := Aside0.mk A440
    clear A440
    by_cases c45 : t211 ≥ 0
    ·rw [if_pos c45] at H
     have c45b0 : decide (0 ≤ t211) = true := decide_eq_true c45
     clear c45
     replace H := Option.bind_eq_some_iff.mp H
     obtain ⟨t212, A460, H⟩ := H
     try dsimp only at H
     have A46 := Aside0.mk A460
     clear A460
     replace H := Option.bind_eq_some_iff.mp H
     obtain ⟨⟨t215, t216⟩, A470, H⟩ := H
     try dsimp only at H
     have A47 := Aside0.mk A470
     clear A470
     simp only [Option.some.injEq, Prod.mk.injEq] at H
     obtain ⟨rfl, rfl⟩ := H
     obtain ⟨Ao48, co48, eo48⟩ := Kd.R_slice HO0_1.out
     subst eo48
     go_enter Try.func50, Try.ntmps50
     try go_wp2_with (first | ((with_reducible refine gate_dst (N := 2) rfl ?_); refine bx 2 #[.int .i64 a0_0, .slice Ao48 l0_1.length co48] 71 ?_; intro gb205 hg w49 hbox hb; have n0_ := Aside0.mk (Kd.R_below (by (with_reducible repeat (first | apply Kd.R_alloc | apply Kd.R_drewN | apply Kd.R_drew)); exact HO0_1.out) hb); have n1_ := Aside0.mk (Kd.R_below (by (with_reducible repeat (first | apply Kd.R_alloc | apply Kd.R_drewN | apply Kd.R_drew)); exact HO1_1.out) hb); have n2_ := Aside0.mk (Kept.below (S := (fun k_ => P0_1_ k_ ∨ P1_1_ k_)) (by repeat (first | (with_reducible first | exact HK.out | apply Kept.alloc | apply Kept.drewN | apply Kept.drew) | exact HK.out)) hb); have n3_ := u2 HB hb; have n4_ := Aside0.mk hbox; have n5_ := Aside0.mk ((by rw [hg]; exact (by first | exact HK.out.1 | exact (show Kept w _ (fun k_ => P0_1_ k_ ∨ P1_1_ k_) from by repeat (first | (with_reducible first | exact HK.out | apply Kept.alloc | apply Kept.drewN | apply Kept.drew) | exact HK.out)).1) : w.heap.size ≤ gb205)); have n6_ := Aside0.mk ((by rw [hg]; exact (below_size (bw HB.out)) : w0.heap.size ≤ gb205)); clear HO0_1; clear HO1_1; clear HK; clear HB; have HO0_1 := n0_; have HO1_1 := n1_; have HK := n2_; have HB := n3_; have BK205 := n4_; have GW205 := n5_; have GE205 := n6_; clear n0_ n1_ n2_ n3_ n4_ n5_ n6_; clear hb hbox hg; obtain ⟨Ao50, co50, eo50⟩ := Kd.R_slice HO1_1.out; subst eo50) | ((with_reducible refine gate_dst (N := 3) rfl ?_); refine bx 3 #[.int .i64 a1_0, .slice Ao50 l1_1.length co50] 71 ?_; intro gb206 hg w51 hbox hb; have n0_ := Aside0.mk (Kd.R_below (by (with_reducible repeat (first | apply Kd.R_alloc | apply Kd.R_drewN | apply Kd.R_drew)); exact HO0_1.out) hb); have n1_ := Aside0.mk (Kd.R_below (by (with_reducible repeat (first | apply Kd.R_alloc | apply Kd.R_drewN | apply Kd.R_drew)); exact HO1_1.out) hb); have n2_ := u1 BK205 hb; have n3_ := Aside0.mk (Kept.below (S := (fun k_ => P0_1_ k_ ∨ P1_1_ k_)) (by repeat (first | (with_reducible first | exact HK.out | apply Kept.alloc | apply Kept.drewN | apply Kept.drew | refine Kept.setCell ?_ (.inr GW205.out) _) | exact HK.out)) hb); have n4_ := u2 HB hb; have n5_ := Aside0.mk hbox; have n6_ := Aside0.mk ((by rw [hg]; exact (by first | exact HK.out.1 | exact (show Kept w _ (fun k_ => P0_1_ k_ ∨ P1_1_ k_) from by repeat (first | (with_reducible first | exact HK.out | apply Kept.alloc | apply Kept.drewN | apply Kept.drew | refine Kept.setCell ?_ (.inr GW205.out) _) | exact HK.out)).1) : w.heap.size ≤ gb206)); have n7_ := Aside0.mk ((by rw [hg]; exact (below_size (bw HB.out)) : w0.heap.size ≤ gb206)); have n8_ := u4 hg BK205; have n9_ := u5 hg BK205; clear HO0_1; clear HO1_1; clear BK205; clear HK; clear HB; have HO0_1 := n0_; have HO1_1 := n1_; have BK205 := n2_; have HK := n3_; have HB := n4_; have BK206 := n5_; have GW206 := n6_; have GE206 := n7_; have NB205_206 := n8_; have NB206_205 := n9_; clear n0_ n1_ n2_ n3_ n4_ n5_ n6_ n7_ n8_ n9_; clear hb hbox hg) | ((with_reducible refine gate_dst (N := 4) rfl ?_); refine bx 4 #[.int .i64 0, .slice none 0 0] 71 ?_; intro gb207 hg w52 hbox hb; have n0_ := Aside0.mk (Kd.R_below (by (with_reducible repeat (first | apply Kd.R_alloc | apply Kd.R_drewN | apply Kd.R_drew)); exact HO0_1.out) hb); have n1_ := Aside0.mk (Kd.R_below (by (with_reducible repeat (first | apply Kd.R_alloc | apply Kd.R_drewN | apply Kd.R_drew)); exact HO1_1.out) hb); have n2_ := u1 BK205 hb; have n3_ := u1 BK206 hb; have n4_ := Aside0.mk (Kept.below (S := (fun k_ => P0_1_ k_ ∨ P1_1_ k_)) (by repeat (first | (with_reducible first | exact HK.out | apply Kept.alloc | apply Kept.drewN | apply Kept.drew | refine Kept.setCell ?_ (.inr GW205.out) _ | refine Kept.setCell ?_ (.inr GW206.out) _) | exact HK.out)) hb); have n5_ := u2 HB hb; have n6_ := Aside0.mk hbox; have n7_ := Aside0.mk ((by rw [hg]; exact (by first | exact HK.out.1 | exact (show Kept w _ (fun k_ => P0_1_ k_ ∨ P1_1_ k_) from by repeat (first | (with_reducible first | exact HK.out | apply Kept.alloc | apply Kept.drewN | apply Kept.drew | refine Kept.setCell ?_ (.inr GW205.out) _ | refine Kept.setCell ?_ (.inr GW206.out) _) | exact HK.out)).1) : w.heap.size ≤ gb207)); have n8_ := Aside0.mk ((by rw [hg]; exact (below_size (bw HB.out)) : w0.heap.size ≤ gb207)); have n9_ := u4 hg BK205; have n10_ := u5 hg BK205; have n11_ := u4 hg BK206; have n12_ := u5 hg BK206; clear HO0_1; clear HO1_1; clear BK205; clear BK206; clear HK; clear HB; have HO0_1 := n0_; have HO1_1 := n1_; have BK205 := n2_; have BK206 := n3_; have HK := n4_; have HB := n5_; have BK207 := n6_; have GW207 := n7_; have GE207 := n8_; have NB205_207 := n9_; have NB207_205 := n10_; have NB206_207 := n11_; have NB207_206 := n12_; clear n0_ n1_ n2_ n3_ n4_ n5_ n6_ n7_ n8_ n9_ n10_ n11_ n12_; clear hb hbox hg; have hnb53 := NB205_206.out; have hnc53 := NB206_205.out; have hnb54 := NB205_207.out; have hnc54 := NB207_205.out; obtain ⟨_, _, _, _⟩ := p2 BK205; have hnb56 := NB206_207.out; have hnc56 := NB207_206.out; obtain ⟨_, _, _, _⟩ := p2 BK206) | ((with_reducible refine gate_callee (f := 47) rfl ?_); refine gL (some 30) Try.func47 #[.slice Ao48 l0_1.length co48, .slice Ao50 l1_1.length co50] rfl ?_; (with_reducible refine (zelligeref03_Cmp.calls k _ _ l0_1 _ _ l1_1 t211 _ ?side1 ?side2 ?side3 ?side4 A44.out).mono ?_); (case side1 => repeat (first | exact (Kd.R_reads' HO0_1.out).2.2 | (with_reducible refine Kd.C_alloc ?_ _) | (with_reducible refine Kd.C_drewN ?_ _) | (with_reducible refine Kd.C_drew ?_))); (case side2 => exact (Kd.R_reads' HO0_1.out).2.1); (case side3 => repeat (first | exact (Kd.R_reads' HO1_1.out).2.2 | (with_reducible refine Kd.C_alloc ?_ _) | (with_reducible refine Kd.C_drewN ?_ _) | (with_reducible refine Kd.C_drew ?_))); (case side4 => exact (Kd.R_reads' HO1_1.out).2.1); rintro e w' ⟨rfl, ⟨nd, rfl⟩⟩; refine ⟨_, rfl, ?_⟩; (try (rw [drewN_self w52]; generalize hq_ : World.drewN w52 _ = w52; have n0_ : Aside0 (Kd.R (Kd.int .i64) 3 w52 w0.heap.size (fun k_ => ((P0_1_ k_ ∨ P1_1_ k_) ∨ w.heap.size ≤ k_) ∧ some k_ ≠ (.slice Ao50 l1_1.length co50 : Value).ownBlock) (.slice Ao48 l0_1.length co48) l0_1) := ⟨by rw [← hq_]; exact (by (with_reducible repeat (first | apply Kd.R_alloc | apply Kd.R_drewN | apply Kd.R_drew)); exact HO0_1.out)⟩; have n1_ : Aside0 (Kd.R (Kd.int .i64) 3 w52 w0.heap.size (fun k_ => ((P0_1_ k_ ∨ P1_1_ k_) ∨ w.heap.size ≤ k_) ∧ some k_ ≠ (.slice Ao48 l0_1.length co48 : Value).ownBlock) (.slice Ao50 l1_1.length co50) l1_1) := ⟨by rw [← hq_]; exact (by (with_reducible repeat (first | apply Kd.R_alloc | apply Kd.R_drewN | apply Kd.R_drew)); exact HO1_1.out)⟩; have n2_ : Aside0 (w52.heap[gb205]? = some (.cells #[.int .i64 a0_0, .slice Ao48 l0_1.length co48] 71 (0, 0))) := ⟨by rw [← hq_]; exact (bk BK205.out)⟩; have n3_ : Aside0 (w52.heap[gb206]? = some (.cells #[.int .i64 a1_0, .slice Ao50 l1_1.length co50] 71 (0, 0))) := ⟨by rw [← hq_]; exact (bk BK206.out)⟩; have n4_ : Aside0 (w52.heap[gb207]? = some (.cells #[.int .i64 0, .slice none 0 0] 71 (0, 0))) := ⟨by rw [← hq_]; exact (bk BK207.out)⟩; have n5_ : Aside0 (Kept w w52 (fun k_ => P0_1_ k_ ∨ P1_1_ k_)) := ⟨by rw [← hq_]; exact (by repeat (first | (with_reducible first | exact HK.out | apply Kept.alloc | apply Kept.drewN | apply Kept.drew | refine Kept.setCell ?_ (.inr GW205.out) _ | refine Kept.setCell ?_ (.inr GW206.out) _ | refine Kept.setCell ?_ (.inr GW207.out) _) | exact HK.out))⟩; have n6_ : Aside0 (Below w0.heap.size w0 w52) := ⟨by rw [← hq_]; exact (bw HB.out)⟩; clear HO0_1 HO1_1 BK205 BK206 BK207 HK HB hq_; have HO0_1 := n0_; have HO1_1 := n1_; have BK205 := n2_; have BK206 := n3_; have BK207 := n4_; have HK := n5_; have HB := n6_; clear n0_ n1_ n2_ n3_ n4_ n5_ n6_))))
     have n0_ := Aside0.mk (Kd.R_drew HO0_1.out)
     have n1_ := Aside0.mk (Kd.R_drew HO1_1.out)
     have n2_ := Aside0.mk (blk_drew BK205.out)
     have n3_ := Aside0.mk (blk_drew BK206.out)
     have n4_ := Aside0.mk (blk_drew BK207.out)
     have n5_ := Aside0.mk (Kept.drew HK.out)
     have n6_ := Aside0.mk (below_drew1 HB.out)
     clear HO0_1
     clear HO1_1
     clear BK205
     clear BK206
     clear BK207
     clear HK
     clear HB
     have HO0_1 := n0_
     have HO1_1 := n1_
     have BK205 := n2_
     have BK206 := n3_
     have BK207 := n4_
     have HK := n5_
     have HB := n6_
     clear n0_ n1_ n2_ n3_ n4_ n5_ n6_
     refine start_ (n := 9) (S := fun w' => w'.cell? ⟨gb205, 0, none⟩ = some (.int .i64 a0_0) ∧ w'.cell? ⟨gb205, 1, none⟩ = some (.slice Ao48 l0_1.length co48) ∧ w'.cell? ⟨gb206, 0, none⟩ = some (.int .i64 a1_0) ∧ w'.cell? ⟨gb206, 1, none⟩ = some (.slice Ao50 l1_1.length co50)) (ds := []) #[F_,F_,F_,F_,F_,F_,F_,F_,F_] (by kernel_rfl) rfl rfl ⟨(p2 BK205).1, (p2 BK205).2.1, (p2 BK206).1, (p2 BK206).2.1⟩ (fun hHeld => ?_); refine with_tabW zelligeref04_Add.tab8 zelligeref04_Add.bits8 (fun HT_ HW_ => ?_)
     generalize w52.drew = w58 at HO0_1 HO1_1 BK205 BK206 BK207 HK HB hHeld ⊢
     refine pA (i := 0) (N := some 32) (v := ?_) (a' := ?_) #[T_,F_,F_,F_,F_,F_,F_,F_,F_] rfl rfl HT_ (Or.inl ⟨by rfl, ?_⟩) ?_ ?_
     rotate_left
     ·intro w'
      go_simp
      with_reducible rfl
     rotate_left
     ·simp only [Act.put, s1, s2, s3, i64_w, i32_w]
      rfl
     refine pA (i := 2) (N := some 34) (v := ?_) (a' := ?_) #[T_,F_,T_,F_,F_,F_,F_,F_,F_] rfl rfl HT_ (Or.inl ⟨by rfl, ?_⟩) ?_ ?_
     rotate_left
     ·intro w'
      go_simp
      with_reducible rfl
     rotate_left
     ·simp only [Act.put, s1, s2, s3, i64_w, i32_w]
      rfl
     refine pA (i := 4) (N := some 36) (v := ?_) (a' := ?_) #[T_,F_,T_,F_,T_,F_,F_,F_,F_] rfl rfl HT_ (Or.inl ⟨by rfl, ?_⟩) ?_ ?_
     rotate_left
     ·intro w'
      go_simp
      with_reducible rfl
     rotate_left
     ·simp only [Act.put, s1, s2, s3, i64_w, i32_w]
      rfl
     refine tA (i := 1) (N := some 33) (v := ?_) (a' := ?_) #[T_,T_,T_,F_,T_,F_,F_,F_,F_] rfl rfl HT_ HW_ (Or.inl ⟨by rfl, ?_⟩) hHeld ?_ ?_
     rotate_left
     ·rintro w' ⟨s0, s1, s2, s3⟩
      go_simp
      with_reducible rfl
     rotate_left
     ·simp only [Act.put, s1, s2, s3, i64_w, i32_w]
      rfl
     refine tA (i := 3) (N := some 35) (v := ?_) (a' := ?_) #[T_,T_,T_,T_,T_,F_,F_,F_,F_] rfl rfl HT_ HW_ (Or.inl ⟨by rfl, ?_⟩) hHeld ?_ ?_
     rotate_left
     ·rintro w' ⟨s0, s1, s2, s3⟩
      go_simp
      with_reducible rfl
     rotate_left
     ·simp only [Act.put, s1, s2, s3, i64_w, i32_w]
      rfl
     refine tA (i := 5) (N := some 37) (v := ?_) (a' := ?_) #[T_,T_,T_,T_,T_,T_,F_,F_,F_] rfl rfl HT_ HW_ (Or.inl ⟨by rfl, ?_⟩) hHeld ?_ ?_
     rotate_left
     ·rintro w' ⟨s0, s1, s2, s3⟩
      go_simp
      with_reducible rfl
     rotate_left
     ·simp only [Act.put, s1, s2, s3, i64_w, i32_w]
      rfl
     refine one_ (i := 6) (N := some 38) #[T_,T_,T_,T_,T_,T_,T_,F_,F_] rfl rfl (one_of HT_.out (by kernel_rfl)) (by decide) (fun K hK => ?_)
     refine goes_ Try.func48 (by kernel_rfl) rfl #[.slice Ao48 l0_1.length co48, .slice Ao50 l1_1.length co50] (by rfl) rfl rfl (by (try simp only [List.map_toArray, List.map_cons, List.map_nil]); first | done | rfl | (simp only [List.length_drop, List.length_take]; rfl)) ?_
     with_reducible refine (zelligeref03_Sub.calls k _ _ l0_1 _ _ l1_1 t212 _ ?side1 ?side2 ?side3 ?side4 A46.out).mono ?_
     (case side1 => repeat (first | exact (Kd.R_reads' HO0_1.out).2.2 | (with_reducible refine Kd.C_alloc ?_ _) | (with_reducible refine Kd.C_drewN ?_ _) | (with_reducible refine Kd.C_drew ?_)))
     (case side2 => exact (Kd.R_reads' HO0_1.out).2.1)
     (case side3 => repeat (first | exact (Kd.R_reads' HO1_1.out).2.2 | (with_reducible refine Kd.C_alloc ?_ _) | (with_reducible refine Kd.C_drewN ?_ _) | (with_reducible refine Kd.C_drew ?_)))
     (case side4 => exact (Kd.R_reads' HO1_1.out).2.1)
     rintro e w59 ⟨v213, rfl, ho0, hb⟩
     refine ⟨_, rfl, ?_⟩
     have n0_ := Aside0.mk (Kd.R_elder' (by (with_reducible repeat (first | apply Kd.R_alloc | apply Kd.R_drewN | apply Kd.R_drew)); exact HO0_1.out) (Kd.R_base ho0) hb)
     have n1_ := Aside0.mk (Kd.R_elder' (by (with_reducible repeat (first | apply Kd.R_alloc | apply Kd.R_drewN | apply Kd.R_drew)); exact HO1_1.out) (Kd.R_base ho0) hb)
     have n2_ := Aside0.mk (Kd.R_lower (Kd.R_new' (Kd.R_new' (Kd.R_newM (M := fun k_ => ((P0_1_ k_ ∨ P1_1_ k_) ∨ w.heap.size ≤ k_)) ho0 (by first | exact HK.out.1 | exact (show Kept w _ (fun k_ => P0_1_ k_ ∨ P1_1_ k_) from by repeat (first | (with_reducible first | exact HK.out | apply Kept.alloc | apply Kept.drewN | apply Kept.drew | refine Kept.setCell ?_ (.inr GW205.out) _ | refine Kept.setCell ?_ (.inr GW206.out) _ | refine Kept.setCell ?_ (.inr GW207.out) _) | exact HK.out)).1) (fun k_ h_ => .inr h_)) (Kd.R_lt (by (with_reducible repeat (first | apply Kd.R_alloc | apply Kd.R_drewN | apply Kd.R_drew)); exact HO0_1.out))) (Kd.R_lt (by (with_reducible repeat (first | apply Kd.R_alloc | apply Kd.R_drewN | apply Kd.R_drew)); exact HO1_1.out))) (below_size (bw HB.out)))
     have n3_ := u1 BK205 hb
     have n4_ := u1 BK206 hb
     have n5_ := u1 BK207 hb
     have n6_ := Aside0.mk (Kept.below (S := (fun k_ => P0_1_ k_ ∨ P1_1_ k_)) (by repeat (first | (with_reducible first | exact HK.out | apply Kept.alloc | apply Kept.drewN | apply Kept.drew | refine Kept.setCell ?_ (.inr GW205.out) _ | refine Kept.setCell ?_ (.inr GW206.out) _ | refine Kept.setCell ?_ (.inr GW207.out) _) | exact HK.out)) hb)
     have n7_ := Aside0.mk (below_step (bw HB.out) hb)
     clear HO0_1
     clear HO1_1
     clear BK205
     clear BK206
     clear BK207
     clear HK
     clear HB
     have HO0_1 := n0_
     have HO1_1 := n1_
     have HO214 := n2_
     have BK205 := n3_
     have BK206 := n4_
     have BK207 := n5_
     have HK := n6_
     have HB := n7_
     clear n0_ n1_ n2_ n3_ n4_ n5_ n6_ n7_
     (try clear hb)
     (try clear hb2)
     (try clear hk)
     (try clear hi)
     (try clear ho0)
     obtain ⟨Ao60, co60, eo60⟩ := Kd.R_slice HO214.out
     (first | subst eo60 | (injection eo60 with f1_ f2_ f3_; have f4_ := f1_.symm; have f5_ := f3_.symm; clear f1_ f2_ f3_; subst f4_; subst f5_))
     refine hK.out _ _ ⟨(p2 BK205).1, (p2 BK205).2.1, (p2 BK206).1, (p2 BK206).2.1⟩ (fun hHeld => ?_)
     clear hK K
     refine norm_ (a' := ?_) ?_ ?_
     rotate_left
     ·show Act.put _ (some 38) _ = _
      simp only [Act.put, s1, s2, s3, i64_w, i32_w]
      rfl
     refine one_ (i := 7) (N := some 39) #[T_,T_,T_,T_,T_,T_,T_,T_,F_] rfl rfl (one_of HT_.out (by kernel_rfl)) (by decide) (fun K hK => ?_)
     refine goes_ Try.func40 (by kernel_rfl) rfl #[.int .i64 a0_0, .slice Ao60 t212.length co60] (by rfl) rfl rfl (by (try simp only [List.map_toArray, List.map_cons, List.map_nil]); first | done | rfl | (simp only [List.length_drop, List.length_take]; rfl)) ?_
     with_reducible refine (zelligeref04_make1.calls a0_0 (fun k_ => some k_ = (.slice Ao60 t212.length co60 : Value).ownBlock) (.slice Ao60 t212.length co60) t212 t215 t216 w0 _ ?side1 ?side2 A47.out).mono ?_
     (case side1 => repeat (first | (with_reducible first | exact HB.out | apply below_alloc | apply pw_below_drewN | apply below_drew1 | refine below_set ?_ GE205.out | refine below_set ?_ GE206.out | refine below_set ?_ GE207.out) | exact HB.out))
     (case side2 => exact Kd.R_tight rfl HO214.out)
     rintro e w61 ⟨v217, rfl, ho0, hb, hkp⟩
     refine ⟨_, rfl, ?_⟩
     have n0_ := Aside0.mk (Kd.R_mono (ok' := fun k_ => ((P0_1_ k_ ∨ P1_1_ k_) ∨ w.heap.size ≤ k_) ∧ some k_ ≠ (.slice Ao50 l1_1.length co50 : Value).ownBlock ∧ some k_ ≠ (v217 : Value).ownBlock) (Kd.R_keptB (HO0_1.out) hkp (fun k_ hk_ hs_ => (hk_.2) hs_)) (fun k_ hk_ => ⟨hk_.1.1.1, hk_.1.1.2, fun e_ => Or.elim (ho0.1 k_ e_.symm) (fun hs_ => hk_.2.1 hs_) (fun hn_ => Nat.not_le.2 hk_.2.2 hn_)⟩))
     have n1_ := Aside0.mk (Kd.R_mono (ok' := fun k_ => ((P0_1_ k_ ∨ P1_1_ k_) ∨ w.heap.size ≤ k_) ∧ some k_ ≠ (.slice Ao48 l0_1.length co48 : Value).ownBlock ∧ some k_ ≠ (v217 : Value).ownBlock) (Kd.R_keptB (HO1_1.out) hkp (fun k_ hk_ hs_ => (hk_.2) hs_)) (fun k_ hk_ => ⟨hk_.1.1.1, hk_.1.1.2, fun e_ => Or.elim (ho0.1 k_ e_.symm) (fun hs_ => hk_.2.1 hs_) (fun hn_ => Nat.not_le.2 hk_.2.2 hn_)⟩))
     have n2_ := Aside0.mk (blk_kept (bk BK205.out) hkp (fun hs_ => (fun e_ => (Kd.R_ne HO214.out BK205.out (by decide)) e_) hs_))
     have n3_ := Aside0.mk (blk_kept (bk BK206.out) hkp (fun hs_ => (fun e_ => (Kd.R_ne HO214.out BK206.out (by decide)) e_) hs_))
     have n4_ := Aside0.mk (blk_kept (bk BK207.out) hkp (fun hs_ => (fun e_ => (Kd.R_ne HO214.out BK207.out (by decide)) e_) hs_))
     have n5_ := Aside0.mk (Kd.R_mono (ok' := fun k_ => ((P0_1_ k_ ∨ P1_1_ k_) ∨ w.heap.size ≤ k_) ∧ some k_ ≠ (.slice Ao48 l0_1.length co48 : Value).ownBlock ∧ some k_ ≠ (.slice Ao50 l1_1.length co50 : Value).ownBlock) ho0 (fun k_ hk_ => ⟨Or.elim hk_ (fun hs_ => (HO214.out.1 k_ (hs_).symm).1.1.1) (fun hn_ => (.inr (Nat.le_trans (by first | exact HK.out.1 | exact (show Kept w _ (fun k_ => P0_1_ k_ ∨ P1_1_ k_) from by repeat (first | (with_reducible first | exact HK.out | apply Kept.alloc | apply Kept.drewN | apply Kept.drew | refine Kept.setCell ?_ (.inr GW205.out) _ | refine Kept.setCell ?_ (.inr GW206.out) _ | refine Kept.setCell ?_ (.inr GW207.out) _) | exact HK.out)).1) hn_))), Or.elim hk_ (fun hs_ => fun e_ => (((HO0_1.out).1 k_ e_.symm).2) hs_) (fun hn_ => (Kd.fresh' (Kd.R_lt (by (with_reducible repeat (first | apply Kd.R_alloc | apply Kd.R_drewN | apply Kd.R_drew)); exact HO0_1.out)) k_ hn_)), Or.elim hk_ (fun hs_ => fun e_ => (((HO1_1.out).1 k_ e_.symm).2) hs_) (fun hn_ => (Kd.fresh' (Kd.R_lt (by (with_reducible repeat (first | apply Kd.R_alloc | apply Kd.R_drewN | apply Kd.R_drew)); exact HO1_1.out)) k_ hn_))⟩))
     have n6_ := Aside0.mk (Kept.then_ (S := (fun k_ => P0_1_ k_ ∨ P1_1_ k_)) (by repeat (first | (with_reducible first | exact HK.out | apply Kept.alloc | apply Kept.drewN | apply Kept.drew | refine Kept.setCell ?_ (.inr GW205.out) _ | refine Kept.setCell ?_ (.inr GW206.out) _ | refine Kept.setCell ?_ (.inr GW207.out) _) | exact HK.out)) hkp (fun k_ hs_ => (fun e_ => (HO214.out.1 k_ e_.symm).1.1.1) hs_))
     have n7_ := Aside0.mk (hb)
     clear HO0_1
     clear HO1_1
     clear BK205
     clear BK206
     clear BK207
     clear HK
     clear HB
     clear HO214
     have HO0_1 := n0_
     have HO1_1 := n1_
     have BK205 := n2_
     have BK206 := n3_
     have BK207 := n4_
     have HO218 := n5_
     have HK := n6_
     have HB := n7_
     clear n0_ n1_ n2_ n3_ n4_ n5_ n6_ n7_
     (try clear hb)
     (try clear hkp)
     (try clear ho0)
     obtain ⟨Ao63, co63, eo63⟩ := Kd.R_slice HO218.out
     (first | subst eo63 | (injection eo63 with f1_ f2_ f3_; have f4_ := f1_.symm; have f5_ := f3_.symm; clear f1_ f2_ f3_; subst f4_; subst f5_))
     refine hK.out _ _ ⟨(p2 BK205).1, (p2 BK205).2.1, (p2 BK206).1, (p2 BK206).2.1⟩ (fun hHeld => ?_)
     clear hK K
     refine norm_ (a' := ?_) ?_ ?_
     rotate_left
     ·show Act.put _ (some 39) _ = _
      simp only [Act.put, s1, s2, s3, i64_w, i32_w]
      rfl
     refine one_ (i := 8) (N := none) #[T_,T_,T_,T_,T_,T_,T_,T_,T_] rfl rfl (one_of HT_.out (by kernel_rfl)) (by decide) (fun K hK => ?_)
     have hs62 : w61.cell? ⟨gb207, 0, none⟩ = some (.int .i64 0) := (blk_cell BK207.out 0).trans rfl
     have hfs62 := blk_frozen BK207.out 0
     have hns62_0 := NB205_207.out
     have hns62_1 := NB206_207.out
     have hms62_0 := NB207_205.out
     have hms62_1 := NB207_206.out
     have hs64 : w61.cell? ⟨gb207, 1, none⟩ = some (.slice none 0 0) := (blk_cell BK207.out 1).trans rfl
     have hfs64 := blk_frozen BK207.out 1
     have hns64_0 := NB205_207.out
     have hns64_1 := NB206_207.out
     have hms64_0 := NB207_205.out
     have hms64_1 := NB207_206.out
     refine skip_ (w1 := ?_) (by rfl) rfl ?_ ?_
     rotate_left
     ·go_simp
      rfl
     refine hK.out _ _ ⟨((cell_far (p := ⟨gb207, _, none⟩) NB205_207.out _).trans (((cell_far (p := ⟨gb207, _, none⟩) NB205_207.out _).trans (hHeld.1)))), ((cell_far (p := ⟨gb207, _, none⟩) NB205_207.out _).trans (((cell_far (p := ⟨gb207, _, none⟩) NB205_207.out _).trans (hHeld.2.1)))), ((cell_far (p := ⟨gb207, _, none⟩) NB206_207.out _).trans (((cell_far (p := ⟨gb207, _, none⟩) NB206_207.out _).trans (hHeld.2.2.1)))), ((cell_far (p := ⟨gb207, _, none⟩) NB206_207.out _).trans (((cell_far (p := ⟨gb207, _, none⟩) NB206_207.out _).trans (hHeld.2.2.2))))⟩ (fun hHeld => ?_)
     clear hK K
     refine done_ (done_of HT_.out (by kernel_rfl)) ?_
     try go_wp2
     refine bodyPost_ret (results_cell_row rfl _ _ gb207 71 #[.int .i64 t215, .slice Ao63 t216.length co63] (0, 0) _ rfl (by (with_reducible repeat (first | refine blk_drewN ?_ _ | refine blk_drew ?_ | refine blk_alloc ?_ _)); refine blk_put (cs := #[.int .i64 t215, .slice none 0 0]) ?_ 1 _ rfl; refine blk_put (cs := #[.int .i64 0, .slice none 0 0]) ?_ 0 _ rfl; (with_reducible repeat (first | refine blk_drewN ?_ _ | refine blk_drew ?_ | refine blk_alloc ?_ _)); exact BK207.out) Try.underlying71 rfl (by kernel_rfl)) rfl ?_
     exact ⟨_, by first | rfl | (simp [*, errW_none, errW_some] <;> rfl), by (with_reducible repeat (first | apply Kd.R_alloc | apply Kd.R_drewN | apply Kd.R_drew)); exact Kd.R_mono (Kd.R_far (p := ⟨gb207, 1, none⟩) (Kd.R_far (p := ⟨gb207, 0, none⟩) (Kd.R_types HO218.out BK207.out (by decide)) (fun _ hk => hk.2) (.int .i64 t215)) (fun _ hk => hk.2) (.slice Ao63 t216.length co63)) (fun _ hk => hk.1.1), by repeat (first | (with_reducible first | exact HB.out | apply below_alloc | apply pw_below_drewN | apply below_drew1 | refine below_set ?_ GE205.out | refine below_set ?_ GE206.out | refine below_set ?_ GE207.out) | exact HB.out), by repeat (first | (with_reducible first | exact HK.out | apply Kept.alloc | apply Kept.drewN | apply Kept.drew | refine Kept.setCell ?_ (.inr GW205.out) _ | refine Kept.setCell ?_ (.inr GW206.out) _ | refine Kept.setCell ?_ (.inr GW207.out) _) | exact HK.out)⟩
    ·rw [if_neg c45] at H
     have c45b0 : decide (0 ≤ t211) = false := decide_eq_false c45
     clear c45
     replace H := Option.bind_eq_some_iff.mp H
     obtain ⟨t219, A650, H⟩ := H
     try dsimp only at H
     have A65 := Aside0.mk A650
     clear A650
     replace H := Option.bind_eq_some_iff.mp H
     obtain ⟨⟨t222, t223⟩, A660, H⟩ := H
     try dsimp only at H
     have A66 := Aside0.mk A660
     clear A660
     simp only [Option.some.injEq, Prod.mk.injEq] at H
     obtain ⟨rfl, rfl⟩ := H
     obtain ⟨Ao67, co67, eo67⟩ := Kd.R_slice HO0_1.out
     subst eo67
     go_enter Try.func50, Try.ntmps50
     try go_wp2_with (first | ((with_reducible refine gate_dst (N := 2) rfl ?_); refine bx 2 #[.int .i64 a0_0, .slice Ao67 l0_1.length co67] 71 ?_; intro gb205 hg w68 hbox hb; have n0_ := Aside0.mk (Kd.R_below (by (with_reducible repeat (first | apply Kd.R_alloc | apply Kd.R_drewN | apply Kd.R_drew)); exact HO0_1.out) hb); have n1_ := Aside0.mk (Kd.R_below (by (with_reducible repeat (first | apply Kd.R_alloc | apply Kd.R_drewN | apply Kd.R_drew)); exact HO1_1.out) hb); have n2_ := Aside0.mk (Kept.below (S := (fun k_ => P0_1_ k_ ∨ P1_1_ k_)) (by repeat (first | (with_reducible first | exact HK.out | apply Kept.alloc | apply Kept.drewN | apply Kept.drew) | exact HK.out)) hb); have n3_ := u2 HB hb; have n4_ := Aside0.mk hbox; have n5_ := Aside0.mk ((by rw [hg]; exact (by first | exact HK.out.1 | exact (show Kept w _ (fun k_ => P0_1_ k_ ∨ P1_1_ k_) from by repeat (first | (with_reducible first | exact HK.out | apply Kept.alloc | apply Kept.drewN | apply Kept.drew) | exact HK.out)).1) : w.heap.size ≤ gb205)); have n6_ := Aside0.mk ((by rw [hg]; exact (below_size (bw HB.out)) : w0.heap.size ≤ gb205)); clear HO0_1; clear HO1_1; clear HK; clear HB; have HO0_1 := n0_; have HO1_1 := n1_; have HK := n2_; have HB := n3_; have BK205 := n4_; have GW205 := n5_; have GE205 := n6_; clear n0_ n1_ n2_ n3_ n4_ n5_ n6_; clear hb hbox hg; obtain ⟨Ao69, co69, eo69⟩ := Kd.R_slice HO1_1.out; subst eo69) | ((with_reducible refine gate_dst (N := 3) rfl ?_); refine bx 3 #[.int .i64 a1_0, .slice Ao69 l1_1.length co69] 71 ?_; intro gb206 hg w70 hbox hb; have n0_ := Aside0.mk (Kd.R_below (by (with_reducible repeat (first | apply Kd.R_alloc | apply Kd.R_drewN | apply Kd.R_drew)); exact HO0_1.out) hb); have n1_ := Aside0.mk (Kd.R_below (by (with_reducible repeat (first | apply Kd.R_alloc | apply Kd.R_drewN | apply Kd.R_drew)); exact HO1_1.out) hb); have n2_ := u1 BK205 hb; have n3_ := Aside0.mk (Kept.below (S := (fun k_ => P0_1_ k_ ∨ P1_1_ k_)) (by repeat (first | (with_reducible first | exact HK.out | apply Kept.alloc | apply Kept.drewN | apply Kept.drew | refine Kept.setCell ?_ (.inr GW205.out) _) | exact HK.out)) hb); have n4_ := u2 HB hb; have n5_ := Aside0.mk hbox; have n6_ := Aside0.mk ((by rw [hg]; exact (by first | exact HK.out.1 | exact (show Kept w _ (fun k_ => P0_1_ k_ ∨ P1_1_ k_) from by repeat (first | (with_reducible first | exact HK.out | apply Kept.alloc | apply Kept.drewN | apply Kept.drew | refine Kept.setCell ?_ (.inr GW205.out) _) | exact HK.out)).1) : w.heap.size ≤ gb206)); have n7_ := Aside0.mk ((by rw [hg]; exact (below_size (bw HB.out)) : w0.heap.size ≤ gb206)); have n8_ := u4 hg BK205; have n9_ := u5 hg BK205; clear HO0_1; clear HO1_1; clear BK205; clear HK; clear HB; have HO0_1 := n0_; have HO1_1 := n1_; have BK205 := n2_; have HK := n3_; have HB := n4_; have BK206 := n5_; have GW206 := n6_; have GE206 := n7_; have NB205_206 := n8_; have NB206_205 := n9_; clear n0_ n1_ n2_ n3_ n4_ n5_ n6_ n7_ n8_ n9_; clear hb hbox hg) | ((with_reducible refine gate_dst (N := 4) rfl ?_); refine bx 4 #[.int .i64 0, .slice none 0 0] 71 ?_; intro gb207 hg w71 hbox hb; have n0_ := Aside0.mk (Kd.R_below (by (with_reducible repeat (first | apply Kd.R_alloc | apply Kd.R_drewN | apply Kd.R_drew)); exact HO0_1.out) hb); have n1_ := Aside0.mk (Kd.R_below (by (with_reducible repeat (first | apply Kd.R_alloc | apply Kd.R_drewN | apply Kd.R_drew)); exact HO1_1.out) hb); have n2_ := u1 BK205 hb; have n3_ := u1 BK206 hb; have n4_ := Aside0.mk (Kept.below (S := (fun k_ => P0_1_ k_ ∨ P1_1_ k_)) (by repeat (first | (with_reducible first | exact HK.out | apply Kept.alloc | apply Kept.drewN | apply Kept.drew | refine Kept.setCell ?_ (.inr GW205.out) _ | refine Kept.setCell ?_ (.inr GW206.out) _) | exact HK.out)) hb); have n5_ := u2 HB hb; have n6_ := Aside0.mk hbox; have n7_ := Aside0.mk ((by rw [hg]; exact (by first | exact HK.out.1 | exact (show Kept w _ (fun k_ => P0_1_ k_ ∨ P1_1_ k_) from by repeat (first | (with_reducible first | exact HK.out | apply Kept.alloc | apply Kept.drewN | apply Kept.drew | refine Kept.setCell ?_ (.inr GW205.out) _ | refine Kept.setCell ?_ (.inr GW206.out) _) | exact HK.out)).1) : w.heap.size ≤ gb207)); have n8_ := Aside0.mk ((by rw [hg]; exact (below_size (bw HB.out)) : w0.heap.size ≤ gb207)); have n9_ := u4 hg BK205; have n10_ := u5 hg BK205; have n11_ := u4 hg BK206; have n12_ := u5 hg BK206; clear HO0_1; clear HO1_1; clear BK205; clear BK206; clear HK; clear HB; have HO0_1 := n0_; have HO1_1 := n1_; have BK205 := n2_; have BK206 := n3_; have HK := n4_; have HB := n5_; have BK207 := n6_; have GW207 := n7_; have GE207 := n8_; have NB205_207 := n9_; have NB207_205 := n10_; have NB206_207 := n11_; have NB207_206 := n12_; clear n0_ n1_ n2_ n3_ n4_ n5_ n6_ n7_ n8_ n9_ n10_ n11_ n12_; clear hb hbox hg; have hnb72 := NB205_206.out; have hnc72 := NB206_205.out; have hnb73 := NB205_207.out; have hnc73 := NB207_205.out; obtain ⟨_, _, _, _⟩ := p2 BK205; have hnb75 := NB206_207.out; have hnc75 := NB207_206.out; obtain ⟨_, _, _, _⟩ := p2 BK206) | ((with_reducible refine gate_callee (f := 47) rfl ?_); refine gL (some 30) Try.func47 #[.slice Ao67 l0_1.length co67, .slice Ao69 l1_1.length co69] rfl ?_; (with_reducible refine (zelligeref03_Cmp.calls k _ _ l0_1 _ _ l1_1 t211 _ ?side1 ?side2 ?side3 ?side4 A44.out).mono ?_); (case side1 => repeat (first | exact (Kd.R_reads' HO0_1.out).2.2 | (with_reducible refine Kd.C_alloc ?_ _) | (with_reducible refine Kd.C_drewN ?_ _) | (with_reducible refine Kd.C_drew ?_))); (case side2 => exact (Kd.R_reads' HO0_1.out).2.1); (case side3 => repeat (first | exact (Kd.R_reads' HO1_1.out).2.2 | (with_reducible refine Kd.C_alloc ?_ _) | (with_reducible refine Kd.C_drewN ?_ _) | (with_reducible refine Kd.C_drew ?_))); (case side4 => exact (Kd.R_reads' HO1_1.out).2.1); rintro e w' ⟨rfl, ⟨nd, rfl⟩⟩; refine ⟨_, rfl, ?_⟩; (try (rw [drewN_self w71]; generalize hq_ : World.drewN w71 _ = w71; have n0_ : Aside0 (Kd.R (Kd.int .i64) 3 w71 w0.heap.size (fun k_ => ((P0_1_ k_ ∨ P1_1_ k_) ∨ w.heap.size ≤ k_) ∧ some k_ ≠ (.slice Ao69 l1_1.length co69 : Value).ownBlock) (.slice Ao67 l0_1.length co67) l0_1) := ⟨by rw [← hq_]; exact (by (with_reducible repeat (first | apply Kd.R_alloc | apply Kd.R_drewN | apply Kd.R_drew)); exact HO0_1.out)⟩; have n1_ : Aside0 (Kd.R (Kd.int .i64) 3 w71 w0.heap.size (fun k_ => ((P0_1_ k_ ∨ P1_1_ k_) ∨ w.heap.size ≤ k_) ∧ some k_ ≠ (.slice Ao67 l0_1.length co67 : Value).ownBlock) (.slice Ao69 l1_1.length co69) l1_1) := ⟨by rw [← hq_]; exact (by (with_reducible repeat (first | apply Kd.R_alloc | apply Kd.R_drewN | apply Kd.R_drew)); exact HO1_1.out)⟩; have n2_ : Aside0 (w71.heap[gb205]? = some (.cells #[.int .i64 a0_0, .slice Ao67 l0_1.length co67] 71 (0, 0))) := ⟨by rw [← hq_]; exact (bk BK205.out)⟩; have n3_ : Aside0 (w71.heap[gb206]? = some (.cells #[.int .i64 a1_0, .slice Ao69 l1_1.length co69] 71 (0, 0))) := ⟨by rw [← hq_]; exact (bk BK206.out)⟩; have n4_ : Aside0 (w71.heap[gb207]? = some (.cells #[.int .i64 0, .slice none 0 0] 71 (0, 0))) := ⟨by rw [← hq_]; exact (bk BK207.out)⟩; have n5_ : Aside0 (Kept w w71 (fun k_ => P0_1_ k_ ∨ P1_1_ k_)) := ⟨by rw [← hq_]; exact (by repeat (first | (with_reducible first | exact HK.out | apply Kept.alloc | apply Kept.drewN | apply Kept.drew | refine Kept.setCell ?_ (.inr GW205.out) _ | refine Kept.setCell ?_ (.inr GW206.out) _ | refine Kept.setCell ?_ (.inr GW207.out) _) | exact HK.out))⟩; have n6_ : Aside0 (Below w0.heap.size w0 w71) := ⟨by rw [← hq_]; exact (bw HB.out)⟩; clear HO0_1 HO1_1 BK205 BK206 BK207 HK HB hq_; have HO0_1 := n0_; have HO1_1 := n1_; have BK205 := n2_; have BK206 := n3_; have BK207 := n4_; have HK := n5_; have HB := n6_; clear n0_ n1_ n2_ n3_ n4_ n5_ n6_))))
     have n0_ := Aside0.mk (Kd.R_drew HO0_1.out)
     have n1_ := Aside0.mk (Kd.R_drew HO1_1.out)
     have n2_ := Aside0.mk (blk_drew BK205.out)
     have n3_ := Aside0.mk (blk_drew BK206.out)
     have n4_ := Aside0.mk (blk_drew BK207.out)
     have n5_ := Aside0.mk (Kept.drew HK.out)
     have n6_ := Aside0.mk (below_drew1 HB.out)
     clear HO0_1
     clear HO1_1
     clear BK205
     clear BK206
     clear BK207
     clear HK
     clear HB
     have HO0_1 := n0_
     have HO1_1 := n1_
     have BK205 := n2_
     have BK206 := n3_
     have BK207 := n4_
     have HK := n5_
     have HB := n6_
     clear n0_ n1_ n2_ n3_ n4_ n5_ n6_
     refine start_ (n := 9) (S := fun w' => w'.cell? ⟨gb206, 0, none⟩ = some (.int .i64 a1_0) ∧ w'.cell? ⟨gb206, 1, none⟩ = some (.slice Ao69 l1_1.length co69) ∧ w'.cell? ⟨gb205, 0, none⟩ = some (.int .i64 a0_0) ∧ w'.cell? ⟨gb205, 1, none⟩ = some (.slice Ao67 l0_1.length co67)) (ds := []) #[F_,F_,F_,F_,F_,F_,F_,F_,F_] (by kernel_rfl) rfl rfl ⟨(p2 BK206).1, (p2 BK206).2.1, (p2 BK205).1, (p2 BK205).2.1⟩ (fun hHeld => ?_); refine with_tabW zelligeref04_Add.tab9 zelligeref04_Add.bits9 (fun HT_ HW_ => ?_)
     generalize w71.drew = w77 at HO0_1 HO1_1 BK205 BK206 BK207 HK HB hHeld ⊢
     refine pA (i := 0) (N := some 40) (v := ?_) (a' := ?_) #[T_,F_,F_,F_,F_,F_,F_,F_,F_] rfl rfl HT_ (Or.inl ⟨by rfl, ?_⟩) ?_ ?_
     rotate_left
     ·intro w'
      go_simp
      with_reducible rfl
     rotate_left
     ·simp only [Act.put, s1, s2, s3, i64_w, i32_w]
      rfl
     refine pA (i := 2) (N := some 42) (v := ?_) (a' := ?_) #[T_,F_,T_,F_,F_,F_,F_,F_,F_] rfl rfl HT_ (Or.inl ⟨by rfl, ?_⟩) ?_ ?_
     rotate_left
     ·intro w'
      go_simp
      with_reducible rfl
     rotate_left
     ·simp only [Act.put, s1, s2, s3, i64_w, i32_w]
      rfl
     refine pA (i := 4) (N := some 44) (v := ?_) (a' := ?_) #[T_,F_,T_,F_,T_,F_,F_,F_,F_] rfl rfl HT_ (Or.inl ⟨by rfl, ?_⟩) ?_ ?_
     rotate_left
     ·intro w'
      go_simp
      with_reducible rfl
     rotate_left
     ·simp only [Act.put, s1, s2, s3, i64_w, i32_w]
      rfl
     refine tA (i := 1) (N := some 41) (v := ?_) (a' := ?_) #[T_,T_,T_,F_,T_,F_,F_,F_,F_] rfl rfl HT_ HW_ (Or.inl ⟨by rfl, ?_⟩) hHeld ?_ ?_
     rotate_left
     ·rintro w' ⟨s0, s1, s2, s3⟩
      go_simp
      with_reducible rfl
     rotate_left
     ·simp only [Act.put, s1, s2, s3, i64_w, i32_w]
      rfl
     refine tA (i := 3) (N := some 43) (v := ?_) (a' := ?_) #[T_,T_,T_,T_,T_,F_,F_,F_,F_] rfl rfl HT_ HW_ (Or.inl ⟨by rfl, ?_⟩) hHeld ?_ ?_
     rotate_left
     ·rintro w' ⟨s0, s1, s2, s3⟩
      go_simp
      with_reducible rfl
     rotate_left
     ·simp only [Act.put, s1, s2, s3, i64_w, i32_w]
      rfl
     refine tA (i := 5) (N := some 45) (v := ?_) (a' := ?_) #[T_,T_,T_,T_,T_,T_,F_,F_,F_] rfl rfl HT_ HW_ (Or.inl ⟨by rfl, ?_⟩) hHeld ?_ ?_
     rotate_left
     ·rintro w' ⟨s0, s1, s2, s3⟩
      go_simp
      with_reducible rfl
     rotate_left
     ·simp only [Act.put, s1, s2, s3, i64_w, i32_w]
      rfl
     refine one_ (i := 6) (N := some 46) #[T_,T_,T_,T_,T_,T_,T_,F_,F_] rfl rfl (one_of HT_.out (by kernel_rfl)) (by decide) (fun K hK => ?_)
     refine goes_ Try.func48 (by kernel_rfl) rfl #[.slice Ao69 l1_1.length co69, .slice Ao67 l0_1.length co67] (by rfl) rfl rfl (by (try simp only [List.map_toArray, List.map_cons, List.map_nil]); first | done | rfl | (simp only [List.length_drop, List.length_take]; rfl)) ?_
     with_reducible refine (zelligeref03_Sub.calls k _ _ l1_1 _ _ l0_1 t219 _ ?side1 ?side2 ?side3 ?side4 A65.out).mono ?_
     (case side1 => repeat (first | exact (Kd.R_reads' HO1_1.out).2.2 | (with_reducible refine Kd.C_alloc ?_ _) | (with_reducible refine Kd.C_drewN ?_ _) | (with_reducible refine Kd.C_drew ?_)))
     (case side2 => exact (Kd.R_reads' HO1_1.out).2.1)
     (case side3 => repeat (first | exact (Kd.R_reads' HO0_1.out).2.2 | (with_reducible refine Kd.C_alloc ?_ _) | (with_reducible refine Kd.C_drewN ?_ _) | (with_reducible refine Kd.C_drew ?_)))
     (case side4 => exact (Kd.R_reads' HO0_1.out).2.1)
     rintro e w78 ⟨v220, rfl, ho0, hb⟩
     refine ⟨_, rfl, ?_⟩
     have n0_ := Aside0.mk (Kd.R_elder' (by (with_reducible repeat (first | apply Kd.R_alloc | apply Kd.R_drewN | apply Kd.R_drew)); exact HO0_1.out) (Kd.R_base ho0) hb)
     have n1_ := Aside0.mk (Kd.R_elder' (by (with_reducible repeat (first | apply Kd.R_alloc | apply Kd.R_drewN | apply Kd.R_drew)); exact HO1_1.out) (Kd.R_base ho0) hb)
     have n2_ := Aside0.mk (Kd.R_lower (Kd.R_new' (Kd.R_new' (Kd.R_newM (M := fun k_ => ((P0_1_ k_ ∨ P1_1_ k_) ∨ w.heap.size ≤ k_)) ho0 (by first | exact HK.out.1 | exact (show Kept w _ (fun k_ => P0_1_ k_ ∨ P1_1_ k_) from by repeat (first | (with_reducible first | exact HK.out | apply Kept.alloc | apply Kept.drewN | apply Kept.drew | refine Kept.setCell ?_ (.inr GW205.out) _ | refine Kept.setCell ?_ (.inr GW206.out) _ | refine Kept.setCell ?_ (.inr GW207.out) _) | exact HK.out)).1) (fun k_ h_ => .inr h_)) (Kd.R_lt (by (with_reducible repeat (first | apply Kd.R_alloc | apply Kd.R_drewN | apply Kd.R_drew)); exact HO0_1.out))) (Kd.R_lt (by (with_reducible repeat (first | apply Kd.R_alloc | apply Kd.R_drewN | apply Kd.R_drew)); exact HO1_1.out))) (below_size (bw HB.out)))
     have n3_ := u1 BK205 hb
     have n4_ := u1 BK206 hb
     have n5_ := u1 BK207 hb
     have n6_ := Aside0.mk (Kept.below (S := (fun k_ => P0_1_ k_ ∨ P1_1_ k_)) (by repeat (first | (with_reducible first | exact HK.out | apply Kept.alloc | apply Kept.drewN | apply Kept.drew | refine Kept.setCell ?_ (.inr GW205.out) _ | refine Kept.setCell ?_ (.inr GW206.out) _ | refine Kept.setCell ?_ (.inr GW207.out) _) | exact HK.out)) hb)
     have n7_ := Aside0.mk (below_step (bw HB.out) hb)
     clear HO0_1
     clear HO1_1
     clear BK205
     clear BK206
     clear BK207
     clear HK
     clear HB
     have HO0_1 := n0_
     have HO1_1 := n1_
     have HO221 := n2_
     have BK205 := n3_
     have BK206 := n4_
     have BK207 := n5_
     have HK := n6_
     have HB := n7_
     clear n0_ n1_ n2_ n3_ n4_ n5_ n6_ n7_
     (try clear hb)
     (try clear hb2)
     (try clear hk)
     (try clear hi)
     (try clear ho0)
     obtain ⟨Ao79, co79, eo79⟩ := Kd.R_slice HO221.out
     (first | subst eo79 | (injection eo79 with f1_ f2_ f3_; have f4_ := f1_.symm; have f5_ := f3_.symm; clear f1_ f2_ f3_; subst f4_; subst f5_))
     refine hK.out _ _ ⟨(p2 BK206).1, (p2 BK206).2.1, (p2 BK205).1, (p2 BK205).2.1⟩ (fun hHeld => ?_)
     clear hK K
     refine norm_ (a' := ?_) ?_ ?_
     rotate_left
     ·show Act.put _ (some 46) _ = _
      simp only [Act.put, s1, s2, s3, i64_w, i32_w]
      rfl
     refine one_ (i := 7) (N := some 47) #[T_,T_,T_,T_,T_,T_,T_,T_,F_] rfl rfl (one_of HT_.out (by kernel_rfl)) (by decide) (fun K hK => ?_)
     refine goes_ Try.func40 (by kernel_rfl) rfl #[.int .i64 a1_0, .slice Ao79 t219.length co79] (by rfl) rfl rfl (by (try simp only [List.map_toArray, List.map_cons, List.map_nil]); first | done | rfl | (simp only [List.length_drop, List.length_take]; rfl)) ?_
     with_reducible refine (zelligeref04_make1.calls a1_0 (fun k_ => some k_ = (.slice Ao79 t219.length co79 : Value).ownBlock) (.slice Ao79 t219.length co79) t219 t222 t223 w0 _ ?side1 ?side2 A66.out).mono ?_
     (case side1 => repeat (first | (with_reducible first | exact HB.out | apply below_alloc | apply pw_below_drewN | apply below_drew1 | refine below_set ?_ GE205.out | refine below_set ?_ GE206.out | refine below_set ?_ GE207.out) | exact HB.out))
     (case side2 => exact Kd.R_tight rfl HO221.out)
     rintro e w80 ⟨v224, rfl, ho0, hb, hkp⟩
     refine ⟨_, rfl, ?_⟩
     have n0_ := Aside0.mk (Kd.R_mono (ok' := fun k_ => ((P0_1_ k_ ∨ P1_1_ k_) ∨ w.heap.size ≤ k_) ∧ some k_ ≠ (.slice Ao69 l1_1.length co69 : Value).ownBlock ∧ some k_ ≠ (v224 : Value).ownBlock) (Kd.R_keptB (HO0_1.out) hkp (fun k_ hk_ hs_ => (hk_.2) hs_)) (fun k_ hk_ => ⟨hk_.1.1.1, hk_.1.1.2, fun e_ => Or.elim (ho0.1 k_ e_.symm) (fun hs_ => hk_.2.1 hs_) (fun hn_ => Nat.not_le.2 hk_.2.2 hn_)⟩))
     have n1_ := Aside0.mk (Kd.R_mono (ok' := fun k_ => ((P0_1_ k_ ∨ P1_1_ k_) ∨ w.heap.size ≤ k_) ∧ some k_ ≠ (.slice Ao67 l0_1.length co67 : Value).ownBlock ∧ some k_ ≠ (v224 : Value).ownBlock) (Kd.R_keptB (HO1_1.out) hkp (fun k_ hk_ hs_ => (hk_.2) hs_)) (fun k_ hk_ => ⟨hk_.1.1.1, hk_.1.1.2, fun e_ => Or.elim (ho0.1 k_ e_.symm) (fun hs_ => hk_.2.1 hs_) (fun hn_ => Nat.not_le.2 hk_.2.2 hn_)⟩))
     have n2_ := Aside0.mk (blk_kept (bk BK205.out) hkp (fun hs_ => (fun e_ => (Kd.R_ne HO221.out BK205.out (by decide)) e_) hs_))
     have n3_ := Aside0.mk (blk_kept (bk BK206.out) hkp (fun hs_ => (fun e_ => (Kd.R_ne HO221.out BK206.out (by decide)) e_) hs_))
     have n4_ := Aside0.mk (blk_kept (bk BK207.out) hkp (fun hs_ => (fun e_ => (Kd.R_ne HO221.out BK207.out (by decide)) e_) hs_))
     have n5_ := Aside0.mk (Kd.R_mono (ok' := fun k_ => ((P0_1_ k_ ∨ P1_1_ k_) ∨ w.heap.size ≤ k_) ∧ some k_ ≠ (.slice Ao67 l0_1.length co67 : Value).ownBlock ∧ some k_ ≠ (.slice Ao69 l1_1.length co69 : Value).ownBlock) ho0 (fun k_ hk_ => ⟨Or.elim hk_ (fun hs_ => (HO221.out.1 k_ (hs_).symm).1.1.1) (fun hn_ => (.inr (Nat.le_trans (by first | exact HK.out.1 | exact (show Kept w _ (fun k_ => P0_1_ k_ ∨ P1_1_ k_) from by repeat (first | (with_reducible first | exact HK.out | apply Kept.alloc | apply Kept.drewN | apply Kept.drew | refine Kept.setCell ?_ (.inr GW205.out) _ | refine Kept.setCell ?_ (.inr GW206.out) _ | refine Kept.setCell ?_ (.inr GW207.out) _) | exact HK.out)).1) hn_))), Or.elim hk_ (fun hs_ => fun e_ => (((HO0_1.out).1 k_ e_.symm).2) hs_) (fun hn_ => (Kd.fresh' (Kd.R_lt (by (with_reducible repeat (first | apply Kd.R_alloc | apply Kd.R_drewN | apply Kd.R_drew)); exact HO0_1.out)) k_ hn_)), Or.elim hk_ (fun hs_ => fun e_ => (((HO1_1.out).1 k_ e_.symm).2) hs_) (fun hn_ => (Kd.fresh' (Kd.R_lt (by (with_reducible repeat (first | apply Kd.R_alloc | apply Kd.R_drewN | apply Kd.R_drew)); exact HO1_1.out)) k_ hn_))⟩))
     have n6_ := Aside0.mk (Kept.then_ (S := (fun k_ => P0_1_ k_ ∨ P1_1_ k_)) (by repeat (first | (with_reducible first | exact HK.out | apply Kept.alloc | apply Kept.drewN | apply Kept.drew | refine Kept.setCell ?_ (.inr GW205.out) _ | refine Kept.setCell ?_ (.inr GW206.out) _ | refine Kept.setCell ?_ (.inr GW207.out) _) | exact HK.out)) hkp (fun k_ hs_ => (fun e_ => (HO221.out.1 k_ e_.symm).1.1.1) hs_))
     have n7_ := Aside0.mk (hb)
     clear HO0_1
     clear HO1_1
     clear BK205
     clear BK206
     clear BK207
     clear HK
     clear HB
     clear HO221
     have HO0_1 := n0_
     have HO1_1 := n1_
     have BK205 := n2_
     have BK206 := n3_
     have BK207 := n4_
     have HO225 := n5_
     have HK := n6_
     have HB := n7_
     clear n0_ n1_ n2_ n3_ n4_ n5_ n6_ n7_
     (try clear hb)
     (try clear hkp)
     (try clear ho0)
     obtain ⟨Ao82, co82, eo82⟩ := Kd.R_slice HO225.out
     (first | subst eo82 | (injection eo82 with f1_ f2_ f3_; have f4_ := f1_.symm; have f5_ := f3_.symm; clear f1_ f2_ f3_; subst f4_; subst f5_))
     refine hK.out _ _ ⟨(p2 BK206).1, (p2 BK206).2.1, (p2 BK205).1, (p2 BK205).2.1⟩ (fun hHeld => ?_)
     clear hK K
     refine norm_ (a' := ?_) ?_ ?_
     rotate_left
     ·show Act.put _ (some 47) _ = _
      simp only [Act.put, s1, s2, s3, i64_w, i32_w]
      rfl
     refine one_ (i := 8) (N := none) #[T_,T_,T_,T_,T_,T_,T_,T_,T_] rfl rfl (one_of HT_.out (by kernel_rfl)) (by decide) (fun K hK => ?_)
     have hs81 : w80.cell? ⟨gb207, 0, none⟩ = some (.int .i64 0) := (blk_cell BK207.out 0).trans rfl
     have hfs81 := blk_frozen BK207.out 0
     have hns81_0 := NB205_207.out
     have hns81_1 := NB206_207.out
     have hms81_0 := NB207_205.out
     have hms81_1 := NB207_206.out
     have hs83 : w80.cell? ⟨gb207, 1, none⟩ = some (.slice none 0 0) := (blk_cell BK207.out 1).trans rfl
     have hfs83 := blk_frozen BK207.out 1
     have hns83_0 := NB205_207.out
     have hns83_1 := NB206_207.out
     have hms83_0 := NB207_205.out
     have hms83_1 := NB207_206.out
     refine skip_ (w1 := ?_) (by rfl) rfl ?_ ?_
     rotate_left
     ·go_simp
      rfl
     refine hK.out _ _ ⟨((cell_far (p := ⟨gb207, _, none⟩) NB206_207.out _).trans (((cell_far (p := ⟨gb207, _, none⟩) NB206_207.out _).trans (hHeld.1)))), ((cell_far (p := ⟨gb207, _, none⟩) NB206_207.out _).trans (((cell_far (p := ⟨gb207, _, none⟩) NB206_207.out _).trans (hHeld.2.1)))), ((cell_far (p := ⟨gb207, _, none⟩) NB205_207.out _).trans (((cell_far (p := ⟨gb207, _, none⟩) NB205_207.out _).trans (hHeld.2.2.1)))), ((cell_far (p := ⟨gb207, _, none⟩) NB205_207.out _).trans (((cell_far (p := ⟨gb207, _, none⟩) NB205_207.out _).trans (hHeld.2.2.2))))⟩ (fun hHeld => ?_)
     clear hK K
     refine done_ (done_of HT_.out (by kernel_rfl)) ?_
     try go_wp2
     refine bodyPost_ret (results_cell_row rfl _ _ gb207 71 #[.int .i64 t222, .slice Ao82 t223.length co82] (0, 0) _ rfl (by (with_reducible repeat (first | refine blk_drewN ?_ _ | refine blk_drew ?_ | refine blk_alloc ?_ _)); refine blk_put (cs := #[.int .i64 t222, .slice none 0 0]) ?_ 1 _ rfl; refine blk_put (cs := #[.int .i64 0, .slice none 0 0]) ?_ 0 _ rfl; (with_reducible repeat (first | refine blk_drewN ?_ _ | refine blk_drew ?_ | refine blk_alloc ?_ _)); exact BK207.out) Try.underlying71 rfl (by kernel_rfl)) rfl ?_
     exact ⟨_, by first | rfl | (simp [*, errW_none, errW_some] <;> rfl), by (with_reducible repeat (first | apply Kd.R_alloc | apply Kd.R_drewN | apply Kd.R_drew)); exact Kd.R_mono (Kd.R_far (p := ⟨gb207, 1, none⟩) (Kd.R_far (p := ⟨gb207, 0, none⟩) (Kd.R_types HO225.out BK207.out (by decide)) (fun _ hk => hk.2) (.int .i64 t222)) (fun _ hk => hk.2) (.slice Ao82 t223.length co82)) (fun _ hk => hk.1.1), by repeat (first | (with_reducible first | exact HB.out | apply below_alloc | apply pw_below_drewN | apply below_drew1 | refine below_set ?_ GE205.out | refine below_set ?_ GE206.out | refine below_set ?_ GE207.out) | exact HB.out), by repeat (first | (with_reducible first | exact HK.out | apply Kept.alloc | apply Kept.drewN | apply Kept.drew | refine Kept.setCell ?_ (.inr GW205.out) _ | refine Kept.setCell ?_ (.inr GW206.out) _ | refine Kept.setCell ?_ (.inr GW207.out) _) | exact HK.out)⟩
end Go.Proofs.Ytfangodjmppooaa.F
end
section
namespace Go.Proofs.Ytfangodjmppooaa.F
open RowKit YtfangodjmppooaaW.PrintWords YtfangodjmppooaaW.PrintLast YtfangodjmppooaaW.PrintMore
set_option linter.unusedVariables false
set_option linter.unusedSimpArgs false
def zelligeref04_Neg.f (a0_0 : Int) (l0_1 : List Int) : Option (Int × List Int) := some (wrap64 (-a0_0), l0_1)
set_option maxHeartbeats 8000000 in
set_option maxRecDepth 100000 in
theorem zelligeref04_Neg.calls (a0_0 : Int) (P0_1_ : Nat → Prop) (u9000_ : Value) (l0_1 : List Int) (r1 : Int) (r2 : List Int) (w0 w : World) (hB : Below w0.heap.size w0 w) (ho0_1 : Kd.R (Kd.int .i64) 3 w w0.heap.size P0_1_ u9000_ l0_1) (h : zelligeref04_Neg.f a0_0 l0_1 = some (r1, r2)) :
  Calls Try.prog 51 #[.agg #[.int .i64 a0_0, u9000_]] w fun e w' => ∃ v1_ : Value, e = .returned (.agg #[.int .i64 r1, v1_]) ∧ Kd.R (Kd.int .i64) 3 w' w0.heap.size (fun k_ => (P0_1_ k_ ∨ w.heap.size ≤ k_)) v1_ r2 ∧ Below w0.heap.size w0 w' ∧ Kept w w' (fun k_ => P0_1_ k_) := by
 have hu71 := Try.underlying71
 have HO0_1 := Aside0.mk (show Kd.R (Kd.int .i64) 3 w w0.heap.size (fun k_ => (P0_1_ k_ ∨ w.heap.size ≤ k_)) u9000_ l0_1 from Kd.R_mono ho0_1 (fun k_ hk => (.inl hk)))
 have HK := Aside0.mk (Kept.refl w (fun k_ => P0_1_ k_))
 have HW0 := Aside0.mk hB.size
 have HB := Aside0.mk hB
 clear hB
 have H : (some (wrap64 (-a0_0), l0_1)) = some (r1, r2) := h
 clear h
 simp only [Option.some.injEq, Prod.mk.injEq] at H
 obtain ⟨rfl, rfl⟩ := H
 obtain ⟨Ao2, co2, eo2⟩ := Kd.R_slice HO0_1.out
 subst eo2
 go_enter Try.func51, Try.ntmps51
 go_wp2_with (first | ((with_reducible refine gate_dst (N := 1) rfl ?_); refine bx 1 #[.int .i64 a0_0, .slice Ao2 l0_1.length co2] 71 ?_; intro gb226 hg w3 hbox hb; have n0_ := Aside0.mk (Kd.R_below (by (with_reducible repeat (first | apply Kd.R_alloc | apply Kd.R_drewN | apply Kd.R_drew)); exact HO0_1.out) hb); have n1_ := Aside0.mk (Kept.below (S := (fun k_ => P0_1_ k_)) (by repeat (first | (with_reducible first | exact HK.out | apply Kept.alloc | apply Kept.drewN | apply Kept.drew) | exact HK.out)) hb); have n2_ := u2 HB hb; have n3_ := Aside0.mk hbox; have n4_ := Aside0.mk ((by rw [hg]; exact (by first | exact HK.out.1 | exact (show Kept w _ (fun k_ => P0_1_ k_) from by repeat (first | (with_reducible first | exact HK.out | apply Kept.alloc | apply Kept.drewN | apply Kept.drew) | exact HK.out)).1) : w.heap.size ≤ gb226)); have n5_ := Aside0.mk ((by rw [hg]; exact (below_size (bw HB.out)) : w0.heap.size ≤ gb226)); clear HO0_1; clear HK; clear HB; have HO0_1 := n0_; have HK := n1_; have HB := n2_; have BK226 := n3_; have GW226 := n4_; have GE226 := n5_; clear n0_ n1_ n2_ n3_ n4_ n5_; clear hb hbox hg) | ((with_reducible refine gate_dst (N := 2) rfl ?_); refine bx 2 #[.int .i64 0, .slice none 0 0] 71 ?_; intro gb227 hg w4 hbox hb; have n0_ := Aside0.mk (Kd.R_below (by (with_reducible repeat (first | apply Kd.R_alloc | apply Kd.R_drewN | apply Kd.R_drew)); exact HO0_1.out) hb); have n1_ := u1 BK226 hb; have n2_ := Aside0.mk (Kept.below (S := (fun k_ => P0_1_ k_)) (by repeat (first | (with_reducible first | exact HK.out | apply Kept.alloc | apply Kept.drewN | apply Kept.drew | refine Kept.setCell ?_ (.inr GW226.out) _) | exact HK.out)) hb); have n3_ := u2 HB hb; have n4_ := Aside0.mk hbox; have n5_ := Aside0.mk ((by rw [hg]; exact (by first | exact HK.out.1 | exact (show Kept w _ (fun k_ => P0_1_ k_) from by repeat (first | (with_reducible first | exact HK.out | apply Kept.alloc | apply Kept.drewN | apply Kept.drew | refine Kept.setCell ?_ (.inr GW226.out) _) | exact HK.out)).1) : w.heap.size ≤ gb227)); have n6_ := Aside0.mk ((by rw [hg]; exact (below_size (bw HB.out)) : w0.heap.size ≤ gb227)); have n7_ := u4 hg BK226; have n8_ := u5 hg BK226; clear HO0_1; clear BK226; clear HK; clear HB; have HO0_1 := n0_; have BK226 := n1_; have HK := n2_; have HB := n3_; have BK227 := n4_; have GW227 := n5_; have GE227 := n6_; have NB226_227 := n7_; have NB227_226 := n8_; clear n0_ n1_ n2_ n3_ n4_ n5_ n6_ n7_ n8_; clear hb hbox hg; have hnb5 := NB226_227.out; have hnc5 := NB227_226.out; obtain ⟨_, _, _, _⟩ := p2 BK226; obtain ⟨_, _, _, _⟩ := p2 BK227))
 refine bodyPost_ret (results_cell_row rfl _ _ gb227 71 #[.int .i64 (wrap64 (-a0_0)), .slice Ao2 l0_1.length co2] (0, 0) _ rfl (by (with_reducible repeat (first | refine blk_drewN ?_ _ | refine blk_drew ?_ | refine blk_alloc ?_ _)); refine blk_put (cs := #[.int .i64 (wrap64 (-a0_0)), .slice none 0 0]) ?_ 1 _ rfl; refine blk_put (cs := #[.int .i64 0, .slice none 0 0]) ?_ 0 _ rfl; (with_reducible repeat (first | refine blk_drewN ?_ _ | refine blk_drew ?_ | refine blk_alloc ?_ _)); exact BK227.out) Try.underlying71 rfl (by kernel_rfl)) rfl ?_
 exact ⟨_, by first | rfl | (simp [*, errW_none, errW_some] <;> rfl), by (with_reducible repeat (first | apply Kd.R_alloc | apply Kd.R_drewN | apply Kd.R_drew)); exact Kd.R_mono (Kd.R_far (p := ⟨gb227, 1, none⟩) (Kd.R_far (p := ⟨gb227, 0, none⟩) (Kd.R_types HO0_1.out BK227.out (by decide)) (fun _ hk => hk.2) (.int .i64 (wrap64 (-a0_0)))) (fun _ hk => hk.2) (.slice Ao2 l0_1.length co2)) (fun _ hk => hk.1), by repeat (first | (with_reducible first | exact HB.out | apply below_alloc | apply pw_below_drewN | apply below_drew1 | refine below_set ?_ GE226.out | refine below_set ?_ GE227.out) | exact HB.out), by repeat (first | (with_reducible first | exact HK.out | apply Kept.alloc | apply Kept.drewN | apply Kept.drew | refine Kept.setCell ?_ (.inr GW226.out) _ | refine Kept.setCell ?_ (.inr GW227.out) _) | exact HK.out)⟩
end Go.Proofs.Ytfangodjmppooaa.F
end
section
namespace Go.Proofs.Ytfangodjmppooaa.F
open RowKit YtfangodjmppooaaW.PrintWords YtfangodjmppooaaW.PrintLast YtfangodjmppooaaW.PrintMore
set_option linter.unusedVariables false
set_option linter.unusedSimpArgs false
def zelligeref04_Sub.f (k : Nat) (a0_0 : Int) (l0_1 : List Int) (a1_0 : Int) (l1_1 : List Int) : Option (Int × List Int) := (zelligeref04_Neg.f a1_0 l1_1).bind fun bt231 => ((zelligeref04_Add.f k a0_0 l0_1 bt231.1 bt231.2).bind fun bt235 => (some (bt235.1, bt235.2)))
theorem zelligeref04_Sub.mono : ∀ a0 a1 a2 a3 k, LeO (zelligeref04_Sub.f k a0 a1 a2 a3) (zelligeref04_Sub.f (k + 1) a0 a1 a2 a3) := by
 intro a0 a1 a2 a3 k
 unfold zelligeref04_Sub.f
 repeat' first
   | (with_reducible exact zelligeref04_Add.mono _ _ _ _ _)
   | (with_reducible exact LeO.refl _)
   | (with_reducible exact LeO.none _)
   | (with_reducible refine LeO.ite ?_ ?_)
   | (with_reducible refine LeO.bind ?_ (fun _ => ?_))
   | exact zelligeref04_Add.mono _ _ _ _ _
   | exact LeO.none _
   | refine LeO.ite ?_ ?_
   | refine LeO.bind ?_ (fun _ => ?_)
set_option maxHeartbeats 8000000 in
set_option maxRecDepth 100000 in
theorem zelligeref04_Sub.calls (k : Nat) (a0_0 : Int) (P0_1_ : Nat → Prop) (u9000_ : Value) (l0_1 : List Int) (a1_0 : Int) (P1_1_ : Nat → Prop) (u9001_ : Value) (l1_1 : List Int) (r1 : Int) (r2 : List Int) (w0 w : World) (hB : Below w0.heap.size w0 w) (ho0_1 : Kd.R (Kd.int .i64) 3 w w0.heap.size P0_1_ u9000_ l0_1) (hp0_1_1_1 : ∀ k_, P0_1_ k_ → ¬ P1_1_ k_) (ho1_1 : Kd.R (Kd.int .i64) 3 w w0.heap.size P1_1_ u9001_ l1_1) (hp1_1_0_1 : ∀ k_, P1_1_ k_ → ¬ P0_1_ k_) (h : zelligeref04_Sub.f k a0_0 l0_1 a1_0 l1_1 = some (r1, r2)) :
  Calls Try.prog 41 #[.agg #[.int .i64 a0_0, u9000_], .agg #[.int .i64 a1_0, u9001_]] w fun e w' => ∃ v1_ : Value, e = .returned (.agg #[.int .i64 r1, v1_]) ∧ Kd.R (Kd.int .i64) 3 w' w0.heap.size (fun k_ => ((P0_1_ k_ ∨ P1_1_ k_) ∨ w.heap.size ≤ k_)) v1_ r2 ∧ Below w0.heap.size w0 w' ∧ Kept w w' (fun k_ => P0_1_ k_ ∨ P1_1_ k_) := by
 have hu71 := Try.underlying71
 have HO0_1 := Aside0.mk (show Kd.R (Kd.int .i64) 3 w w0.heap.size (fun k_ => ((P0_1_ k_ ∨ P1_1_ k_) ∨ w.heap.size ≤ k_) ∧ some k_ ≠ (u9001_ : Value).ownBlock) u9000_ l0_1 from Kd.R_mono ho0_1 (fun k_ hk => ⟨(.inl (.inl hk)), fun e_ => hp0_1_1_1 k_ hk (ho1_1.1 k_ e_.symm)⟩))
 have HO1_1 := Aside0.mk (show Kd.R (Kd.int .i64) 3 w w0.heap.size (fun k_ => ((P0_1_ k_ ∨ P1_1_ k_) ∨ w.heap.size ≤ k_) ∧ some k_ ≠ (u9000_ : Value).ownBlock) u9001_ l1_1 from Kd.R_mono ho1_1 (fun k_ hk => ⟨(.inl (.inr hk)), fun e_ => hp1_1_0_1 k_ hk (ho0_1.1 k_ e_.symm)⟩))
 have HK := Aside0.mk (Kept.refl w (fun k_ => P0_1_ k_ ∨ P1_1_ k_))
 have HW0 := Aside0.mk hB.size
 have HB := Aside0.mk hB
 clear hB
 have H : ((zelligeref04_Neg.f a1_0 l1_1).bind fun bt231 => ((zelligeref04_Add.f k a0_0 l0_1 bt231.1 bt231.2).bind fun bt235 => (some (bt235.1, bt235.2)))) = some (r1, r2) := h
 clear h
 replace H := Option.bind_eq_some_iff.mp H
 obtain ⟨⟨t231, t232⟩, A30, H⟩ := H
 try dsimp only at H
 have A3 := Aside0.mk A30
 clear A30
 replace H := Option.bind_eq_some_iff.mp H
 obtain ⟨⟨t235, t236⟩, A40, H⟩ := H
 try dsimp only at H
 have A4 := Aside0.mk A40
 clear A40
 simp only [Option.some.injEq, Prod.mk.injEq] at H
 obtain ⟨rfl, rfl⟩ := H
 obtain ⟨Ao5, co5, eo5⟩ := Kd.R_slice HO0_1.out
 subst eo5
 go_enter Try.func41, Try.ntmps41
 try go_wp2_with (first | ((with_reducible refine gate_dst (N := 2) rfl ?_); refine bx 2 #[.int .i64 a0_0, .slice Ao5 l0_1.length co5] 71 ?_; intro gb228 hg w6 hbox hb; have n0_ := Aside0.mk (Kd.R_below (by (with_reducible repeat (first | apply Kd.R_alloc | apply Kd.R_drewN | apply Kd.R_drew)); exact HO0_1.out) hb); have n1_ := Aside0.mk (Kd.R_below (by (with_reducible repeat (first | apply Kd.R_alloc | apply Kd.R_drewN | apply Kd.R_drew)); exact HO1_1.out) hb); have n2_ := Aside0.mk (Kept.below (S := (fun k_ => P0_1_ k_ ∨ P1_1_ k_)) (by repeat (first | (with_reducible first | exact HK.out | apply Kept.alloc | apply Kept.drewN | apply Kept.drew) | exact HK.out)) hb); have n3_ := u2 HB hb; have n4_ := Aside0.mk hbox; have n5_ := Aside0.mk ((by rw [hg]; exact (by first | exact HK.out.1 | exact (show Kept w _ (fun k_ => P0_1_ k_ ∨ P1_1_ k_) from by repeat (first | (with_reducible first | exact HK.out | apply Kept.alloc | apply Kept.drewN | apply Kept.drew) | exact HK.out)).1) : w.heap.size ≤ gb228)); have n6_ := Aside0.mk ((by rw [hg]; exact (below_size (bw HB.out)) : w0.heap.size ≤ gb228)); clear HO0_1; clear HO1_1; clear HK; clear HB; have HO0_1 := n0_; have HO1_1 := n1_; have HK := n2_; have HB := n3_; have BK228 := n4_; have GW228 := n5_; have GE228 := n6_; clear n0_ n1_ n2_ n3_ n4_ n5_ n6_; clear hb hbox hg; obtain ⟨Ao7, co7, eo7⟩ := Kd.R_slice HO1_1.out; subst eo7) | ((with_reducible refine gate_dst (N := 3) rfl ?_); refine bx 3 #[.int .i64 a1_0, .slice Ao7 l1_1.length co7] 71 ?_; intro gb229 hg w8 hbox hb; have n0_ := Aside0.mk (Kd.R_below (by (with_reducible repeat (first | apply Kd.R_alloc | apply Kd.R_drewN | apply Kd.R_drew)); exact HO0_1.out) hb); have n1_ := Aside0.mk (Kd.R_below (by (with_reducible repeat (first | apply Kd.R_alloc | apply Kd.R_drewN | apply Kd.R_drew)); exact HO1_1.out) hb); have n2_ := u1 BK228 hb; have n3_ := Aside0.mk (Kept.below (S := (fun k_ => P0_1_ k_ ∨ P1_1_ k_)) (by repeat (first | (with_reducible first | exact HK.out | apply Kept.alloc | apply Kept.drewN | apply Kept.drew | refine Kept.setCell ?_ (.inr GW228.out) _) | exact HK.out)) hb); have n4_ := u2 HB hb; have n5_ := Aside0.mk hbox; have n6_ := Aside0.mk ((by rw [hg]; exact (by first | exact HK.out.1 | exact (show Kept w _ (fun k_ => P0_1_ k_ ∨ P1_1_ k_) from by repeat (first | (with_reducible first | exact HK.out | apply Kept.alloc | apply Kept.drewN | apply Kept.drew | refine Kept.setCell ?_ (.inr GW228.out) _) | exact HK.out)).1) : w.heap.size ≤ gb229)); have n7_ := Aside0.mk ((by rw [hg]; exact (below_size (bw HB.out)) : w0.heap.size ≤ gb229)); have n8_ := u4 hg BK228; have n9_ := u5 hg BK228; clear HO0_1; clear HO1_1; clear BK228; clear HK; clear HB; have HO0_1 := n0_; have HO1_1 := n1_; have BK228 := n2_; have HK := n3_; have HB := n4_; have BK229 := n5_; have GW229 := n6_; have GE229 := n7_; have NB228_229 := n8_; have NB229_228 := n9_; clear n0_ n1_ n2_ n3_ n4_ n5_ n6_ n7_ n8_ n9_; clear hb hbox hg) | ((with_reducible refine gate_dst (N := 4) rfl ?_); refine bx 4 #[.int .i64 0, .slice none 0 0] 71 ?_; intro gb230 hg w9 hbox hb; have n0_ := Aside0.mk (Kd.R_below (by (with_reducible repeat (first | apply Kd.R_alloc | apply Kd.R_drewN | apply Kd.R_drew)); exact HO0_1.out) hb); have n1_ := Aside0.mk (Kd.R_below (by (with_reducible repeat (first | apply Kd.R_alloc | apply Kd.R_drewN | apply Kd.R_drew)); exact HO1_1.out) hb); have n2_ := u1 BK228 hb; have n3_ := u1 BK229 hb; have n4_ := Aside0.mk (Kept.below (S := (fun k_ => P0_1_ k_ ∨ P1_1_ k_)) (by repeat (first | (with_reducible first | exact HK.out | apply Kept.alloc | apply Kept.drewN | apply Kept.drew | refine Kept.setCell ?_ (.inr GW228.out) _ | refine Kept.setCell ?_ (.inr GW229.out) _) | exact HK.out)) hb); have n5_ := u2 HB hb; have n6_ := Aside0.mk hbox; have n7_ := Aside0.mk ((by rw [hg]; exact (by first | exact HK.out.1 | exact (show Kept w _ (fun k_ => P0_1_ k_ ∨ P1_1_ k_) from by repeat (first | (with_reducible first | exact HK.out | apply Kept.alloc | apply Kept.drewN | apply Kept.drew | refine Kept.setCell ?_ (.inr GW228.out) _ | refine Kept.setCell ?_ (.inr GW229.out) _) | exact HK.out)).1) : w.heap.size ≤ gb230)); have n8_ := Aside0.mk ((by rw [hg]; exact (below_size (bw HB.out)) : w0.heap.size ≤ gb230)); have n9_ := u4 hg BK228; have n10_ := u5 hg BK228; have n11_ := u4 hg BK229; have n12_ := u5 hg BK229; clear HO0_1; clear HO1_1; clear BK228; clear BK229; clear HK; clear HB; have HO0_1 := n0_; have HO1_1 := n1_; have BK228 := n2_; have BK229 := n3_; have HK := n4_; have HB := n5_; have BK230 := n6_; have GW230 := n7_; have GE230 := n8_; have NB228_230 := n9_; have NB230_228 := n10_; have NB229_230 := n11_; have NB230_229 := n12_; clear n0_ n1_ n2_ n3_ n4_ n5_ n6_ n7_ n8_ n9_ n10_ n11_ n12_; clear hb hbox hg))
 have n0_ := Aside0.mk (Kd.R_drew HO0_1.out)
 have n1_ := Aside0.mk (Kd.R_drew HO1_1.out)
 have n2_ := Aside0.mk (blk_drew BK228.out)
 have n3_ := Aside0.mk (blk_drew BK229.out)
 have n4_ := Aside0.mk (blk_drew BK230.out)
 have n5_ := Aside0.mk (Kept.drew HK.out)
 have n6_ := Aside0.mk (below_drew1 HB.out)
 clear HO0_1
 clear HO1_1
 clear BK228
 clear BK229
 clear BK230
 clear HK
 clear HB
 have HO0_1 := n0_
 have HO1_1 := n1_
 have BK228 := n2_
 have BK229 := n3_
 have BK230 := n4_
 have HK := n5_
 have HB := n6_
 clear n0_ n1_ n2_ n3_ n4_ n5_ n6_
 refine start_ (n := 5) (S := fun w' => w'.cell? ⟨gb228, 0, none⟩ = some (.int .i64 a0_0) ∧ w'.cell? ⟨gb228, 1, none⟩ = some (.slice Ao5 l0_1.length co5) ∧ w'.cell? ⟨gb229, 0, none⟩ = some (.int .i64 a1_0) ∧ w'.cell? ⟨gb229, 1, none⟩ = some (.slice Ao7 l1_1.length co7)) (ds := []) #[F_,F_,F_,F_,F_] (by kernel_rfl) rfl rfl ⟨(p2 BK228).1, (p2 BK228).2.1, (p2 BK229).1, (p2 BK229).2.1⟩ (fun hHeld => ?_)
 generalize w9.drew = w10 at HO0_1 HO1_1 BK228 BK229 BK230 HK HB hHeld ⊢
 refine take_ (i := 0) (N := some 5) (v := ?_) (a' := ?_) #[T_,F_,F_,F_,F_] rfl rfl (by kernel_rfl) (fun _ _ _ h => h) (Or.inl ⟨by rfl, ?_⟩) hHeld ?_ ?_
 rotate_left
 ·rintro w' ⟨s0, s1, s2, s3⟩
  go_simp
  with_reducible rfl
 rotate_left
 ·simp only [Act.put, s1, s2, s3, i64_w, i32_w]
  rfl
 refine take_ (i := 1) (N := some 6) (v := ?_) (a' := ?_) #[T_,T_,F_,F_,F_] rfl rfl (by kernel_rfl) (fun _ _ _ h => h) (Or.inl ⟨by rfl, ?_⟩) hHeld ?_ ?_
 rotate_left
 ·rintro w' ⟨s0, s1, s2, s3⟩
  go_simp
  with_reducible rfl
 rotate_left
 ·simp only [Act.put, s1, s2, s3, i64_w, i32_w]
  rfl
 refine one_ (i := 2) (N := some 7) #[T_,T_,T_,F_,F_] rfl rfl (by kernel_rfl) (by decide) (fun K hK => ?_)
 refine goes_ Try.func51 (by kernel_rfl) rfl #[.agg #[.int .i64 a1_0, .slice Ao7 l1_1.length co7]] (by rfl) rfl rfl (by (try simp only [List.map_toArray, List.map_cons, List.map_nil]); first | done | rfl | (simp only [List.length_drop, List.length_take]; rfl)) ?_
 with_reducible refine (zelligeref04_Neg.calls a1_0 (fun k_ => some k_ = (.slice Ao7 l1_1.length co7 : Value).ownBlock) (.slice Ao7 l1_1.length co7) l1_1 t231 t232 w0 _ ?side1 ?side2 A3.out).mono ?_
 (case side1 => repeat (first | (with_reducible first | exact HB.out | apply below_alloc | apply pw_below_drewN | apply below_drew1 | refine below_set ?_ GE228.out | refine below_set ?_ GE229.out | refine below_set ?_ GE230.out) | exact HB.out))
 (case side2 => exact Kd.R_tight rfl HO1_1.out)
 rintro e w11 ⟨v233, rfl, ho0, hb, hkp⟩
 refine ⟨_, rfl, ?_⟩
 have n0_ := Aside0.mk (Kd.R_mono (ok' := fun k_ => ((P0_1_ k_ ∨ P1_1_ k_) ∨ w.heap.size ≤ k_) ∧ some k_ ≠ (v233 : Value).ownBlock) (Kd.R_keptB (HO0_1.out) hkp (fun k_ hk_ hs_ => (hk_.2) hs_)) (fun k_ hk_ => ⟨hk_.1.1, fun e_ => Or.elim (ho0.1 k_ e_.symm) (fun hs_ => hk_.2.1 hs_) (fun hn_ => Nat.not_le.2 hk_.2.2 hn_)⟩))
 have n1_ := Aside0.mk (blk_kept (bk BK228.out) hkp (fun hs_ => (fun e_ => (Kd.R_ne HO1_1.out BK228.out (by decide)) e_) hs_))
 have n2_ := Aside0.mk (blk_kept (bk BK229.out) hkp (fun hs_ => (fun e_ => (Kd.R_ne HO1_1.out BK229.out (by decide)) e_) hs_))
 have n3_ := Aside0.mk (blk_kept (bk BK230.out) hkp (fun hs_ => (fun e_ => (Kd.R_ne HO1_1.out BK230.out (by decide)) e_) hs_))
 have n4_ := Aside0.mk (Kd.R_mono (ok' := fun k_ => ((P0_1_ k_ ∨ P1_1_ k_) ∨ w.heap.size ≤ k_) ∧ some k_ ≠ (.slice Ao5 l0_1.length co5 : Value).ownBlock) ho0 (fun k_ hk_ => ⟨Or.elim hk_ (fun hs_ => (HO1_1.out.1 k_ (hs_).symm).1) (fun hn_ => (.inr (Nat.le_trans (by first | exact HK.out.1 | exact (show Kept w _ (fun k_ => P0_1_ k_ ∨ P1_1_ k_) from by repeat (first | (with_reducible first | exact HK.out | apply Kept.alloc | apply Kept.drewN | apply Kept.drew | refine Kept.setCell ?_ (.inr GW228.out) _ | refine Kept.setCell ?_ (.inr GW229.out) _ | refine Kept.setCell ?_ (.inr GW230.out) _) | exact HK.out)).1) hn_))), Or.elim hk_ (fun hs_ => fun e_ => (((HO0_1.out).1 k_ e_.symm).2) hs_) (fun hn_ => (Kd.fresh' (Kd.R_lt (by (with_reducible repeat (first | apply Kd.R_alloc | apply Kd.R_drewN | apply Kd.R_drew)); exact HO0_1.out)) k_ hn_))⟩))
 have n5_ := Aside0.mk (Kept.then_ (S := (fun k_ => P0_1_ k_ ∨ P1_1_ k_)) (by repeat (first | (with_reducible first | exact HK.out | apply Kept.alloc | apply Kept.drewN | apply Kept.drew | refine Kept.setCell ?_ (.inr GW228.out) _ | refine Kept.setCell ?_ (.inr GW229.out) _ | refine Kept.setCell ?_ (.inr GW230.out) _) | exact HK.out)) hkp (fun k_ hs_ => (fun e_ => (HO1_1.out.1 k_ e_.symm).1) hs_))
 have n6_ := Aside0.mk (hb)
 clear HO0_1
 clear BK228
 clear BK229
 clear BK230
 clear HK
 clear HB
 clear HO1_1
 have HO0_1 := n0_
 have BK228 := n1_
 have BK229 := n2_
 have BK230 := n3_
 have HO234 := n4_
 have HK := n5_
 have HB := n6_
 clear n0_ n1_ n2_ n3_ n4_ n5_ n6_
 (try clear hb)
 (try clear hkp)
 (try clear ho0)
 obtain ⟨Ao12, co12, eo12⟩ := Kd.R_slice HO234.out
 (first | subst eo12 | (injection eo12 with f1_ f2_ f3_; have f4_ := f1_.symm; have f5_ := f3_.symm; clear f1_ f2_ f3_; subst f4_; subst f5_))
 refine hK.out _ _ ⟨(p2 BK228).1, (p2 BK228).2.1, (p2 BK229).1, (p2 BK229).2.1⟩ (fun hHeld => ?_)
 clear hK K
 refine norm_ (a' := ?_) ?_ ?_
 rotate_left
 ·show Act.put _ (some 7) _ = _
  simp only [Act.put, s1, s2, s3, i64_w, i32_w]
  rfl
 refine one_ (i := 3) (N := some 8) #[T_,T_,T_,T_,F_] rfl rfl (by kernel_rfl) (by decide) (fun K hK => ?_)
 refine goes_ Try.func50 (by kernel_rfl) rfl #[.agg #[.int .i64 a0_0, .slice Ao5 l0_1.length co5], .agg #[.int .i64 t231, .slice Ao12 t232.length co12]] (by rfl) rfl rfl (by (try simp only [List.map_toArray, List.map_cons, List.map_nil]); first | done | rfl | (simp only [List.length_drop, List.length_take]; rfl)) ?_
 with_reducible refine (zelligeref04_Add.calls k a0_0 (fun k_ => some k_ = (.slice Ao5 l0_1.length co5 : Value).ownBlock) (.slice Ao5 l0_1.length co5) l0_1 t231 (fun k_ => some k_ = (.slice Ao12 t232.length co12 : Value).ownBlock) (.slice Ao12 t232.length co12) t232 t235 t236 w0 _ ?side1 ?side2 ?side3 ?side4 ?side5 A4.out).mono ?_
 (case side1 => repeat (first | (with_reducible first | exact HB.out | apply below_alloc | apply pw_below_drewN | apply below_drew1 | refine below_set ?_ GE228.out | refine below_set ?_ GE229.out | refine below_set ?_ GE230.out) | exact HB.out))
 (case side2 => exact Kd.R_tight rfl HO0_1.out)
 (case side3 => exact fun k_ e_ => (HO0_1.out.1 k_ e_.symm).2)
 (case side4 => exact Kd.R_tight rfl HO234.out)
 (case side5 => exact fun k_ e_ => (HO234.out.1 k_ e_.symm).2)
 rintro e w13 ⟨v237, rfl, ho0, hb, hkp⟩
 refine ⟨_, rfl, ?_⟩
 have n0_ := Aside0.mk (blk_kept (bk BK228.out) hkp (fun hs_ => Or.elim hs_ (fun e_ => (fun e_ => (Kd.R_ne HO0_1.out BK228.out (by decide)) e_) e_) (fun e_ => (fun e_ => (Kd.R_ne HO234.out BK228.out (by decide)) e_) e_)))
 have n1_ := Aside0.mk (blk_kept (bk BK229.out) hkp (fun hs_ => Or.elim hs_ (fun e_ => (fun e_ => (Kd.R_ne HO0_1.out BK229.out (by decide)) e_) e_) (fun e_ => (fun e_ => (Kd.R_ne HO234.out BK229.out (by decide)) e_) e_)))
 have n2_ := Aside0.mk (blk_kept (bk BK230.out) hkp (fun hs_ => Or.elim hs_ (fun e_ => (fun e_ => (Kd.R_ne HO0_1.out BK230.out (by decide)) e_) e_) (fun e_ => (fun e_ => (Kd.R_ne HO234.out BK230.out (by decide)) e_) e_)))
 have n3_ := Aside0.mk (Kd.R_mono (ok' := fun k_ => ((P0_1_ k_ ∨ P1_1_ k_) ∨ w.heap.size ≤ k_)) ho0 (fun k_ hk_ => Or.elim hk_ (fun hs_ => Or.elim hs_ (fun hs_ => (HO0_1.out.1 k_ (hs_).symm).1) (fun hs_ => (HO234.out.1 k_ (hs_).symm).1)) (fun hn_ => (.inr (Nat.le_trans (by first | exact HK.out.1 | exact (show Kept w _ (fun k_ => P0_1_ k_ ∨ P1_1_ k_) from by repeat (first | (with_reducible first | exact HK.out | apply Kept.alloc | apply Kept.drewN | apply Kept.drew | refine Kept.setCell ?_ (.inr GW228.out) _ | refine Kept.setCell ?_ (.inr GW229.out) _ | refine Kept.setCell ?_ (.inr GW230.out) _) | exact HK.out)).1) hn_)))))
 have n4_ := Aside0.mk (Kept.then_ (S := (fun k_ => P0_1_ k_ ∨ P1_1_ k_)) (by repeat (first | (with_reducible first | exact HK.out | apply Kept.alloc | apply Kept.drewN | apply Kept.drew | refine Kept.setCell ?_ (.inr GW228.out) _ | refine Kept.setCell ?_ (.inr GW229.out) _ | refine Kept.setCell ?_ (.inr GW230.out) _) | exact HK.out)) hkp (fun k_ hs_ => Or.elim hs_ (fun e_ => (fun e_ => (HO0_1.out.1 k_ e_.symm).1) e_) (fun e_ => (fun e_ => (HO234.out.1 k_ e_.symm).1) e_)))
 have n5_ := Aside0.mk (hb)
 clear BK228
 clear BK229
 clear BK230
 clear HK
 clear HB
 clear HO0_1
 clear HO234
 have BK228 := n0_
 have BK229 := n1_
 have BK230 := n2_
 have HO238 := n3_
 have HK := n4_
 have HB := n5_
 clear n0_ n1_ n2_ n3_ n4_ n5_
 (try clear hb)
 (try clear hkp)
 (try clear ho0)
 obtain ⟨Ao15, co15, eo15⟩ := Kd.R_slice HO238.out
 (first | subst eo15 | (injection eo15 with f1_ f2_ f3_; have f4_ := f1_.symm; have f5_ := f3_.symm; clear f1_ f2_ f3_; subst f4_; subst f5_))
 refine hK.out _ _ ⟨(p2 BK228).1, (p2 BK228).2.1, (p2 BK229).1, (p2 BK229).2.1⟩ (fun hHeld => ?_)
 clear hK K
 refine norm_ (a' := ?_) ?_ ?_
 rotate_left
 ·show Act.put _ (some 8) _ = _
  simp only [Act.put, s1, s2, s3, i64_w, i32_w]
  rfl
 refine one_ (i := 4) (N := none) #[T_,T_,T_,T_,T_] rfl rfl (by kernel_rfl) (by decide) (fun K hK => ?_)
 have hs14 : w13.cell? ⟨gb230, 0, none⟩ = some (.int .i64 0) := (blk_cell BK230.out 0).trans rfl
 have hfs14 := blk_frozen BK230.out 0
 have hns14_0 := NB228_230.out
 have hns14_1 := NB229_230.out
 have hms14_0 := NB230_228.out
 have hms14_1 := NB230_229.out
 have hs16 : w13.cell? ⟨gb230, 1, none⟩ = some (.slice none 0 0) := (blk_cell BK230.out 1).trans rfl
 have hfs16 := blk_frozen BK230.out 1
 have hns16_0 := NB228_230.out
 have hns16_1 := NB229_230.out
 have hms16_0 := NB230_228.out
 have hms16_1 := NB230_229.out
 refine skip_ (w1 := ?_) (by rfl) rfl ?_ ?_
 rotate_left
 ·go_simp
  rfl
 refine hK.out _ _ ⟨((cell_far (p := ⟨gb230, _, none⟩) NB228_230.out _).trans (((cell_far (p := ⟨gb230, _, none⟩) NB228_230.out _).trans (hHeld.1)))), ((cell_far (p := ⟨gb230, _, none⟩) NB228_230.out _).trans (((cell_far (p := ⟨gb230, _, none⟩) NB228_230.out _).trans (hHeld.2.1)))), ((cell_far (p := ⟨gb230, _, none⟩) NB229_230.out _).trans (((cell_far (p := ⟨gb230, _, none⟩) NB229_230.out _).trans (hHeld.2.2.1)))), ((cell_far (p := ⟨gb230, _, none⟩) NB229_230.out _).trans (((cell_far (p := ⟨gb230, _, none⟩) NB229_230.out _).trans (hHeld.2.2.2))))⟩ (fun hHeld => ?_)
 clear hK K
 refine done_ (by kernel_rfl) ?_
 try go_wp2
 refine bodyPost_ret (results_cell_row rfl _ _ gb230 71 #[.int .i64 t235, .slice Ao15 t236.length co15] (0, 0) _ rfl (by (with_reducible repeat (first | refine blk_drewN ?_ _ | refine blk_drew ?_ | refine blk_alloc ?_ _)); refine blk_put (cs := #[.int .i64 t235, .slice none 0 0]) ?_ 1 _ rfl; refine blk_put (cs := #[.int .i64 0, .slice none 0 0]) ?_ 0 _ rfl; (with_reducible repeat (first | refine blk_drewN ?_ _ | refine blk_drew ?_ | refine blk_alloc ?_ _)); exact BK230.out) Try.underlying71 rfl (by kernel_rfl)) rfl ?_
 exact ⟨_, by first | rfl | (simp [*, errW_none, errW_some] <;> rfl), by (with_reducible repeat (first | apply Kd.R_alloc | apply Kd.R_drewN | apply Kd.R_drew)); exact Kd.R_mono (Kd.R_far (p := ⟨gb230, 1, none⟩) (Kd.R_far (p := ⟨gb230, 0, none⟩) (Kd.R_types HO238.out BK230.out (by decide)) (fun _ hk => hk.2) (.int .i64 t235)) (fun _ hk => hk.2) (.slice Ao15 t236.length co15)) (fun _ hk => hk.1), by repeat (first | (with_reducible first | exact HB.out | apply below_alloc | apply pw_below_drewN | apply below_drew1 | refine below_set ?_ GE228.out | refine below_set ?_ GE229.out | refine below_set ?_ GE230.out) | exact HB.out), by repeat (first | (with_reducible first | exact HK.out | apply Kept.alloc | apply Kept.drewN | apply Kept.drew | refine Kept.setCell ?_ (.inr GW228.out) _ | refine Kept.setCell ?_ (.inr GW229.out) _ | refine Kept.setCell ?_ (.inr GW230.out) _) | exact HK.out)⟩
end Go.Proofs.Ytfangodjmppooaa.F
end
section
namespace Go.Proofs.Ytfangodjmppooaa.F
open RowKit YtfangodjmppooaaW.PrintWords YtfangodjmppooaaW.PrintLast YtfangodjmppooaaW.PrintMore
set_option linter.unusedVariables false
set_option linter.unusedSimpArgs false
def zelligeref04_Floor.j0 : Nat → Bool → Int → List Int → Int → List Int → Int → List Int → Option (Int × List Int × Int × List Int)
 | 0, _, _, _, _, _, _, _ => none
 | k + 1, x34, x302000, x302001, x303000, x303001, x316000, x316001 => if x34 = true then ((zelligeref04_Long.f k 1).bind fun bt316 => ((zelligeref04_Sub.f k x316000 x316001 bt316.1 bt316.2).bind fun bt320 => ((zelligeref04_Mul.f k bt320.1 bt320.2 x303000 x303001).bind fun bt324 => ((zelligeref04_Sub.f k x302000 x302001 bt324.1 bt324.2).bind fun bt328 => (some (bt320.1, bt320.2, bt328.1, bt328.2)))))) else ((zelligeref04_Mul.f k x316000 x316001 x303000 x303001).bind fun bt332 => ((zelligeref04_Sub.f k x302000 x302001 bt332.1 bt332.2).bind fun bt336 => (some (x316000, x316001, bt336.1, bt336.2))))
def zelligeref04_Floor.f (k : Nat) (a0_0 : Int) (l0_1 : List Int) (a1_0 : Int) (l1_1 : List Int) : Option (Int × List Int × Int × List Int) := (zelligeref03_DivMod.f k l0_1 l1_1).bind fun bt305 => ((zelligeref04_make1.f (wrap64 (a0_0 * a1_0)) bt305.1).bind fun bt311 => (if (wrap64 (a0_0 * a1_0)) < 0 then (zelligeref04_Floor.j0 k (decide ((bt305.2.length : Int) > 0)) a0_0 l0_1 a1_0 l1_1 bt311.1 bt311.2) else (zelligeref04_Floor.j0 k false a0_0 l0_1 a1_0 l1_1 bt311.1 bt311.2)))
theorem zelligeref04_Floor.mono_l : ∀ k, (∀ y0 y1 y2 y3 y4 y5 y6, LeO (zelligeref04_Floor.j0 k y0 y1 y2 y3 y4 y5 y6) (zelligeref04_Floor.j0 (k + 1) y0 y1 y2 y3 y4 y5 y6))
 | 0 => fun _ _ _ _ _ _ _ r h => by simp [zelligeref04_Floor.j0] at h
 | k + 1 => by
  have ih0 := zelligeref04_Floor.mono_l k
  ·intro y0 y1 y2 y3 y4 y5 y6
   unfold zelligeref04_Floor.j0
   repeat' first
   | (with_reducible exact ih0 _ _ _ _ _ _ _)
   | (with_reducible exact zelligeref03_DivMod.mono _ _ _)
   | (with_reducible exact zelligeref04_Long.mono _ _)
   | (with_reducible exact zelligeref04_Mul.mono _ _ _ _ _)
   | (with_reducible exact zelligeref04_Sub.mono _ _ _ _ _)
   | (with_reducible exact LeO.refl _)
   | (with_reducible exact LeO.none _)
   | (with_reducible refine LeO.ite ?_ ?_)
   | (with_reducible refine LeO.bind ?_ (fun _ => ?_))
   | exact ih0 _ _ _ _ _ _ _
   | exact zelligeref03_DivMod.mono _ _ _
   | exact zelligeref04_Long.mono _ _
   | exact zelligeref04_Mul.mono _ _ _ _ _
   | exact zelligeref04_Sub.mono _ _ _ _ _
   | exact LeO.none _
   | refine LeO.ite ?_ ?_
   | refine LeO.bind ?_ (fun _ => ?_)
theorem zelligeref04_Floor.mono : ∀ a0 a1 a2 a3 k, LeO (zelligeref04_Floor.f k a0 a1 a2 a3) (zelligeref04_Floor.f (k + 1) a0 a1 a2 a3) := by
 intro a0 a1 a2 a3 k
 have ih0 := zelligeref04_Floor.mono_l k
 unfold zelligeref04_Floor.f
 repeat' first
   | (with_reducible exact ih0 _ _ _ _ _ _ _)
   | (with_reducible exact zelligeref03_DivMod.mono _ _ _)
   | (with_reducible exact zelligeref04_Long.mono _ _)
   | (with_reducible exact zelligeref04_Mul.mono _ _ _ _ _)
   | (with_reducible exact zelligeref04_Sub.mono _ _ _ _ _)
   | (with_reducible exact LeO.refl _)
   | (with_reducible exact LeO.none _)
   | (with_reducible refine LeO.ite ?_ ?_)
   | (with_reducible refine LeO.bind ?_ (fun _ => ?_))
   | exact ih0 _ _ _ _ _ _ _
   | exact zelligeref03_DivMod.mono _ _ _
   | exact zelligeref04_Long.mono _ _
   | exact zelligeref04_Mul.mono _ _ _ _ _
   | exact zelligeref04_Sub.mono _ _ _ _ _
   | exact LeO.none _
   | refine LeO.ite ?_ ?_
   | refine LeO.bind ?_ (fun _ => ?_)
def zelligeref04_Floor.T5 : Bool × List (List Nat × List Nat) := (true, [([], []), ([], []), ([], []), ([], []), ([2, 3], [2, 3]), ([1, 4, 4], [1, 4]), ([0, 5, 0], [0]), ([5, 6, 0, 1, 2, 3, 4, 5, 6], [5])])
def zelligeref04_Floor.B5 : List Nat := [0, 0, 0, 0, 12, 30, 63, 127]
theorem zelligeref04_Floor.tab5 : rtab .any (opsOf Try.f31 5) = zelligeref04_Floor.T5 := by kernel_rfl
theorem zelligeref04_Floor.bits5 : waitsOk zelligeref04_Floor.T5.2 zelligeref04_Floor.B5 = true := by kernel_rfl
set_option maxHeartbeats 8000000 in
set_option maxRecDepth 100000 in
theorem zelligeref04_Floor.calls (k : Nat) (a0_0 : Int) (P0_1_ : Nat → Prop) (u9000_ : Value) (l0_1 : List Int) (a1_0 : Int) (A1_1 : Option Addr) (c1_1 : Nat) (l1_1 : List Int) (r1 : Int) (r2 : List Int) (r3 : Int) (r4 : List Int) (w0 w : World) (hB : Below w0.heap.size w0 w) (ho0_1 : Kd.R (Kd.int .i64) 3 w w0.heap.size P0_1_ u9000_ l0_1) (hr1_1 : ∀ W_, Kept w W_ (fun k_ => P0_1_ k_) → Kd.C (Kd.int .i64) W_ A1_1 l1_1.length l1_1) (hc1_1 : l1_1.length ≤ c1_1) (h : zelligeref04_Floor.f k a0_0 l0_1 a1_0 l1_1 = some (r1, r2, r3, r4)) :
  Calls Try.prog 31 #[.agg #[.int .i64 a0_0, u9000_], .agg #[.int .i64 a1_0, .slice A1_1 l1_1.length c1_1]] w fun e w' => ∃ v1_ v3_ : Value, e = .returned (.tuple #[.agg #[.int .i64 r1, v1_], .agg #[.int .i64 r3, v3_]]) ∧ Kd.R (Kd.int .i64) 3 w' w0.heap.size (fun k_ => (P0_1_ k_ ∨ w.heap.size ≤ k_) ∧ some k_ ≠ (v3_ : Value).ownBlock) v1_ r2 ∧ Kd.R (Kd.int .i64) 3 w' w0.heap.size (fun k_ => (P0_1_ k_ ∨ w.heap.size ≤ k_) ∧ some k_ ≠ (v1_ : Value).ownBlock) v3_ r4 ∧ Below w0.heap.size w0 w' ∧ Kept w w' (fun k_ => P0_1_ k_) := by
 have hu71 := Try.underlying71
 have HO0_1 := Aside0.mk (show Kd.R (Kd.int .i64) 3 w w0.heap.size (fun k_ => (P0_1_ k_ ∨ w.heap.size ≤ k_)) u9000_ l0_1 from Kd.R_mono ho0_1 (fun k_ hk => (.inl hk)))
 have HR1_1 := Aside0.mk hr1_1
 have HC1_1 := Aside0.mk hc1_1
 clear hr1_1 hc1_1
 have HK := Aside0.mk (Kept.refl w (fun k_ => P0_1_ k_))
 have HW0 := Aside0.mk hB.size
 have HB := Aside0.mk hB
 clear hB
 have H : ((zelligeref03_DivMod.f k l0_1 l1_1).bind fun bt305 => ((zelligeref04_make1.f (wrap64 (a0_0 * a1_0)) bt305.1).bind fun bt311 => (if (wrap64 (a0_0 * a1_0)) < 0 then (zelligeref04_Floor.j0 k (decide ((bt305.2.length : Int) > 0)) a0_0 l0_1 a1_0 l1_1 bt311.1 bt311.2) else (zelligeref04_Floor.j0 k false a0_0 l0_1 a1_0 l1_1 bt311.1 bt311.2)))) = some (r1, r2, r3, r4) := h
 clear h
 replace H := Option.bind_eq_some_iff.mp H
 obtain ⟨⟨t305, t306⟩, A30, H⟩ := H
 try dsimp only at H
 have A3 := Aside0.mk A30
 clear A30
 replace H := Option.bind_eq_some_iff.mp H
 obtain ⟨⟨t311, t312⟩, A40, H⟩ := H
 try dsimp only at H
 have A4 := Aside0.mk A40
 clear A40
 have HC5 := Aside0.mk H
 clear H
 obtain ⟨Ao6, co6, eo6⟩ := Kd.R_slice HO0_1.out
 subst eo6
 go_enter Try.func31, Try.ntmps31
 go_upto_region 3 with (first | ((with_reducible refine gate_dst (N := 2) rfl ?_); (try (refine gate_guard (by rfl) ?_; dsimp only)); refine bx 2 #[.int .i64 a0_0, .slice Ao6 l0_1.length co6] 71 ?_; intro gb301 hg w7 hbox hb; have n0_ := Aside0.mk (Kd.R_below (by (with_reducible repeat (first | apply Kd.R_alloc | apply Kd.R_drewN | apply Kd.R_drew)); exact HO0_1.out) hb); have n1_ := Aside0.mk (Kept.below (S := (fun k_ => P0_1_ k_)) (by repeat (first | (with_reducible first | exact HK.out | apply Kept.alloc | apply Kept.drewN | apply Kept.drew) | exact HK.out)) hb); have n2_ := u2 HB hb; have n3_ := Aside0.mk hbox; have n4_ := Aside0.mk ((by rw [hg]; exact (by first | exact HK.out.1 | exact (show Kept w _ (fun k_ => P0_1_ k_) from by repeat (first | (with_reducible first | exact HK.out | apply Kept.alloc | apply Kept.drewN | apply Kept.drew) | exact HK.out)).1) : w.heap.size ≤ gb301)); have n5_ := Aside0.mk ((by rw [hg]; exact (below_size (bw HB.out)) : w0.heap.size ≤ gb301)); clear HO0_1; clear HK; clear HB; have HO0_1 := n0_; have HK := n1_; have HB := n2_; have BK301 := n3_; have GW301 := n4_; have GE301 := n5_; clear n0_ n1_ n2_ n3_ n4_ n5_; clear hb hbox hg) | ((with_reducible refine gate_dst (N := 3) rfl ?_); (try (refine gate_guard (by rfl) ?_; dsimp only)); refine bx 3 #[.int .i64 a1_0, .slice A1_1 l1_1.length c1_1] 71 ?_; intro gb302 hg w8 hbox hb; have n0_ := Aside0.mk (Kd.R_below (by (with_reducible repeat (first | apply Kd.R_alloc | apply Kd.R_drewN | apply Kd.R_drew)); exact HO0_1.out) hb); have n1_ := u1 BK301 hb; have n2_ := Aside0.mk (Kept.below (S := (fun k_ => P0_1_ k_)) (by repeat (first | (with_reducible first | exact HK.out | apply Kept.alloc | apply Kept.drewN | apply Kept.drew | refine Kept.setCell ?_ (.inr GW301.out) _) | exact HK.out)) hb); have n3_ := u2 HB hb; have n4_ := Aside0.mk hbox; have n5_ := Aside0.mk ((by rw [hg]; exact (by first | exact HK.out.1 | exact (show Kept w _ (fun k_ => P0_1_ k_) from by repeat (first | (with_reducible first | exact HK.out | apply Kept.alloc | apply Kept.drewN | apply Kept.drew | refine Kept.setCell ?_ (.inr GW301.out) _) | exact HK.out)).1) : w.heap.size ≤ gb302)); have n6_ := Aside0.mk ((by rw [hg]; exact (below_size (bw HB.out)) : w0.heap.size ≤ gb302)); have n7_ := u4 hg BK301; have n8_ := u5 hg BK301; clear HO0_1; clear BK301; clear HK; clear HB; have HO0_1 := n0_; have BK301 := n1_; have HK := n2_; have HB := n3_; have BK302 := n4_; have GW302 := n5_; have GE302 := n6_; have NB301_302 := n7_; have NB302_301 := n8_; clear n0_ n1_ n2_ n3_ n4_ n5_ n6_ n7_ n8_; clear hb hbox hg) | ((with_reducible refine gate_dst (N := 4) rfl ?_); (try (refine gate_guard (by rfl) ?_; dsimp only)); refine bx 4 #[.int .i64 0, .slice none 0 0] 71 ?_; intro gb303 hg w9 hbox hb; have n0_ := Aside0.mk (Kd.R_below (by (with_reducible repeat (first | apply Kd.R_alloc | apply Kd.R_drewN | apply Kd.R_drew)); exact HO0_1.out) hb); have n1_ := u1 BK301 hb; have n2_ := u1 BK302 hb; have n3_ := Aside0.mk (Kept.below (S := (fun k_ => P0_1_ k_)) (by repeat (first | (with_reducible first | exact HK.out | apply Kept.alloc | apply Kept.drewN | apply Kept.drew | refine Kept.setCell ?_ (.inr GW301.out) _ | refine Kept.setCell ?_ (.inr GW302.out) _) | exact HK.out)) hb); have n4_ := u2 HB hb; have n5_ := Aside0.mk hbox; have n6_ := Aside0.mk ((by rw [hg]; exact (by first | exact HK.out.1 | exact (show Kept w _ (fun k_ => P0_1_ k_) from by repeat (first | (with_reducible first | exact HK.out | apply Kept.alloc | apply Kept.drewN | apply Kept.drew | refine Kept.setCell ?_ (.inr GW301.out) _ | refine Kept.setCell ?_ (.inr GW302.out) _) | exact HK.out)).1) : w.heap.size ≤ gb303)); have n7_ := Aside0.mk ((by rw [hg]; exact (below_size (bw HB.out)) : w0.heap.size ≤ gb303)); have n8_ := u4 hg BK301; have n9_ := u5 hg BK301; have n10_ := u4 hg BK302; have n11_ := u5 hg BK302; clear HO0_1; clear BK301; clear BK302; clear HK; clear HB; have HO0_1 := n0_; have BK301 := n1_; have BK302 := n2_; have HK := n3_; have HB := n4_; have BK303 := n5_; have GW303 := n6_; have GE303 := n7_; have NB301_303 := n8_; have NB303_301 := n9_; have NB302_303 := n10_; have NB303_302 := n11_; clear n0_ n1_ n2_ n3_ n4_ n5_ n6_ n7_ n8_ n9_ n10_ n11_; clear hb hbox hg) | ((with_reducible refine gate_dst (N := 5) rfl ?_); (try (refine gate_guard (by rfl) ?_; dsimp only)); refine bx 5 #[.int .i64 0, .slice none 0 0] 71 ?_; intro gb304 hg w10 hbox hb; have n0_ := Aside0.mk (Kd.R_below (by (with_reducible repeat (first | apply Kd.R_alloc | apply Kd.R_drewN | apply Kd.R_drew)); exact HO0_1.out) hb); have n1_ := u1 BK301 hb; have n2_ := u1 BK302 hb; have n3_ := u1 BK303 hb; have n4_ := Aside0.mk (Kept.below (S := (fun k_ => P0_1_ k_)) (by repeat (first | (with_reducible first | exact HK.out | apply Kept.alloc | apply Kept.drewN | apply Kept.drew | refine Kept.setCell ?_ (.inr GW301.out) _ | refine Kept.setCell ?_ (.inr GW302.out) _ | refine Kept.setCell ?_ (.inr GW303.out) _) | exact HK.out)) hb); have n5_ := u2 HB hb; have n6_ := Aside0.mk hbox; have n7_ := Aside0.mk ((by rw [hg]; exact (by first | exact HK.out.1 | exact (show Kept w _ (fun k_ => P0_1_ k_) from by repeat (first | (with_reducible first | exact HK.out | apply Kept.alloc | apply Kept.drewN | apply Kept.drew | refine Kept.setCell ?_ (.inr GW301.out) _ | refine Kept.setCell ?_ (.inr GW302.out) _ | refine Kept.setCell ?_ (.inr GW303.out) _) | exact HK.out)).1) : w.heap.size ≤ gb304)); have n8_ := Aside0.mk ((by rw [hg]; exact (below_size (bw HB.out)) : w0.heap.size ≤ gb304)); have n9_ := u4 hg BK301; have n10_ := u5 hg BK301; have n11_ := u4 hg BK302; have n12_ := u5 hg BK302; have n13_ := u4 hg BK303; have n14_ := u5 hg BK303; clear HO0_1; clear BK301; clear BK302; clear BK303; clear HK; clear HB; have HO0_1 := n0_; have BK301 := n1_; have BK302 := n2_; have BK303 := n3_; have HK := n4_; have HB := n5_; have BK304 := n6_; have GW304 := n7_; have GE304 := n8_; have NB301_304 := n9_; have NB304_301 := n10_; have NB302_304 := n11_; have NB304_302 := n12_; have NB303_304 := n13_; have NB304_303 := n14_; clear n0_ n1_ n2_ n3_ n4_ n5_ n6_ n7_ n8_ n9_ n10_ n11_ n12_ n13_ n14_; clear hb hbox hg; have hnb11 := NB301_302.out; have hnc11 := NB302_301.out; have hnb12 := NB301_303.out; have hnc12 := NB303_301.out; have hnb13 := NB301_304.out; have hnc13 := NB304_301.out; obtain ⟨hcz14_0, hcz14_1, hfz14_0, hfz14_1⟩ := p2 BK301; have hnb15 := NB302_303.out; have hnc15 := NB303_302.out; have hnb16 := NB302_304.out; have hnc16 := NB304_302.out; obtain ⟨hcz17_0, hcz17_1, hfz17_0, hfz17_1⟩ := p2 BK302) | ((with_reducible refine gate_callee (f := 39) rfl ?_); refine gL (some 14) Try.func39 #[.slice Ao6 l0_1.length co6, .slice A1_1 l1_1.length c1_1] rfl ?_; (with_reducible refine (zelligeref03_DivMod.calls k _ _ l0_1 _ _ l1_1 t305 t306 _ ?side1 ?side2 ?side3 ?side4 A3.out).mono ?_); (case side1 => repeat (first | exact (Kd.R_reads' HO0_1.out).2.2 | (with_reducible refine Kd.C_alloc ?_ _) | (with_reducible refine Kd.C_drewN ?_ _) | (with_reducible refine Kd.C_drew ?_))); (case side2 => exact (Kd.R_reads' HO0_1.out).2.1); (case side3 => exact Kd.C_kept_now HR1_1.out (by repeat (first | (with_reducible first | exact HK.out | apply Kept.alloc | apply Kept.drewN | apply Kept.drew | refine Kept.setCell ?_ (.inr GW301.out) _ | refine Kept.setCell ?_ (.inr GW302.out) _ | refine Kept.setCell ?_ (.inr GW303.out) _ | refine Kept.setCell ?_ (.inr GW304.out) _) | exact HK.out))); (case side4 => exact HC1_1.out); rintro e w18 ⟨v307, v309, rfl, ho0, ho1, hb⟩; refine ⟨_, rfl, ?_⟩; have n0_ := Aside0.mk (Kd.R_mono (Kd.R_told (Kd.R_told (Kd.R_old (by (with_reducible repeat (first | apply Kd.R_alloc | apply Kd.R_drewN | apply Kd.R_drew)); exact HO0_1.out) hb) (Kd.R_base ho0)) (Kd.R_base ho1)) (fun _ h_ => h_.1)); have n1_ := Aside0.mk (Kd.R_lower (Kd.R_new' (Kd.R_newM (M := fun k_ => (P0_1_ k_ ∨ w.heap.size ≤ k_)) ho0 (by first | exact HK.out.1 | exact (show Kept w _ (fun k_ => P0_1_ k_) from by repeat (first | (with_reducible first | exact HK.out | apply Kept.alloc | apply Kept.drewN | apply Kept.drew | refine Kept.setCell ?_ (.inr GW301.out) _ | refine Kept.setCell ?_ (.inr GW302.out) _ | refine Kept.setCell ?_ (.inr GW303.out) _ | refine Kept.setCell ?_ (.inr GW304.out) _) | exact HK.out)).1) (fun k_ h_ => .inr h_)) (Kd.R_lt (by (with_reducible repeat (first | apply Kd.R_alloc | apply Kd.R_drewN | apply Kd.R_drew)); exact HO0_1.out))) (below_size (bw HB.out))); have n2_ := Aside0.mk (Kd.R_lower (Kd.R_new' (Kd.R_newM (M := fun k_ => (P0_1_ k_ ∨ w.heap.size ≤ k_)) ho1 (by first | exact HK.out.1 | exact (show Kept w _ (fun k_ => P0_1_ k_) from by repeat (first | (with_reducible first | exact HK.out | apply Kept.alloc | apply Kept.drewN | apply Kept.drew | refine Kept.setCell ?_ (.inr GW301.out) _ | refine Kept.setCell ?_ (.inr GW302.out) _ | refine Kept.setCell ?_ (.inr GW303.out) _ | refine Kept.setCell ?_ (.inr GW304.out) _) | exact HK.out)).1) (fun k_ h_ => .inr h_)) (Kd.R_lt (by (with_reducible repeat (first | apply Kd.R_alloc | apply Kd.R_drewN | apply Kd.R_drew)); exact HO0_1.out))) (below_size (bw HB.out))); have n3_ := u1 BK301 hb; have n4_ := u1 BK302 hb; have n5_ := u1 BK303 hb; have n6_ := u1 BK304 hb; have n7_ := Aside0.mk (Kept.below (S := (fun k_ => P0_1_ k_)) (by repeat (first | (with_reducible first | exact HK.out | apply Kept.alloc | apply Kept.drewN | apply Kept.drew | refine Kept.setCell ?_ (.inr GW301.out) _ | refine Kept.setCell ?_ (.inr GW302.out) _ | refine Kept.setCell ?_ (.inr GW303.out) _ | refine Kept.setCell ?_ (.inr GW304.out) _) | exact HK.out)) hb); have n8_ := u2 HB hb; clear HO0_1; clear BK301; clear BK302; clear BK303; clear BK304; clear HK; clear HB; have HO0_1 := n0_; have HO308 := n1_; have HO310 := n2_; have BK301 := n3_; have BK302 := n4_; have BK303 := n5_; have BK304 := n6_; have HK := n7_; have HB := n8_; clear n0_ n1_ n2_ n3_ n4_ n5_ n6_ n7_ n8_; (try clear hb); (try clear hb2); (try clear hk); (try clear hi); (try clear ho0); (try clear ho1); obtain ⟨hcz19_0, hcz19_1, hfz19_0, hfz19_1⟩ := p2 BK301; obtain ⟨hcz20_0, hcz20_1, hfz20_0, hfz20_1⟩ := p2 BK302; obtain ⟨Ao21, co21, eo21⟩ := Kd.R_slice HO308.out; subst eo21) | ((with_reducible refine gate_callee (f := 40) rfl ?_); refine gL (some 23) Try.func40 #[.int .i64 (wrap64 (a0_0 * a1_0)), .slice Ao21 t305.length co21] rfl ?_; (with_reducible refine (zelligeref04_make1.calls (wrap64 (a0_0 * a1_0)) (fun k_ => some k_ = (.slice Ao21 t305.length co21 : Value).ownBlock) (.slice Ao21 t305.length co21) t305 t311 t312 w0 _ ?side1 ?side2 A4.out).mono ?_); (case side1 => repeat (first | (with_reducible first | exact HB.out | apply below_alloc | apply pw_below_drewN | apply below_drew1 | refine below_set ?_ GE301.out | refine below_set ?_ GE302.out | refine below_set ?_ GE303.out | refine below_set ?_ GE304.out) | exact HB.out)); (case side2 => exact Kd.R_tight rfl HO308.out); rintro e w22 ⟨v313, rfl, ho0, hb, hkp⟩; refine ⟨_, rfl, ?_⟩; have n0_ := Aside0.mk (Kd.R_mono (ok' := fun k_ => (P0_1_ k_ ∨ w.heap.size ≤ k_) ∧ some k_ ≠ (v309 : Value).ownBlock ∧ some k_ ≠ (v313 : Value).ownBlock) (Kd.R_keptB (HO0_1.out) hkp (fun k_ hk_ hs_ => (hk_.1.2) hs_)) (fun k_ hk_ => ⟨hk_.1.1.1, hk_.1.2, fun e_ => Or.elim (ho0.1 k_ e_.symm) (fun hs_ => hk_.2.1 hs_) (fun hn_ => Nat.not_le.2 hk_.2.2 hn_)⟩)); have n1_ := Aside0.mk (blk_kept (bk BK301.out) hkp (fun hs_ => (fun e_ => (Kd.R_ne HO308.out BK301.out (by decide)) e_) hs_)); have n2_ := Aside0.mk (blk_kept (bk BK302.out) hkp (fun hs_ => (fun e_ => (Kd.R_ne HO308.out BK302.out (by decide)) e_) hs_)); have n3_ := Aside0.mk (blk_kept (bk BK303.out) hkp (fun hs_ => (fun e_ => (Kd.R_ne HO308.out BK303.out (by decide)) e_) hs_)); have n4_ := Aside0.mk (blk_kept (bk BK304.out) hkp (fun hs_ => (fun e_ => (Kd.R_ne HO308.out BK304.out (by decide)) e_) hs_)); have n5_ := Aside0.mk (Kd.R_mono (ok' := fun k_ => (P0_1_ k_ ∨ w.heap.size ≤ k_) ∧ some k_ ≠ (.slice Ao6 l0_1.length co6 : Value).ownBlock ∧ some k_ ≠ (v313 : Value).ownBlock) (Kd.R_keptB (HO310.out) hkp (fun k_ hk_ hs_ => (hk_.1.2) hs_)) (fun k_ hk_ => ⟨hk_.1.1.1, hk_.1.2, fun e_ => Or.elim (ho0.1 k_ e_.symm) (fun hs_ => hk_.2.1 hs_) (fun hn_ => Nat.not_le.2 hk_.2.2 hn_)⟩)); have n6_ := Aside0.mk (Kd.R_mono (ok' := fun k_ => (P0_1_ k_ ∨ w.heap.size ≤ k_) ∧ some k_ ≠ (.slice Ao6 l0_1.length co6 : Value).ownBlock ∧ some k_ ≠ (v309 : Value).ownBlock) ho0 (fun k_ hk_ => ⟨Or.elim hk_ (fun hs_ => (HO308.out.1 k_ (hs_).symm).1.1) (fun hn_ => (.inr (Nat.le_trans (by first | exact HK.out.1 | exact (show Kept w _ (fun k_ => P0_1_ k_) from by repeat (first | (with_reducible first | exact HK.out | apply Kept.alloc | apply Kept.drewN | apply Kept.drew | refine Kept.setCell ?_ (.inr GW301.out) _ | refine Kept.setCell ?_ (.inr GW302.out) _ | refine Kept.setCell ?_ (.inr GW303.out) _ | refine Kept.setCell ?_ (.inr GW304.out) _) | exact HK.out)).1) hn_))), Or.elim hk_ (fun hs_ => fun e_ => (((HO0_1.out).1 k_ e_.symm).1.2) hs_) (fun hn_ => (Kd.fresh' (Kd.R_lt (by (with_reducible repeat (first | apply Kd.R_alloc | apply Kd.R_drewN | apply Kd.R_drew)); exact HO0_1.out)) k_ hn_)), Or.elim hk_ (fun hs_ => fun e_ => (((HO310.out).1 k_ e_.symm).1.2) hs_) (fun hn_ => (Kd.fresh' (Kd.R_lt (by (with_reducible repeat (first | apply Kd.R_alloc | apply Kd.R_drewN | apply Kd.R_drew)); exact HO310.out)) k_ hn_))⟩)); have n7_ := Aside0.mk (Kept.then_ (S := (fun k_ => P0_1_ k_)) (by repeat (first | (with_reducible first | exact HK.out | apply Kept.alloc | apply Kept.drewN | apply Kept.drew | refine Kept.setCell ?_ (.inr GW301.out) _ | refine Kept.setCell ?_ (.inr GW302.out) _ | refine Kept.setCell ?_ (.inr GW303.out) _ | refine Kept.setCell ?_ (.inr GW304.out) _) | exact HK.out)) hkp (fun k_ hs_ => (fun e_ => (HO308.out.1 k_ e_.symm).1.1) hs_)); have n8_ := Aside0.mk (hb); clear HO0_1; clear BK301; clear BK302; clear BK303; clear BK304; clear HO310; clear HK; clear HB; clear HO308; have HO0_1 := n0_; have BK301 := n1_; have BK302 := n2_; have BK303 := n3_; have BK304 := n4_; have HO310 := n5_; have HO314 := n6_; have HK := n7_; have HB := n8_; clear n0_ n1_ n2_ n3_ n4_ n5_ n6_ n7_ n8_; (try clear hb); (try clear hkp); (try clear ho0)) | ((with_reducible refine gate_dst (N := 8) rfl ?_); (try (refine gate_guard (by rfl) ?_; dsimp only)); refine bx 8 #[.int .i64 0, .slice none 0 0] 71 ?_; intro gb315 hg w23 hbox hb; have n0_ := Aside0.mk (Kd.R_below (by (with_reducible repeat (first | apply Kd.R_alloc | apply Kd.R_drewN | apply Kd.R_drew)); exact HO0_1.out) hb); have n1_ := Aside0.mk (Kd.R_below (by (with_reducible repeat (first | apply Kd.R_alloc | apply Kd.R_drewN | apply Kd.R_drew)); exact HO310.out) hb); have n2_ := Aside0.mk (Kd.R_below (by (with_reducible repeat (first | apply Kd.R_alloc | apply Kd.R_drewN | apply Kd.R_drew)); exact HO314.out) hb); have n3_ := u1 BK301 hb; have n4_ := u1 BK302 hb; have n5_ := u1 BK303 hb; have n6_ := u1 BK304 hb; have n7_ := Aside0.mk (Kept.below (S := (fun k_ => P0_1_ k_)) (by repeat (first | (with_reducible first | exact HK.out | apply Kept.alloc | apply Kept.drewN | apply Kept.drew | refine Kept.setCell ?_ (.inr GW301.out) _ | refine Kept.setCell ?_ (.inr GW302.out) _ | refine Kept.setCell ?_ (.inr GW303.out) _ | refine Kept.setCell ?_ (.inr GW304.out) _) | exact HK.out)) hb); have n8_ := u2 HB hb; have n9_ := Aside0.mk hbox; have n10_ := Aside0.mk ((by rw [hg]; exact (by first | exact HK.out.1 | exact (show Kept w _ (fun k_ => P0_1_ k_) from by repeat (first | (with_reducible first | exact HK.out | apply Kept.alloc | apply Kept.drewN | apply Kept.drew | refine Kept.setCell ?_ (.inr GW301.out) _ | refine Kept.setCell ?_ (.inr GW302.out) _ | refine Kept.setCell ?_ (.inr GW303.out) _ | refine Kept.setCell ?_ (.inr GW304.out) _) | exact HK.out)).1) : w.heap.size ≤ gb315)); have n11_ := Aside0.mk ((by rw [hg]; exact (below_size (bw HB.out)) : w0.heap.size ≤ gb315)); have n12_ := u4 hg BK301; have n13_ := u5 hg BK301; have n14_ := u4 hg BK302; have n15_ := u5 hg BK302; have n16_ := u4 hg BK303; have n17_ := u5 hg BK303; have n18_ := u4 hg BK304; have n19_ := u5 hg BK304; clear HO0_1; clear HO310; clear HO314; clear BK301; clear BK302; clear BK303; clear BK304; clear HK; clear HB; have HO0_1 := n0_; have HO310 := n1_; have HO314 := n2_; have BK301 := n3_; have BK302 := n4_; have BK303 := n5_; have BK304 := n6_; have HK := n7_; have HB := n8_; have BK315 := n9_; have GW315 := n10_; have GE315 := n11_; have NB301_315 := n12_; have NB315_301 := n13_; have NB302_315 := n14_; have NB315_302 := n15_; have NB303_315 := n16_; have NB315_303 := n17_; have NB304_315 := n18_; have NB315_304 := n19_; clear n0_ n1_ n2_ n3_ n4_ n5_ n6_ n7_ n8_ n9_ n10_ n11_ n12_ n13_ n14_ n15_ n16_ n17_ n18_ n19_; clear hb hbox hg; have hnb24 := NB315_301.out; have hnc24 := NB301_315.out; have hnb25 := NB315_302.out; have hnc25 := NB302_315.out; have hnb26 := NB315_303.out; have hnc26 := NB303_315.out; have hnb27 := NB315_304.out; have hnc27 := NB304_315.out; obtain ⟨hcz28_0, hcz28_1, hfz28_0, hfz28_1⟩ := p2 BK315; obtain ⟨Ao29, co29, eo29⟩ := Kd.R_slice HO314.out; subst eo29))
 (try simp only [Act.put, List.setIfInBounds_toArray, List.set_cons_zero, List.set_cons_succ])
 go_cut [34] (fun v34 wc => ∃ (kq : Nat) (x34_4 : Bool), v34 = .bool x34_4 ∧ Aside0 (zelligeref04_Floor.j0 kq x34_4 a0_0 l0_1 a1_0 l1_1 t311 t312 = some (r1, r2, r3, r4)) ∧ Aside0 (kq ≤ k) ∧ Aside0 (Kd.R (Kd.int .i64) 3 wc w0.heap.size (fun k_ => (P0_1_ k_ ∨ w.heap.size ≤ k_) ∧ some k_ ≠ ((.slice Ao29 t312.length co29) : Value).ownBlock) (.slice Ao6 l0_1.length co6) l0_1) ∧ Aside0 (Kd.R (Kd.int .i64) 3 wc w0.heap.size (fun k_ => (P0_1_ k_ ∨ w.heap.size ≤ k_) ∧ some k_ ≠ ((.slice Ao6 l0_1.length co6) : Value).ownBlock) (.slice Ao29 t312.length co29) t312) ∧ Aside0 (wc.heap[gb301]? = some (.cells #[.int .i64 a0_0, (.slice Ao6 l0_1.length co6)] 71 (0, 0))) ∧ Aside0 (wc.heap[gb302]? = some (.cells #[.int .i64 a1_0, (.slice A1_1 l1_1.length c1_1)] 71 (0, 0))) ∧ Aside0 (wc.heap[gb303]? = some (.cells #[.int .i64 0, (.slice none 0 0)] 71 (0, 0))) ∧ Aside0 (wc.heap[gb304]? = some (.cells #[.int .i64 0, (.slice none 0 0)] 71 (0, 0))) ∧ Aside0 (wc.heap[gb315]? = some (.cells #[.int .i64 t311, (.slice Ao29 t312.length co29)] 71 (0, 0))) ∧ Aside0 (Kept w wc (fun k_ => P0_1_ k_)) ∧ Aside0 (Below w0.heap.size w0 wc))
 case first =>
  have H := HC5.out
  clear HC5
  by_cases c30 : (wrap64 (a0_0 * a1_0)) < 0
  ·rw [if_pos c30] at H
   have c30b0 : decide ((wrap64 (a0_0 * a1_0)) < 0) = true := decide_eq_true c30
   clear c30
   (first | rw [c30b0] | (simp only [i64_w, i32_w]; rw [c30b0]) | skip)
   have H' := Aside0.mk H
   clear H
   have hnb31 := NB301_302.out
   have hnc31 := NB302_301.out
   have hnb32 := NB301_303.out
   have hnc32 := NB303_301.out
   have hnb33 := NB301_304.out
   have hnc33 := NB304_301.out
   have hnb34 := NB301_315.out
   have hnc34 := NB315_301.out
   obtain ⟨hcz35_0, hcz35_1, hfz35_0, hfz35_1⟩ := p2 BK301
   have hnb36 := NB302_303.out
   have hnc36 := NB303_302.out
   have hnb37 := NB302_304.out
   have hnc37 := NB304_302.out
   have hnb38 := NB302_315.out
   have hnc38 := NB315_302.out
   obtain ⟨hcz39_0, hcz39_1, hfz39_0, hfz39_1⟩ := p2 BK302
   obtain ⟨Ao40, co40, eo40⟩ := Kd.R_slice HO310.out
   subst eo40
   go_wp2
   go_meet
   case rel => exact ⟨_, (decide ((t306.length : Int) > 0)), (by first | rfl | (simp; done) | (simp [*]; done)), H', ⟨by first | omega | exact Nat.le_refl _⟩, ⟨by (with_reducible repeat (first | apply Kd.R_alloc | apply Kd.R_drewN | apply Kd.R_drew)); exact Kd.R_mono (Kd.R_far (p := ⟨gb315, 1, none⟩) (Kd.R_far (p := ⟨gb315, 0, none⟩) (Kd.R_types HO0_1.out BK315.out (by decide)) (fun _ hk => hk.2) (.int .i64 t311)) (fun _ hk => hk.2) (.slice Ao29 t312.length co29)) (fun _ hk => ⟨hk.1.1, hk.1.2.2⟩)⟩, ⟨by (with_reducible repeat (first | apply Kd.R_alloc | apply Kd.R_drewN | apply Kd.R_drew)); exact Kd.R_mono (Kd.R_far (p := ⟨gb315, 1, none⟩) (Kd.R_far (p := ⟨gb315, 0, none⟩) (Kd.R_types HO314.out BK315.out (by decide)) (fun _ hk => hk.2) (.int .i64 t311)) (fun _ hk => hk.2) (.slice Ao29 t312.length co29)) (fun _ hk => ⟨hk.1.1, hk.1.2.1⟩)⟩, ⟨by (with_reducible repeat (first | refine blk_drewN ?_ _ | refine blk_drew ?_ | refine blk_alloc ?_ _)); refine blk_far ?_ NB301_315.out _; (with_reducible repeat (first | refine blk_drewN ?_ _ | refine blk_drew ?_ | refine blk_alloc ?_ _)); refine blk_far ?_ NB301_315.out _; (with_reducible repeat (first | refine blk_drewN ?_ _ | refine blk_drew ?_ | refine blk_alloc ?_ _)); exact BK301.out⟩, ⟨by (with_reducible repeat (first | refine blk_drewN ?_ _ | refine blk_drew ?_ | refine blk_alloc ?_ _)); refine blk_far ?_ NB302_315.out _; (with_reducible repeat (first | refine blk_drewN ?_ _ | refine blk_drew ?_ | refine blk_alloc ?_ _)); refine blk_far ?_ NB302_315.out _; (with_reducible repeat (first | refine blk_drewN ?_ _ | refine blk_drew ?_ | refine blk_alloc ?_ _)); exact BK302.out⟩, ⟨by (with_reducible repeat (first | refine blk_drewN ?_ _ | refine blk_drew ?_ | refine blk_alloc ?_ _)); refine blk_far ?_ NB303_315.out _; (with_reducible repeat (first | refine blk_drewN ?_ _ | refine blk_drew ?_ | refine blk_alloc ?_ _)); refine blk_far ?_ NB303_315.out _; (with_reducible repeat (first | refine blk_drewN ?_ _ | refine blk_drew ?_ | refine blk_alloc ?_ _)); exact BK303.out⟩, ⟨by (with_reducible repeat (first | refine blk_drewN ?_ _ | refine blk_drew ?_ | refine blk_alloc ?_ _)); refine blk_far ?_ NB304_315.out _; (with_reducible repeat (first | refine blk_drewN ?_ _ | refine blk_drew ?_ | refine blk_alloc ?_ _)); refine blk_far ?_ NB304_315.out _; (with_reducible repeat (first | refine blk_drewN ?_ _ | refine blk_drew ?_ | refine blk_alloc ?_ _)); exact BK304.out⟩, ⟨by (with_reducible repeat (first | refine blk_drewN ?_ _ | refine blk_drew ?_ | refine blk_alloc ?_ _)); refine blk_put (cs := #[.int .i64 t311, .slice none 0 0]) ?_ 1 _ rfl; (with_reducible repeat (first | refine blk_drewN ?_ _ | refine blk_drew ?_ | refine blk_alloc ?_ _)); refine blk_put (cs := #[.int .i64 0, .slice none 0 0]) ?_ 0 _ rfl; (with_reducible repeat (first | refine blk_drewN ?_ _ | refine blk_drew ?_ | refine blk_alloc ?_ _)); exact BK315.out⟩, ⟨by repeat (first | (with_reducible first | exact HK.out | apply Kept.alloc | apply Kept.drewN | apply Kept.drew | refine Kept.setCell ?_ (.inr GW301.out) _ | refine Kept.setCell ?_ (.inr GW302.out) _ | refine Kept.setCell ?_ (.inr GW303.out) _ | refine Kept.setCell ?_ (.inr GW304.out) _ | refine Kept.setCell ?_ (.inr GW315.out) _) | exact HK.out)⟩, ⟨by repeat (first | (with_reducible first | exact HB.out | apply below_alloc | apply pw_below_drewN | apply below_drew1 | refine below_set ?_ GE301.out | refine below_set ?_ GE302.out | refine below_set ?_ GE303.out | refine below_set ?_ GE304.out | refine below_set ?_ GE315.out) | exact HB.out)⟩⟩
  ·rw [if_neg c30] at H
   have c30b0 : decide ((wrap64 (a0_0 * a1_0)) < 0) = false := decide_eq_false c30
   clear c30
   (first | rw [c30b0] | (simp only [i64_w, i32_w]; rw [c30b0]) | skip)
   have H' := Aside0.mk H
   clear H
   have hnb41 := NB301_302.out
   have hnc41 := NB302_301.out
   have hnb42 := NB301_303.out
   have hnc42 := NB303_301.out
   have hnb43 := NB301_304.out
   have hnc43 := NB304_301.out
   have hnb44 := NB301_315.out
   have hnc44 := NB315_301.out
   obtain ⟨hcz45_0, hcz45_1, hfz45_0, hfz45_1⟩ := p2 BK301
   have hnb46 := NB302_303.out
   have hnc46 := NB303_302.out
   have hnb47 := NB302_304.out
   have hnc47 := NB304_302.out
   have hnb48 := NB302_315.out
   have hnc48 := NB315_302.out
   obtain ⟨hcz49_0, hcz49_1, hfz49_0, hfz49_1⟩ := p2 BK302
   go_wp2
   go_meet
   case rel => exact ⟨_, (false), (by first | rfl | (simp; done) | (simp [*]; done)), H', ⟨by first | omega | exact Nat.le_refl _⟩, ⟨by (with_reducible repeat (first | apply Kd.R_alloc | apply Kd.R_drewN | apply Kd.R_drew)); exact Kd.R_mono (Kd.R_far (p := ⟨gb315, 1, none⟩) (Kd.R_far (p := ⟨gb315, 0, none⟩) (Kd.R_types HO0_1.out BK315.out (by decide)) (fun _ hk => hk.2) (.int .i64 t311)) (fun _ hk => hk.2) (.slice Ao29 t312.length co29)) (fun _ hk => ⟨hk.1.1, hk.1.2.2⟩)⟩, ⟨by (with_reducible repeat (first | apply Kd.R_alloc | apply Kd.R_drewN | apply Kd.R_drew)); exact Kd.R_mono (Kd.R_far (p := ⟨gb315, 1, none⟩) (Kd.R_far (p := ⟨gb315, 0, none⟩) (Kd.R_types HO314.out BK315.out (by decide)) (fun _ hk => hk.2) (.int .i64 t311)) (fun _ hk => hk.2) (.slice Ao29 t312.length co29)) (fun _ hk => ⟨hk.1.1, hk.1.2.1⟩)⟩, ⟨by (with_reducible repeat (first | refine blk_drewN ?_ _ | refine blk_drew ?_ | refine blk_alloc ?_ _)); refine blk_far ?_ NB301_315.out _; (with_reducible repeat (first | refine blk_drewN ?_ _ | refine blk_drew ?_ | refine blk_alloc ?_ _)); refine blk_far ?_ NB301_315.out _; (with_reducible repeat (first | refine blk_drewN ?_ _ | refine blk_drew ?_ | refine blk_alloc ?_ _)); exact BK301.out⟩, ⟨by (with_reducible repeat (first | refine blk_drewN ?_ _ | refine blk_drew ?_ | refine blk_alloc ?_ _)); refine blk_far ?_ NB302_315.out _; (with_reducible repeat (first | refine blk_drewN ?_ _ | refine blk_drew ?_ | refine blk_alloc ?_ _)); refine blk_far ?_ NB302_315.out _; (with_reducible repeat (first | refine blk_drewN ?_ _ | refine blk_drew ?_ | refine blk_alloc ?_ _)); exact BK302.out⟩, ⟨by (with_reducible repeat (first | refine blk_drewN ?_ _ | refine blk_drew ?_ | refine blk_alloc ?_ _)); refine blk_far ?_ NB303_315.out _; (with_reducible repeat (first | refine blk_drewN ?_ _ | refine blk_drew ?_ | refine blk_alloc ?_ _)); refine blk_far ?_ NB303_315.out _; (with_reducible repeat (first | refine blk_drewN ?_ _ | refine blk_drew ?_ | refine blk_alloc ?_ _)); exact BK303.out⟩, ⟨by (with_reducible repeat (first | refine blk_drewN ?_ _ | refine blk_drew ?_ | refine blk_alloc ?_ _)); refine blk_far ?_ NB304_315.out _; (with_reducible repeat (first | refine blk_drewN ?_ _ | refine blk_drew ?_ | refine blk_alloc ?_ _)); refine blk_far ?_ NB304_315.out _; (with_reducible repeat (first | refine blk_drewN ?_ _ | refine blk_drew ?_ | refine blk_alloc ?_ _)); exact BK304.out⟩, ⟨by (with_reducible repeat (first | refine blk_drewN ?_ _ | refine blk_drew ?_ | refine blk_alloc ?_ _)); refine blk_put (cs := #[.int .i64 t311, .slice none 0 0]) ?_ 1 _ rfl; (with_reducible repeat (first | refine blk_drewN ?_ _ | refine blk_drew ?_ | refine blk_alloc ?_ _)); refine blk_put (cs := #[.int .i64 0, .slice none 0 0]) ?_ 0 _ rfl; (with_reducible repeat (first | refine blk_drewN ?_ _ | refine blk_drew ?_ | refine blk_alloc ?_ _)); exact BK315.out⟩, ⟨by repeat (first | (with_reducible first | exact HK.out | apply Kept.alloc | apply Kept.drewN | apply Kept.drew | refine Kept.setCell ?_ (.inr GW301.out) _ | refine Kept.setCell ?_ (.inr GW302.out) _ | refine Kept.setCell ?_ (.inr GW303.out) _ | refine Kept.setCell ?_ (.inr GW304.out) _ | refine Kept.setCell ?_ (.inr GW315.out) _) | exact HK.out)⟩, ⟨by repeat (first | (with_reducible first | exact HB.out | apply below_alloc | apply pw_below_drewN | apply below_drew1 | refine below_set ?_ GE301.out | refine below_set ?_ GE302.out | refine below_set ?_ GE303.out | refine below_set ?_ GE304.out | refine below_set ?_ GE315.out) | exact HB.out)⟩⟩
 case rest =>
  clear HC5
  try clear c1
  try clear c2
  try clear p2
  try clear c3
  try clear c4
  try clear p6
  try clear c11
  try clear c12
  try clear c13
  try clear c15
  try clear c16
  try clear c24
  try clear c25
  try clear c26
  try clear c27
  try clear c30
  try clear c30b0
  try clear c31
  try clear c32
  try clear c33
  try clear c34
  try clear c36
  try clear c37
  try clear c38
  try clear c39
  try clear c40
  try clear c41
  try clear c42
  try clear c43
  try clear c44
  try clear c46
  try clear c47
  try clear c48
  try clear hcz14_0
  try clear hcz14_1
  try clear hcz17_0
  try clear hcz17_1
  try clear hcz19_0
  try clear hcz19_1
  try clear hcz20_0
  try clear hcz20_1
  try clear hcz28_0
  try clear hcz28_1
  try clear hcz35_0
  try clear hcz35_1
  try clear hcz39_0
  try clear hcz39_1
  try clear hcz45_0
  try clear hcz45_1
  try clear hcz49_0
  try clear hcz49_1
  try clear hfz14_0
  try clear hfz14_1
  try clear hfz17_0
  try clear hfz17_1
  try clear hfz19_0
  try clear hfz19_1
  try clear hfz20_0
  try clear hfz20_1
  try clear hfz28_0
  try clear hfz28_1
  try clear hfz35_0
  try clear hfz35_1
  try clear hfz39_0
  try clear hfz39_1
  try clear hfz45_0
  try clear hfz45_1
  try clear hfz49_0
  try clear hfz49_1
  obtain ⟨kq, x34_4, rfl, HA, HJ4, HO_302001, HO_316001, BK301, BK302, BK303, BK304, BK315, HK, HB⟩ := hcut
  cases kq with
  | zero => exact absurd HA.out (by simp [zelligeref04_Floor.j0])
  | succ kj4 =>
   have H := HA.out
   clear HA
   simp only [zelligeref04_Floor.j0] at H
   by_cases c50 : x34_4 = true
   ·subst c50
    rw [if_pos rfl] at H
    replace H := Option.bind_eq_some_iff.mp H
    obtain ⟨⟨t316, t317⟩, A510, H⟩ := H
    try dsimp only at H
    have A51 := Aside0.mk A510
    clear A510
    replace H := Option.bind_eq_some_iff.mp H
    obtain ⟨⟨t320, t321⟩, A520, H⟩ := H
    try dsimp only at H
    have A52 := Aside0.mk A520
    clear A520
    replace H := Option.bind_eq_some_iff.mp H
    obtain ⟨⟨t324, t325⟩, A530, H⟩ := H
    try dsimp only at H
    have A53 := Aside0.mk A530
    clear A530
    replace H := Option.bind_eq_some_iff.mp H
    obtain ⟨⟨t328, t329⟩, A540, H⟩ := H
    try dsimp only at H
    have A54 := Aside0.mk A540
    clear A540
    simp only [Option.some.injEq, Prod.mk.injEq] at H
    obtain ⟨rfl, rfl, rfl, rfl⟩ := H
    try go_wp2
    have n0_ := Aside0.mk (Kd.R_drew HO_302001.out)
    have n1_ := Aside0.mk (Kd.R_drew HO_316001.out)
    have n2_ := Aside0.mk (blk_drew BK301.out)
    have n3_ := Aside0.mk (blk_drew BK302.out)
    have n4_ := Aside0.mk (blk_drew BK303.out)
    have n5_ := Aside0.mk (blk_drew BK304.out)
    have n6_ := Aside0.mk (blk_drew BK315.out)
    have n7_ := Aside0.mk (Kept.drew HK.out)
    have n8_ := Aside0.mk (below_drew1 HB.out)
    clear HO_302001
    clear HO_316001
    clear BK301
    clear BK302
    clear BK303
    clear BK304
    clear BK315
    clear HK
    clear HB
    have HO_302001 := n0_
    have HO_316001 := n1_
    have BK301 := n2_
    have BK302 := n3_
    have BK303 := n4_
    have BK304 := n5_
    have BK315 := n6_
    have HK := n7_
    have HB := n8_
    clear n0_ n1_ n2_ n3_ n4_ n5_ n6_ n7_ n8_
    refine start_ (n := 4) (S := fun w' => w'.cell? ⟨gb315, 0, none⟩ = some (.int .i64 t311) ∧ w'.cell? ⟨gb315, 1, none⟩ = some (.slice Ao29 t312.length co29)) (ds := [3]) #[F_,F_,F_,F_] (by kernel_rfl) rfl rfl ⟨(p2 BK315).1, (p2 BK315).2.1⟩ (fun hHeld => ?_)
    generalize wc.drew = w55 at HO_302001 HO_316001 BK301 BK302 BK303 BK304 BK315 HK HB hHeld ⊢
    refine take_ (i := 0) (N := some 35) (v := ?_) (a' := ?_) #[T_,F_,F_,F_] rfl rfl (by kernel_rfl) (fun _ _ _ h => h) (Or.inl ⟨by rfl, ?_⟩) hHeld ?_ ?_
    rotate_left
    ·rintro w' ⟨s0, s1⟩
     go_simp
     with_reducible rfl
    rotate_left
    ·simp only [Act.put, s1, s2, s3, i64_w, i32_w]
     rfl
    refine one_ (i := 1) (N := some 36) #[T_,T_,F_,F_] rfl rfl (by kernel_rfl) (by decide) (fun K hK => ?_)
    refine goes_ Try.func32 (by kernel_rfl) rfl #[.int .i64 1] (by rfl) rfl rfl (by (try simp only [List.map_toArray, List.map_cons, List.map_nil]); first | done | rfl | (simp only [List.length_drop, List.length_take]; rfl)) ?_
    with_reducible refine (zelligeref04_Long.calls kj4 1 t316 t317 _ A51.out).mono ?_
    rintro e w56 ⟨v318, rfl, ho0, hb⟩
    refine ⟨_, rfl, ?_⟩
    have n0_ := Aside0.mk (Kd.R_elder' (by (with_reducible repeat (first | apply Kd.R_alloc | apply Kd.R_drewN | apply Kd.R_drew)); exact HO_302001.out) (Kd.R_base ho0) hb)
    have n1_ := Aside0.mk (Kd.R_elder' (by (with_reducible repeat (first | apply Kd.R_alloc | apply Kd.R_drewN | apply Kd.R_drew)); exact HO_316001.out) (Kd.R_base ho0) hb)
    have n2_ := Aside0.mk (Kd.R_lower (Kd.R_new' (Kd.R_new' (Kd.R_newM (M := fun k_ => (P0_1_ k_ ∨ w.heap.size ≤ k_)) ho0 (by first | exact HK.out.1 | exact (show Kept w _ (fun k_ => P0_1_ k_) from by repeat (first | (with_reducible first | exact HK.out | apply Kept.alloc | apply Kept.drewN | apply Kept.drew | refine Kept.setCell ?_ (.inr GW301.out) _ | refine Kept.setCell ?_ (.inr GW302.out) _ | refine Kept.setCell ?_ (.inr GW303.out) _ | refine Kept.setCell ?_ (.inr GW304.out) _ | refine Kept.setCell ?_ (.inr GW315.out) _) | exact HK.out)).1) (fun k_ h_ => .inr h_)) (Kd.R_lt (by (with_reducible repeat (first | apply Kd.R_alloc | apply Kd.R_drewN | apply Kd.R_drew)); exact HO_302001.out))) (Kd.R_lt (by (with_reducible repeat (first | apply Kd.R_alloc | apply Kd.R_drewN | apply Kd.R_drew)); exact HO_316001.out))) (below_size (bw HB.out)))
    have n3_ := u1 BK301 hb
    have n4_ := u1 BK302 hb
    have n5_ := u1 BK303 hb
    have n6_ := u1 BK304 hb
    have n7_ := u1 BK315 hb
    have n8_ := Aside0.mk (Kept.below (S := (fun k_ => P0_1_ k_)) (by repeat (first | (with_reducible first | exact HK.out | apply Kept.alloc | apply Kept.drewN | apply Kept.drew | refine Kept.setCell ?_ (.inr GW301.out) _ | refine Kept.setCell ?_ (.inr GW302.out) _ | refine Kept.setCell ?_ (.inr GW303.out) _ | refine Kept.setCell ?_ (.inr GW304.out) _ | refine Kept.setCell ?_ (.inr GW315.out) _) | exact HK.out)) hb)
    have n9_ := Aside0.mk (below_step (bw HB.out) hb)
    clear HO_302001
    clear HO_316001
    clear BK301
    clear BK302
    clear BK303
    clear BK304
    clear BK315
    clear HK
    clear HB
    have HO_302001 := n0_
    have HO_316001 := n1_
    have HO319 := n2_
    have BK301 := n3_
    have BK302 := n4_
    have BK303 := n5_
    have BK304 := n6_
    have BK315 := n7_
    have HK := n8_
    have HB := n9_
    clear n0_ n1_ n2_ n3_ n4_ n5_ n6_ n7_ n8_ n9_
    (try clear hb)
    (try clear hb2)
    (try clear hk)
    (try clear hi)
    (try clear ho0)
    obtain ⟨Ao57, co57, eo57⟩ := Kd.R_slice HO319.out
    (first | subst eo57 | (injection eo57 with f1_ f2_ f3_; have f4_ := f1_.symm; have f5_ := f3_.symm; clear f1_ f2_ f3_; subst f4_; subst f5_))
    refine hK.out _ _ ⟨(p2 BK315).1, (p2 BK315).2.1⟩ (fun hHeld => ?_)
    clear hK K
    refine norm_ (a' := ?_) ?_ ?_
    rotate_left
    ·show Act.put _ (some 36) _ = _
     simp only [Act.put, s1, s2, s3, i64_w, i32_w]
     rfl
    refine one_ (i := 2) (N := some 37) #[T_,T_,T_,F_] rfl rfl (by kernel_rfl) (by decide) (fun K hK => ?_)
    refine goes_ Try.func41 (by kernel_rfl) rfl #[.agg #[.int .i64 t311, .slice Ao29 t312.length co29], .agg #[.int .i64 t316, .slice Ao57 t317.length co57]] (by rfl) rfl rfl (by (try simp only [List.map_toArray, List.map_cons, List.map_nil]); first | done | rfl | (simp only [List.length_drop, List.length_take]; rfl)) ?_
    with_reducible refine (zelligeref04_Sub.calls kj4 t311 (fun k_ => some k_ = (.slice Ao29 t312.length co29 : Value).ownBlock) (.slice Ao29 t312.length co29) t312 t316 (fun k_ => some k_ = (.slice Ao57 t317.length co57 : Value).ownBlock) (.slice Ao57 t317.length co57) t317 t320 t321 w0 _ ?side1 ?side2 ?side3 ?side4 ?side5 A52.out).mono ?_
    (case side1 => repeat (first | (with_reducible first | exact HB.out | apply below_alloc | apply pw_below_drewN | apply below_drew1 | refine below_set ?_ GE301.out | refine below_set ?_ GE302.out | refine below_set ?_ GE303.out | refine below_set ?_ GE304.out | refine below_set ?_ GE315.out) | exact HB.out))
    (case side2 => exact Kd.R_tight rfl HO_316001.out)
    (case side3 => exact fun k_ e_ => (HO_316001.out.1 k_ e_.symm).2)
    (case side4 => exact Kd.R_tight rfl HO319.out)
    (case side5 => exact fun k_ e_ => (HO319.out.1 k_ e_.symm).2)
    rintro e w58 ⟨v322, rfl, ho0, hb, hkp⟩
    refine ⟨_, rfl, ?_⟩
    have n0_ := Aside0.mk (Kd.R_mono (ok' := fun k_ => (P0_1_ k_ ∨ w.heap.size ≤ k_) ∧ some k_ ≠ (v322 : Value).ownBlock) (Kd.R_keptB (HO_302001.out) hkp (fun k_ hk_ hs_ => Or.elim hs_ (fun e_ => (hk_.1.2) e_) (fun e_ => (hk_.2) e_))) (fun k_ hk_ => ⟨hk_.1.1.1, fun e_ => Or.elim (ho0.1 k_ e_.symm) (fun hs_ => hk_.2.1 hs_) (fun hn_ => Nat.not_le.2 hk_.2.2 hn_)⟩))
    have n1_ := Aside0.mk (blk_kept (bk BK301.out) hkp (fun hs_ => Or.elim hs_ (fun e_ => (fun e_ => (Kd.R_ne HO_316001.out BK301.out (by decide)) e_) e_) (fun e_ => (fun e_ => (Kd.R_ne HO319.out BK301.out (by decide)) e_) e_)))
    have n2_ := Aside0.mk (blk_kept (bk BK302.out) hkp (fun hs_ => Or.elim hs_ (fun e_ => (fun e_ => (Kd.R_ne HO_316001.out BK302.out (by decide)) e_) e_) (fun e_ => (fun e_ => (Kd.R_ne HO319.out BK302.out (by decide)) e_) e_)))
    have n3_ := Aside0.mk (blk_kept (bk BK303.out) hkp (fun hs_ => Or.elim hs_ (fun e_ => (fun e_ => (Kd.R_ne HO_316001.out BK303.out (by decide)) e_) e_) (fun e_ => (fun e_ => (Kd.R_ne HO319.out BK303.out (by decide)) e_) e_)))
    have n4_ := Aside0.mk (blk_kept (bk BK304.out) hkp (fun hs_ => Or.elim hs_ (fun e_ => (fun e_ => (Kd.R_ne HO_316001.out BK304.out (by decide)) e_) e_) (fun e_ => (fun e_ => (Kd.R_ne HO319.out BK304.out (by decide)) e_) e_)))
    have n5_ := Aside0.mk (blk_kept (bk BK315.out) hkp (fun hs_ => Or.elim hs_ (fun e_ => (fun e_ => (Kd.R_ne HO_316001.out BK315.out (by decide)) e_) e_) (fun e_ => (fun e_ => (Kd.R_ne HO319.out BK315.out (by decide)) e_) e_)))
    have n6_ := Aside0.mk (Kd.R_mono (ok' := fun k_ => (P0_1_ k_ ∨ w.heap.size ≤ k_) ∧ some k_ ≠ (.slice Ao6 l0_1.length co6 : Value).ownBlock) ho0 (fun k_ hk_ => ⟨Or.elim hk_ (fun hs_ => Or.elim hs_ (fun hs_ => (HO_316001.out.1 k_ (hs_).symm).1.1) (fun hs_ => (HO319.out.1 k_ (hs_).symm).1.1.1)) (fun hn_ => (.inr (Nat.le_trans (by first | exact HK.out.1 | exact (show Kept w _ (fun k_ => P0_1_ k_) from by repeat (first | (with_reducible first | exact HK.out | apply Kept.alloc | apply Kept.drewN | apply Kept.drew | refine Kept.setCell ?_ (.inr GW301.out) _ | refine Kept.setCell ?_ (.inr GW302.out) _ | refine Kept.setCell ?_ (.inr GW303.out) _ | refine Kept.setCell ?_ (.inr GW304.out) _ | refine Kept.setCell ?_ (.inr GW315.out) _) | exact HK.out)).1) hn_))), Or.elim hk_ (fun hs_ => Or.elim hs_ (fun hs_ => fun e_ => (((HO_302001.out).1 k_ e_.symm).1.2) hs_) (fun hs_ => fun e_ => (((HO_302001.out).1 k_ e_.symm).2) hs_)) (fun hn_ => (Kd.fresh' (Kd.R_lt (by (with_reducible repeat (first | apply Kd.R_alloc | apply Kd.R_drewN | apply Kd.R_drew)); exact HO_302001.out)) k_ hn_))⟩))
    have n7_ := Aside0.mk (Kept.then_ (S := (fun k_ => P0_1_ k_)) (by repeat (first | (with_reducible first | exact HK.out | apply Kept.alloc | apply Kept.drewN | apply Kept.drew | refine Kept.setCell ?_ (.inr GW301.out) _ | refine Kept.setCell ?_ (.inr GW302.out) _ | refine Kept.setCell ?_ (.inr GW303.out) _ | refine Kept.setCell ?_ (.inr GW304.out) _ | refine Kept.setCell ?_ (.inr GW315.out) _) | exact HK.out)) hkp (fun k_ hs_ => Or.elim hs_ (fun e_ => (fun e_ => (HO_316001.out.1 k_ e_.symm).1.1) e_) (fun e_ => (fun e_ => (HO319.out.1 k_ e_.symm).1.1.1) e_)))
    have n8_ := Aside0.mk (hb)
    clear HO_302001
    clear BK301
    clear BK302
    clear BK303
    clear BK304
    clear BK315
    clear HK
    clear HB
    clear HO319
    clear HO_316001
    have HO_302001 := n0_
    have BK301 := n1_
    have BK302 := n2_
    have BK303 := n3_
    have BK304 := n4_
    have BK315 := n5_
    have HO323 := n6_
    have HK := n7_
    have HB := n8_
    clear n0_ n1_ n2_ n3_ n4_ n5_ n6_ n7_ n8_
    (try clear hb)
    (try clear hkp)
    (try clear ho0)
    obtain ⟨Ao60, co60, eo60⟩ := Kd.R_slice HO323.out
    (first | subst eo60 | (injection eo60 with f1_ f2_ f3_; have f4_ := f1_.symm; have f5_ := f3_.symm; clear f1_ f2_ f3_; subst f4_; subst f5_))
    refine hK.out _ _ ⟨(p2 BK315).1, (p2 BK315).2.1⟩ (fun hHeld => ?_)
    clear hK K
    refine norm_ (a' := ?_) ?_ ?_
    rotate_left
    ·show Act.put _ (some 37) _ = _
     simp only [Act.put, s1, s2, s3, i64_w, i32_w]
     rfl
    refine last_ (i := 3) (N := none) #[T_,T_,T_,T_] rfl rfl (by kernel_rfl) (by decide) (fun K hK => ?_)
    have hs59 : w58.cell? ⟨gb315, 0, none⟩ = some (.int .i64 t311) := (blk_cell BK315.out 0).trans rfl
    have hfs59 := blk_frozen BK315.out 0
    have hns59_0 := NB301_315.out
    have hns59_1 := NB302_315.out
    have hns59_2 := NB303_315.out
    have hns59_3 := NB304_315.out
    have hms59_0 := NB315_301.out
    have hms59_1 := NB315_302.out
    have hms59_2 := NB315_303.out
    have hms59_3 := NB315_304.out
    have hs61 : w58.cell? ⟨gb315, 1, none⟩ = some (.slice Ao29 t312.length co29) := (blk_cell BK315.out 1).trans rfl
    have hfs61 := blk_frozen BK315.out 1
    have hns61_0 := NB301_315.out
    have hns61_1 := NB302_315.out
    have hns61_2 := NB303_315.out
    have hns61_3 := NB304_315.out
    have hms61_0 := NB315_301.out
    have hms61_1 := NB315_302.out
    have hms61_2 := NB315_303.out
    have hms61_3 := NB315_304.out
    refine skip_ (w1 := ?_) (by rfl) rfl ?_ ?_
    rotate_left
    ·go_simp
     rfl
    refine hK.out _ _ ?_
    clear hK K
    refine done_ (by kernel_rfl) ?_
    try go_wp2
    have n0_ : Aside0 (Kd.R (Kd.int .i64) 3 ((w58.setCell ⟨gb315, 0, none⟩ (.int .i64 t320)).setCell ⟨gb315, 1, none⟩ (.slice Ao60 t321.length co60)) w0.heap.size (fun k_ => (P0_1_ k_ ∨ w.heap.size ≤ k_) ∧ some k_ ≠ (.slice Ao60 t321.length co60 : Value).ownBlock) (.slice Ao6 l0_1.length co6) l0_1) := ⟨by (with_reducible repeat (first | apply Kd.R_alloc | apply Kd.R_drewN | apply Kd.R_drew)); exact Kd.R_mono (Kd.R_far (p := ⟨gb315, 1, none⟩) (Kd.R_far (p := ⟨gb315, 0, none⟩) (Kd.R_types HO_302001.out BK315.out (by decide)) (fun _ hk => hk.2) (.int .i64 t320)) (fun _ hk => hk.2) (.slice Ao60 t321.length co60)) (fun _ hk => ⟨hk.1.1, hk.1.2⟩)⟩
    have n1_ : Aside0 (Kd.R (Kd.int .i64) 3 ((w58.setCell ⟨gb315, 0, none⟩ (.int .i64 t320)).setCell ⟨gb315, 1, none⟩ (.slice Ao60 t321.length co60)) w0.heap.size (fun k_ => (P0_1_ k_ ∨ w.heap.size ≤ k_) ∧ some k_ ≠ (.slice Ao6 l0_1.length co6 : Value).ownBlock) (.slice Ao60 t321.length co60) t321) := ⟨by (with_reducible repeat (first | apply Kd.R_alloc | apply Kd.R_drewN | apply Kd.R_drew)); exact Kd.R_mono (Kd.R_far (p := ⟨gb315, 1, none⟩) (Kd.R_far (p := ⟨gb315, 0, none⟩) (Kd.R_types HO323.out BK315.out (by decide)) (fun _ hk => hk.2) (.int .i64 t320)) (fun _ hk => hk.2) (.slice Ao60 t321.length co60)) (fun _ hk => ⟨hk.1.1, hk.1.2⟩)⟩
    have n2_ : Aside0 (((w58.setCell ⟨gb315, 0, none⟩ (.int .i64 t320)).setCell ⟨gb315, 1, none⟩ (.slice Ao60 t321.length co60)).heap[gb301]? = some (.cells #[.int .i64 a0_0, .slice Ao6 l0_1.length co6] 71 (0, 0))) := ⟨by (with_reducible repeat (first | refine blk_drewN ?_ _ | refine blk_drew ?_ | refine blk_alloc ?_ _)); refine blk_far ?_ NB301_315.out _; refine blk_far ?_ NB301_315.out _; (with_reducible repeat (first | refine blk_drewN ?_ _ | refine blk_drew ?_ | refine blk_alloc ?_ _)); exact BK301.out⟩
    have n3_ : Aside0 (((w58.setCell ⟨gb315, 0, none⟩ (.int .i64 t320)).setCell ⟨gb315, 1, none⟩ (.slice Ao60 t321.length co60)).heap[gb302]? = some (.cells #[.int .i64 a1_0, .slice A1_1 l1_1.length c1_1] 71 (0, 0))) := ⟨by (with_reducible repeat (first | refine blk_drewN ?_ _ | refine blk_drew ?_ | refine blk_alloc ?_ _)); refine blk_far ?_ NB302_315.out _; refine blk_far ?_ NB302_315.out _; (with_reducible repeat (first | refine blk_drewN ?_ _ | refine blk_drew ?_ | refine blk_alloc ?_ _)); exact BK302.out⟩
    have n4_ : Aside0 (((w58.setCell ⟨gb315, 0, none⟩ (.int .i64 t320)).setCell ⟨gb315, 1, none⟩ (.slice Ao60 t321.length co60)).heap[gb303]? = some (.cells #[.int .i64 0, .slice none 0 0] 71 (0, 0))) := ⟨by (with_reducible repeat (first | refine blk_drewN ?_ _ | refine blk_drew ?_ | refine blk_alloc ?_ _)); refine blk_far ?_ NB303_315.out _; refine blk_far ?_ NB303_315.out _; (with_reducible repeat (first | refine blk_drewN ?_ _ | refine blk_drew ?_ | refine blk_alloc ?_ _)); exact BK303.out⟩
    have n5_ : Aside0 (((w58.setCell ⟨gb315, 0, none⟩ (.int .i64 t320)).setCell ⟨gb315, 1, none⟩ (.slice Ao60 t321.length co60)).heap[gb304]? = some (.cells #[.int .i64 0, .slice none 0 0] 71 (0, 0))) := ⟨by (with_reducible repeat (first | refine blk_drewN ?_ _ | refine blk_drew ?_ | refine blk_alloc ?_ _)); refine blk_far ?_ NB304_315.out _; refine blk_far ?_ NB304_315.out _; (with_reducible repeat (first | refine blk_drewN ?_ _ | refine blk_drew ?_ | refine blk_alloc ?_ _)); exact BK304.out⟩
    have n6_ : Aside0 (((w58.setCell ⟨gb315, 0, none⟩ (.int .i64 t320)).setCell ⟨gb315, 1, none⟩ (.slice Ao60 t321.length co60)).heap[gb315]? = some (.cells #[.int .i64 t320, .slice Ao60 t321.length co60] 71 (0, 0))) := ⟨by (with_reducible repeat (first | refine blk_drewN ?_ _ | refine blk_drew ?_ | refine blk_alloc ?_ _)); refine blk_put (cs := #[.int .i64 t320, .slice Ao29 t312.length co29]) ?_ 1 _ rfl; refine blk_put (cs := #[.int .i64 t311, .slice Ao29 t312.length co29]) ?_ 0 _ rfl; (with_reducible repeat (first | refine blk_drewN ?_ _ | refine blk_drew ?_ | refine blk_alloc ?_ _)); exact BK315.out⟩
    have n7_ : Aside0 (Kept w ((w58.setCell ⟨gb315, 0, none⟩ (.int .i64 t320)).setCell ⟨gb315, 1, none⟩ (.slice Ao60 t321.length co60)) (fun k_ => P0_1_ k_)) := ⟨by repeat (first | (with_reducible first | exact HK.out | apply Kept.alloc | apply Kept.drewN | apply Kept.drew | refine Kept.setCell ?_ (.inr GW301.out) _ | refine Kept.setCell ?_ (.inr GW302.out) _ | refine Kept.setCell ?_ (.inr GW303.out) _ | refine Kept.setCell ?_ (.inr GW304.out) _ | refine Kept.setCell ?_ (.inr GW315.out) _) | exact HK.out)⟩
    have n8_ : Aside0 (Below w0.heap.size w0 ((w58.setCell ⟨gb315, 0, none⟩ (.int .i64 t320)).setCell ⟨gb315, 1, none⟩ (.slice Ao60 t321.length co60))) := ⟨by repeat (first | (with_reducible first | exact HB.out | apply below_alloc | apply pw_below_drewN | apply below_drew1 | refine below_set ?_ GE301.out | refine below_set ?_ GE302.out | refine below_set ?_ GE303.out | refine below_set ?_ GE304.out | refine below_set ?_ GE315.out) | exact HB.out)⟩
    (try clear HO_302001)
    (try clear HO323)
    (try clear BK301)
    (try clear BK302)
    (try clear BK303)
    (try clear BK304)
    (try clear BK315)
    (try clear HK)
    (try clear HB)
    generalize ((w58.setCell ⟨gb315, 0, none⟩ (.int .i64 t320)).setCell ⟨gb315, 1, none⟩ (.slice Ao60 t321.length co60)) = w62 at n0_ n1_ n2_ n3_ n4_ n5_ n6_ n7_ n8_ ⊢
    have HO_302001 := n0_
    have HO323 := n1_
    have BK301 := n2_
    have BK302 := n3_
    have BK303 := n4_
    have BK304 := n5_
    have BK315 := n6_
    have HK := n7_
    have HB := n8_
    clear n0_ n1_ n2_ n3_ n4_ n5_ n6_ n7_ n8_
    have n0_ := Aside0.mk (Kd.R_drew HO_302001.out)
    have n1_ := Aside0.mk (Kd.R_drew HO323.out)
    have n2_ := Aside0.mk (blk_drew BK301.out)
    have n3_ := Aside0.mk (blk_drew BK302.out)
    have n4_ := Aside0.mk (blk_drew BK303.out)
    have n5_ := Aside0.mk (blk_drew BK304.out)
    have n6_ := Aside0.mk (blk_drew BK315.out)
    have n7_ := Aside0.mk (Kept.drew HK.out)
    have n8_ := Aside0.mk (below_drew1 HB.out)
    clear HO_302001
    clear HO323
    clear BK301
    clear BK302
    clear BK303
    clear BK304
    clear BK315
    clear HK
    clear HB
    have HO_302001 := n0_
    have HO323 := n1_
    have BK301 := n2_
    have BK302 := n3_
    have BK303 := n4_
    have BK304 := n5_
    have BK315 := n6_
    have HK := n7_
    have HB := n8_
    clear n0_ n1_ n2_ n3_ n4_ n5_ n6_ n7_ n8_
    refine start_ (n := 8) (S := fun w' => w'.cell? ⟨gb315, 0, none⟩ = some (.int .i64 t320) ∧ w'.cell? ⟨gb315, 1, none⟩ = some (.slice Ao60 t321.length co60) ∧ w'.cell? ⟨gb301, 0, none⟩ = some (.int .i64 a0_0) ∧ w'.cell? ⟨gb301, 1, none⟩ = some (.slice Ao6 l0_1.length co6) ∧ w'.cell? ⟨gb302, 0, none⟩ = some (.int .i64 a1_0) ∧ w'.cell? ⟨gb302, 1, none⟩ = some (.slice A1_1 l1_1.length c1_1)) (ds := []) #[F_,F_,F_,F_,F_,F_,F_,F_] (by kernel_rfl) rfl rfl ⟨(p2 BK315).1, (p2 BK315).2.1, (p2 BK301).1, (p2 BK301).2.1, (p2 BK302).1, (p2 BK302).2.1⟩ (fun hHeld => ?_); refine with_tabW zelligeref04_Floor.tab5 zelligeref04_Floor.bits5 (fun HT_ HW_ => ?_)
    generalize w62.drew = w63 at HO_302001 HO323 BK301 BK302 BK303 BK304 BK315 HK HB hHeld ⊢
    refine tA (i := 0) (N := some 38) (v := ?_) (a' := ?_) #[T_,F_,F_,F_,F_,F_,F_,F_] rfl rfl HT_ HW_ (Or.inl ⟨by rfl, ?_⟩) hHeld ?_ ?_
    rotate_left
    ·rintro w' ⟨s0, s1, s2, s3, s4, s5⟩
     go_simp
     with_reducible rfl
    rotate_left
    ·simp only [Act.put, s1, s2, s3, i64_w, i32_w]
     rfl
    refine tA (i := 1) (N := some 39) (v := ?_) (a' := ?_) #[T_,T_,F_,F_,F_,F_,F_,F_] rfl rfl HT_ HW_ (Or.inl ⟨by rfl, ?_⟩) hHeld ?_ ?_
    rotate_left
    ·rintro w' ⟨s0, s1, s2, s3, s4, s5⟩
     go_simp
     with_reducible rfl
    rotate_left
    ·simp only [Act.put, s1, s2, s3, i64_w, i32_w]
     rfl
    refine tA (i := 2) (N := some 40) (v := ?_) (a' := ?_) #[T_,T_,T_,F_,F_,F_,F_,F_] rfl rfl HT_ HW_ (Or.inl ⟨by rfl, ?_⟩) hHeld ?_ ?_
    rotate_left
    ·rintro w' ⟨s0, s1, s2, s3, s4, s5⟩
     go_simp
     with_reducible rfl
    rotate_left
    ·simp only [Act.put, s1, s2, s3, i64_w, i32_w]
     rfl
    refine tA (i := 3) (N := some 41) (v := ?_) (a' := ?_) #[T_,T_,T_,T_,F_,F_,F_,F_] rfl rfl HT_ HW_ (Or.inl ⟨by rfl, ?_⟩) hHeld ?_ ?_
    rotate_left
    ·rintro w' ⟨s0, s1, s2, s3, s4, s5⟩
     go_simp
     with_reducible rfl
    rotate_left
    ·simp only [Act.put, s1, s2, s3, i64_w, i32_w]
     rfl
    refine one_ (i := 4) (N := some 42) #[T_,T_,T_,T_,T_,F_,F_,F_] rfl rfl (one_of HT_.out (by kernel_rfl)) (by decide) (fun K hK => ?_)
    refine goes_ Try.func42 (by kernel_rfl) rfl #[.agg #[.int .i64 t320, .slice Ao60 t321.length co60], .agg #[.int .i64 a1_0, .slice A1_1 l1_1.length c1_1]] (by rfl) rfl rfl (by (try simp only [List.map_toArray, List.map_cons, List.map_nil]); first | done | rfl | (simp only [List.length_drop, List.length_take]; rfl)) ?_
    with_reducible refine (zelligeref04_Mul.calls kj4 t320 _ _ t321 a1_0 _ _ l1_1 t324 t325 _ ?side1 ?side2 ?side3 ?side4 A53.out).mono ?_
    (case side1 => repeat (first | exact (Kd.R_reads' HO323.out).2.2 | (with_reducible refine Kd.C_alloc ?_ _) | (with_reducible refine Kd.C_drewN ?_ _) | (with_reducible refine Kd.C_drew ?_)))
    (case side2 => exact (Kd.R_reads' HO323.out).2.1)
    (case side3 => exact Kd.C_kept_now HR1_1.out (by repeat (first | (with_reducible first | exact HK.out | apply Kept.alloc | apply Kept.drewN | apply Kept.drew | refine Kept.setCell ?_ (.inr GW301.out) _ | refine Kept.setCell ?_ (.inr GW302.out) _ | refine Kept.setCell ?_ (.inr GW303.out) _ | refine Kept.setCell ?_ (.inr GW304.out) _ | refine Kept.setCell ?_ (.inr GW315.out) _) | exact HK.out)))
    (case side4 => exact HC1_1.out)
    rintro e w64 ⟨v326, rfl, ho0, hb⟩
    refine ⟨_, rfl, ?_⟩
    have n0_ := Aside0.mk (Kd.R_elder' (by (with_reducible repeat (first | apply Kd.R_alloc | apply Kd.R_drewN | apply Kd.R_drew)); exact HO_302001.out) (Kd.R_base ho0) hb)
    have n1_ := Aside0.mk (Kd.R_elder' (by (with_reducible repeat (first | apply Kd.R_alloc | apply Kd.R_drewN | apply Kd.R_drew)); exact HO323.out) (Kd.R_base ho0) hb)
    have n2_ := Aside0.mk (Kd.R_lower (Kd.R_new' (Kd.R_new' (Kd.R_newM (M := fun k_ => (P0_1_ k_ ∨ w.heap.size ≤ k_)) ho0 (by first | exact HK.out.1 | exact (show Kept w _ (fun k_ => P0_1_ k_) from by repeat (first | (with_reducible first | exact HK.out | apply Kept.alloc | apply Kept.drewN | apply Kept.drew | refine Kept.setCell ?_ (.inr GW301.out) _ | refine Kept.setCell ?_ (.inr GW302.out) _ | refine Kept.setCell ?_ (.inr GW303.out) _ | refine Kept.setCell ?_ (.inr GW304.out) _ | refine Kept.setCell ?_ (.inr GW315.out) _) | exact HK.out)).1) (fun k_ h_ => .inr h_)) (Kd.R_lt (by (with_reducible repeat (first | apply Kd.R_alloc | apply Kd.R_drewN | apply Kd.R_drew)); exact HO_302001.out))) (Kd.R_lt (by (with_reducible repeat (first | apply Kd.R_alloc | apply Kd.R_drewN | apply Kd.R_drew)); exact HO323.out))) (below_size (bw HB.out)))
    have n3_ := u1 BK301 hb
    have n4_ := u1 BK302 hb
    have n5_ := u1 BK303 hb
    have n6_ := u1 BK304 hb
    have n7_ := u1 BK315 hb
    have n8_ := Aside0.mk (Kept.below (S := (fun k_ => P0_1_ k_)) (by repeat (first | (with_reducible first | exact HK.out | apply Kept.alloc | apply Kept.drewN | apply Kept.drew | refine Kept.setCell ?_ (.inr GW301.out) _ | refine Kept.setCell ?_ (.inr GW302.out) _ | refine Kept.setCell ?_ (.inr GW303.out) _ | refine Kept.setCell ?_ (.inr GW304.out) _ | refine Kept.setCell ?_ (.inr GW315.out) _) | exact HK.out)) hb)
    have n9_ := Aside0.mk (below_step (bw HB.out) hb)
    clear HO_302001
    clear HO323
    clear BK301
    clear BK302
    clear BK303
    clear BK304
    clear BK315
    clear HK
    clear HB
    have HO_302001 := n0_
    have HO323 := n1_
    have HO327 := n2_
    have BK301 := n3_
    have BK302 := n4_
    have BK303 := n5_
    have BK304 := n6_
    have BK315 := n7_
    have HK := n8_
    have HB := n9_
    clear n0_ n1_ n2_ n3_ n4_ n5_ n6_ n7_ n8_ n9_
    (try clear hb)
    (try clear hb2)
    (try clear hk)
    (try clear hi)
    (try clear ho0)
    obtain ⟨Ao65, co65, eo65⟩ := Kd.R_slice HO327.out
    (first | subst eo65 | (injection eo65 with f1_ f2_ f3_; have f4_ := f1_.symm; have f5_ := f3_.symm; clear f1_ f2_ f3_; subst f4_; subst f5_))
    refine hK.out _ _ ⟨(p2 BK315).1, (p2 BK315).2.1, (p2 BK301).1, (p2 BK301).2.1, (p2 BK302).1, (p2 BK302).2.1⟩ (fun hHeld => ?_)
    clear hK K
    refine norm_ (a' := ?_) ?_ ?_
    rotate_left
    ·show Act.put _ (some 42) _ = _
     simp only [Act.put, s1, s2, s3, i64_w, i32_w]
     rfl
    refine one_ (i := 5) (N := some 43) #[T_,T_,T_,T_,T_,T_,F_,F_] rfl rfl (one_of HT_.out (by kernel_rfl)) (by decide) (fun K hK => ?_)
    refine goes_ Try.func41 (by kernel_rfl) rfl #[.agg #[.int .i64 a0_0, .slice Ao6 l0_1.length co6], .agg #[.int .i64 t324, .slice Ao65 t325.length co65]] (by rfl) rfl rfl (by (try simp only [List.map_toArray, List.map_cons, List.map_nil]); first | done | rfl | (simp only [List.length_drop, List.length_take]; rfl)) ?_
    with_reducible refine (zelligeref04_Sub.calls kj4 a0_0 (fun k_ => some k_ = (.slice Ao6 l0_1.length co6 : Value).ownBlock) (.slice Ao6 l0_1.length co6) l0_1 t324 (fun k_ => some k_ = (.slice Ao65 t325.length co65 : Value).ownBlock) (.slice Ao65 t325.length co65) t325 t328 t329 w0 _ ?side1 ?side2 ?side3 ?side4 ?side5 A54.out).mono ?_
    (case side1 => repeat (first | (with_reducible first | exact HB.out | apply below_alloc | apply pw_below_drewN | apply below_drew1 | refine below_set ?_ GE301.out | refine below_set ?_ GE302.out | refine below_set ?_ GE303.out | refine below_set ?_ GE304.out | refine below_set ?_ GE315.out) | exact HB.out))
    (case side2 => exact Kd.R_tight rfl HO_302001.out)
    (case side3 => exact fun k_ e_ => (HO_302001.out.1 k_ e_.symm).2)
    (case side4 => exact Kd.R_tight rfl HO327.out)
    (case side5 => exact fun k_ e_ => (HO327.out.1 k_ e_.symm).1.2)
    rintro e w66 ⟨v330, rfl, ho0, hb, hkp⟩
    refine ⟨_, rfl, ?_⟩
    have n0_ := Aside0.mk (blk_kept (bk BK301.out) hkp (fun hs_ => Or.elim hs_ (fun e_ => (fun e_ => (Kd.R_ne HO_302001.out BK301.out (by decide)) e_) e_) (fun e_ => (fun e_ => (Kd.R_ne HO327.out BK301.out (by decide)) e_) e_)))
    have n1_ := Aside0.mk (blk_kept (bk BK302.out) hkp (fun hs_ => Or.elim hs_ (fun e_ => (fun e_ => (Kd.R_ne HO_302001.out BK302.out (by decide)) e_) e_) (fun e_ => (fun e_ => (Kd.R_ne HO327.out BK302.out (by decide)) e_) e_)))
    have n2_ := Aside0.mk (blk_kept (bk BK303.out) hkp (fun hs_ => Or.elim hs_ (fun e_ => (fun e_ => (Kd.R_ne HO_302001.out BK303.out (by decide)) e_) e_) (fun e_ => (fun e_ => (Kd.R_ne HO327.out BK303.out (by decide)) e_) e_)))
    have n3_ := Aside0.mk (blk_kept (bk BK304.out) hkp (fun hs_ => Or.elim hs_ (fun e_ => (fun e_ => (Kd.R_ne HO_302001.out BK304.out (by decide)) e_) e_) (fun e_ => (fun e_ => (Kd.R_ne HO327.out BK304.out (by decide)) e_) e_)))
    have n4_ := Aside0.mk (blk_kept (bk BK315.out) hkp (fun hs_ => Or.elim hs_ (fun e_ => (fun e_ => (Kd.R_ne HO_302001.out BK315.out (by decide)) e_) e_) (fun e_ => (fun e_ => (Kd.R_ne HO327.out BK315.out (by decide)) e_) e_)))
    have n5_ := Aside0.mk (Kd.R_mono (ok' := fun k_ => (P0_1_ k_ ∨ w.heap.size ≤ k_) ∧ some k_ ≠ (v330 : Value).ownBlock) (Kd.R_keptB (HO323.out) hkp (fun k_ hk_ hs_ => Or.elim hs_ (fun e_ => (hk_.1.2) e_) (fun e_ => (hk_.2) e_))) (fun k_ hk_ => ⟨hk_.1.1.1, fun e_ => Or.elim (ho0.1 k_ e_.symm) (fun hs_ => hk_.2.1 hs_) (fun hn_ => Nat.not_le.2 hk_.2.2 hn_)⟩))
    have n6_ := Aside0.mk (Kd.R_mono (ok' := fun k_ => (P0_1_ k_ ∨ w.heap.size ≤ k_) ∧ some k_ ≠ (.slice Ao60 t321.length co60 : Value).ownBlock) ho0 (fun k_ hk_ => ⟨Or.elim hk_ (fun hs_ => Or.elim hs_ (fun hs_ => (HO_302001.out.1 k_ (hs_).symm).1.1) (fun hs_ => (HO327.out.1 k_ (hs_).symm).1.1.1)) (fun hn_ => (.inr (Nat.le_trans (by first | exact HK.out.1 | exact (show Kept w _ (fun k_ => P0_1_ k_) from by repeat (first | (with_reducible first | exact HK.out | apply Kept.alloc | apply Kept.drewN | apply Kept.drew | refine Kept.setCell ?_ (.inr GW301.out) _ | refine Kept.setCell ?_ (.inr GW302.out) _ | refine Kept.setCell ?_ (.inr GW303.out) _ | refine Kept.setCell ?_ (.inr GW304.out) _ | refine Kept.setCell ?_ (.inr GW315.out) _) | exact HK.out)).1) hn_))), Or.elim hk_ (fun hs_ => Or.elim hs_ (fun hs_ => fun e_ => (((HO323.out).1 k_ e_.symm).1.2) hs_) (fun hs_ => fun e_ => (((HO323.out).1 k_ e_.symm).2) hs_)) (fun hn_ => (Kd.fresh' (Kd.R_lt (by (with_reducible repeat (first | apply Kd.R_alloc | apply Kd.R_drewN | apply Kd.R_drew)); exact HO323.out)) k_ hn_))⟩))
    have n7_ := Aside0.mk (Kept.then_ (S := (fun k_ => P0_1_ k_)) (by repeat (first | (with_reducible first | exact HK.out | apply Kept.alloc | apply Kept.drewN | apply Kept.drew | refine Kept.setCell ?_ (.inr GW301.out) _ | refine Kept.setCell ?_ (.inr GW302.out) _ | refine Kept.setCell ?_ (.inr GW303.out) _ | refine Kept.setCell ?_ (.inr GW304.out) _ | refine Kept.setCell ?_ (.inr GW315.out) _) | exact HK.out)) hkp (fun k_ hs_ => Or.elim hs_ (fun e_ => (fun e_ => (HO_302001.out.1 k_ e_.symm).1.1) e_) (fun e_ => (fun e_ => (HO327.out.1 k_ e_.symm).1.1.1) e_)))
    have n8_ := Aside0.mk (hb)
    clear BK301
    clear BK302
    clear BK303
    clear BK304
    clear BK315
    clear HO323
    clear HK
    clear HB
    clear HO327
    clear HO_302001
    have BK301 := n0_
    have BK302 := n1_
    have BK303 := n2_
    have BK304 := n3_
    have BK315 := n4_
    have HO323 := n5_
    have HO331 := n6_
    have HK := n7_
    have HB := n8_
    clear n0_ n1_ n2_ n3_ n4_ n5_ n6_ n7_ n8_
    (try clear hb)
    (try clear hkp)
    (try clear ho0)
    obtain ⟨Ao70, co70, eo70⟩ := Kd.R_slice HO331.out
    (first | subst eo70 | (injection eo70 with f1_ f2_ f3_; have f4_ := f1_.symm; have f5_ := f3_.symm; clear f1_ f2_ f3_; subst f4_; subst f5_))
    refine hK.out _ _ ⟨(p2 BK315).1, (p2 BK315).2.1, (p2 BK301).1, (p2 BK301).2.1, (p2 BK302).1, (p2 BK302).2.1⟩ (fun hHeld => ?_)
    clear hK K
    refine norm_ (a' := ?_) ?_ ?_
    rotate_left
    ·show Act.put _ (some 43) _ = _
     simp only [Act.put, s1, s2, s3, i64_w, i32_w]
     rfl
    refine one_ (i := 6) (N := none) #[T_,T_,T_,T_,T_,T_,T_,F_] rfl rfl (one_of HT_.out (by kernel_rfl)) (by decide) (fun K hK => ?_)
    have hs67 : w66.cell? ⟨gb303, 0, none⟩ = some (.int .i64 0) := (blk_cell BK303.out 0).trans rfl
    have hfs67 := blk_frozen BK303.out 0
    have hns67_0 := NB301_303.out
    have hns67_1 := NB302_303.out
    have hns67_3 := NB304_303.out
    have hns67_4 := NB315_303.out
    have hms67_0 := NB303_301.out
    have hms67_1 := NB303_302.out
    have hms67_3 := NB303_304.out
    have hms67_4 := NB303_315.out
    have hs68 : w66.cell? ⟨gb303, 1, none⟩ = some (.slice none 0 0) := (blk_cell BK303.out 1).trans rfl
    have hfs68 := blk_frozen BK303.out 1
    have hns68_0 := NB301_303.out
    have hns68_1 := NB302_303.out
    have hns68_3 := NB304_303.out
    have hns68_4 := NB315_303.out
    have hms68_0 := NB303_301.out
    have hms68_1 := NB303_302.out
    have hms68_3 := NB303_304.out
    have hms68_4 := NB303_315.out
    refine skip_ (w1 := ?_) (by rfl) rfl ?_ ?_
    rotate_left
    ·go_simp
     rfl
    refine hK.out _ _ ⟨((cell_far (p := ⟨gb303, _, none⟩) NB315_303.out _).trans (((cell_far (p := ⟨gb303, _, none⟩) NB315_303.out _).trans (hHeld.1)))), ((cell_far (p := ⟨gb303, _, none⟩) NB315_303.out _).trans (((cell_far (p := ⟨gb303, _, none⟩) NB315_303.out _).trans (hHeld.2.1)))), ((cell_far (p := ⟨gb303, _, none⟩) NB301_303.out _).trans (((cell_far (p := ⟨gb303, _, none⟩) NB301_303.out _).trans (hHeld.2.2.1)))), ((cell_far (p := ⟨gb303, _, none⟩) NB301_303.out _).trans (((cell_far (p := ⟨gb303, _, none⟩) NB301_303.out _).trans (hHeld.2.2.2.1)))), ((cell_far (p := ⟨gb303, _, none⟩) NB302_303.out _).trans (((cell_far (p := ⟨gb303, _, none⟩) NB302_303.out _).trans (hHeld.2.2.2.2.1)))), ((cell_far (p := ⟨gb303, _, none⟩) NB302_303.out _).trans (((cell_far (p := ⟨gb303, _, none⟩) NB302_303.out _).trans (hHeld.2.2.2.2.2))))⟩ (fun hHeld => ?_)
    clear hK K
    refine one_ (i := 7) (N := none) #[T_,T_,T_,T_,T_,T_,T_,T_] rfl rfl (one_of HT_.out (by kernel_rfl)) (by decide) (fun K hK => ?_)
    have hs69 : w66.cell? ⟨gb304, 0, none⟩ = some (.int .i64 0) := (blk_cell BK304.out 0).trans rfl
    have hfs69 := blk_frozen BK304.out 0
    have hns69_0 := NB301_304.out
    have hns69_1 := NB302_304.out
    have hns69_2 := NB303_304.out
    have hns69_4 := NB315_304.out
    have hms69_0 := NB304_301.out
    have hms69_1 := NB304_302.out
    have hms69_2 := NB304_303.out
    have hms69_4 := NB304_315.out
    have hs71 : w66.cell? ⟨gb304, 1, none⟩ = some (.slice none 0 0) := (blk_cell BK304.out 1).trans rfl
    have hfs71 := blk_frozen BK304.out 1
    have hns71_0 := NB301_304.out
    have hns71_1 := NB302_304.out
    have hns71_2 := NB303_304.out
    have hns71_4 := NB315_304.out
    have hms71_0 := NB304_301.out
    have hms71_1 := NB304_302.out
    have hms71_2 := NB304_303.out
    have hms71_4 := NB304_315.out
    refine skip_ (w1 := ?_) (by rfl) rfl ?_ ?_
    rotate_left
    ·go_simp
     rfl
    refine hK.out _ _ ⟨((cell_far (p := ⟨gb304, _, none⟩) NB315_304.out _).trans (((cell_far (p := ⟨gb304, _, none⟩) NB315_304.out _).trans (hHeld.1)))), ((cell_far (p := ⟨gb304, _, none⟩) NB315_304.out _).trans (((cell_far (p := ⟨gb304, _, none⟩) NB315_304.out _).trans (hHeld.2.1)))), ((cell_far (p := ⟨gb304, _, none⟩) NB301_304.out _).trans (((cell_far (p := ⟨gb304, _, none⟩) NB301_304.out _).trans (hHeld.2.2.1)))), ((cell_far (p := ⟨gb304, _, none⟩) NB301_304.out _).trans (((cell_far (p := ⟨gb304, _, none⟩) NB301_304.out _).trans (hHeld.2.2.2.1)))), ((cell_far (p := ⟨gb304, _, none⟩) NB302_304.out _).trans (((cell_far (p := ⟨gb304, _, none⟩) NB302_304.out _).trans (hHeld.2.2.2.2.1)))), ((cell_far (p := ⟨gb304, _, none⟩) NB302_304.out _).trans (((cell_far (p := ⟨gb304, _, none⟩) NB302_304.out _).trans (hHeld.2.2.2.2.2))))⟩ (fun hHeld => ?_)
    clear hK K
    refine done_ (done_of HT_.out (by kernel_rfl)) ?_
    try go_wp2
    refine bodyPost_ret (results_cc rfl _ _ gb303 gb304 71 71 #[.int .i64 t320, .slice Ao60 t321.length co60] #[.int .i64 t328, .slice Ao70 t329.length co70] (0, 0) (0, 0) _ _ rfl (by (with_reducible repeat (first | refine blk_drewN ?_ _ | refine blk_drew ?_ | refine blk_alloc ?_ _)); refine blk_far ?_ NB303_304.out _; refine blk_far ?_ NB303_304.out _; refine blk_put (cs := #[.int .i64 t320, .slice none 0 0]) ?_ 1 _ rfl; refine blk_put (cs := #[.int .i64 0, .slice none 0 0]) ?_ 0 _ rfl; (with_reducible repeat (first | refine blk_drewN ?_ _ | refine blk_drew ?_ | refine blk_alloc ?_ _)); exact BK303.out) Try.underlying71 rfl (by kernel_rfl) rfl (by (with_reducible repeat (first | refine blk_drewN ?_ _ | refine blk_drew ?_ | refine blk_alloc ?_ _)); refine blk_put (cs := #[.int .i64 t328, .slice none 0 0]) ?_ 1 _ rfl; refine blk_put (cs := #[.int .i64 0, .slice none 0 0]) ?_ 0 _ rfl; refine blk_far ?_ NB304_303.out _; refine blk_far ?_ NB304_303.out _; (with_reducible repeat (first | refine blk_drewN ?_ _ | refine blk_drew ?_ | refine blk_alloc ?_ _)); exact BK304.out) Try.underlying71 rfl (by kernel_rfl)) rfl ?_
    exact ⟨_, _, by first | rfl | (simp [*, errW_none, errW_some] <;> rfl), by (with_reducible repeat (first | apply Kd.R_alloc | apply Kd.R_drewN | apply Kd.R_drew)); exact Kd.R_mono (Kd.R_far (p := ⟨gb304, 1, none⟩) (Kd.R_far (p := ⟨gb304, 0, none⟩) (Kd.R_far (p := ⟨gb303, 1, none⟩) (Kd.R_far (p := ⟨gb303, 0, none⟩) (Kd.R_types (Kd.R_types HO323.out BK303.out (by decide)) BK304.out (by decide)) (fun _ hk => hk.1.2) (.int .i64 t320)) (fun _ hk => hk.1.2) (.slice Ao60 t321.length co60)) (fun _ hk => hk.2) (.int .i64 t328)) (fun _ hk => hk.2) (.slice Ao70 t329.length co70)) (fun _ hk => ⟨hk.1.1.1, hk.1.1.2⟩), by (with_reducible repeat (first | apply Kd.R_alloc | apply Kd.R_drewN | apply Kd.R_drew)); exact Kd.R_mono (Kd.R_far (p := ⟨gb304, 1, none⟩) (Kd.R_far (p := ⟨gb304, 0, none⟩) (Kd.R_far (p := ⟨gb303, 1, none⟩) (Kd.R_far (p := ⟨gb303, 0, none⟩) (Kd.R_types (Kd.R_types HO331.out BK303.out (by decide)) BK304.out (by decide)) (fun _ hk => hk.1.2) (.int .i64 t320)) (fun _ hk => hk.1.2) (.slice Ao60 t321.length co60)) (fun _ hk => hk.2) (.int .i64 t328)) (fun _ hk => hk.2) (.slice Ao70 t329.length co70)) (fun _ hk => ⟨hk.1.1.1, hk.1.1.2⟩), by repeat (first | (with_reducible first | exact HB.out | apply below_alloc | apply pw_below_drewN | apply below_drew1 | refine below_set ?_ GE301.out | refine below_set ?_ GE302.out | refine below_set ?_ GE303.out | refine below_set ?_ GE304.out | refine below_set ?_ GE315.out) | exact HB.out), by repeat (first | (with_reducible first | exact HK.out | apply Kept.alloc | apply Kept.drewN | apply Kept.drew | refine Kept.setCell ?_ (.inr GW301.out) _ | refine Kept.setCell ?_ (.inr GW302.out) _ | refine Kept.setCell ?_ (.inr GW303.out) _ | refine Kept.setCell ?_ (.inr GW304.out) _ | refine Kept.setCell ?_ (.inr GW315.out) _) | exact HK.out)⟩
   ·replace c50 := Bool.eq_false_iff.mpr c50
    subst c50
    rw [if_neg (show ¬ (false = true) by decide)] at H
    replace H := Option.bind_eq_some_iff.mp H
    obtain ⟨⟨t332, t333⟩, A720, H⟩ := H
    try dsimp only at H
    have A72 := Aside0.mk A720
    clear A720
    replace H := Option.bind_eq_some_iff.mp H
    obtain ⟨⟨t336, t337⟩, A730, H⟩ := H
    try dsimp only at H
    have A73 := Aside0.mk A730
    clear A730
    simp only [Option.some.injEq, Prod.mk.injEq] at H
    obtain ⟨rfl, rfl, rfl, rfl⟩ := H
    try go_wp2
    have n0_ := Aside0.mk (Kd.R_drew HO_302001.out)
    have n1_ := Aside0.mk (Kd.R_drew HO_316001.out)
    have n2_ := Aside0.mk (blk_drew BK301.out)
    have n3_ := Aside0.mk (blk_drew BK302.out)
    have n4_ := Aside0.mk (blk_drew BK303.out)
    have n5_ := Aside0.mk (blk_drew BK304.out)
    have n6_ := Aside0.mk (blk_drew BK315.out)
    have n7_ := Aside0.mk (Kept.drew HK.out)
    have n8_ := Aside0.mk (below_drew1 HB.out)
    clear HO_302001
    clear HO_316001
    clear BK301
    clear BK302
    clear BK303
    clear BK304
    clear BK315
    clear HK
    clear HB
    have HO_302001 := n0_
    have HO_316001 := n1_
    have BK301 := n2_
    have BK302 := n3_
    have BK303 := n4_
    have BK304 := n5_
    have BK315 := n6_
    have HK := n7_
    have HB := n8_
    clear n0_ n1_ n2_ n3_ n4_ n5_ n6_ n7_ n8_
    refine start_ (n := 8) (S := fun w' => w'.cell? ⟨gb315, 0, none⟩ = some (.int .i64 t311) ∧ w'.cell? ⟨gb315, 1, none⟩ = some (.slice Ao29 t312.length co29) ∧ w'.cell? ⟨gb301, 0, none⟩ = some (.int .i64 a0_0) ∧ w'.cell? ⟨gb301, 1, none⟩ = some (.slice Ao6 l0_1.length co6) ∧ w'.cell? ⟨gb302, 0, none⟩ = some (.int .i64 a1_0) ∧ w'.cell? ⟨gb302, 1, none⟩ = some (.slice A1_1 l1_1.length c1_1)) (ds := []) #[F_,F_,F_,F_,F_,F_,F_,F_] (by kernel_rfl) rfl rfl ⟨(p2 BK315).1, (p2 BK315).2.1, (p2 BK301).1, (p2 BK301).2.1, (p2 BK302).1, (p2 BK302).2.1⟩ (fun hHeld => ?_); refine with_tabW zelligeref04_Floor.tab5 zelligeref04_Floor.bits5 (fun HT_ HW_ => ?_)
    generalize wc.drew = w74 at HO_302001 HO_316001 BK301 BK302 BK303 BK304 BK315 HK HB hHeld ⊢
    refine tA (i := 0) (N := some 38) (v := ?_) (a' := ?_) #[T_,F_,F_,F_,F_,F_,F_,F_] rfl rfl HT_ HW_ (Or.inl ⟨by rfl, ?_⟩) hHeld ?_ ?_
    rotate_left
    ·rintro w' ⟨s0, s1, s2, s3, s4, s5⟩
     go_simp
     with_reducible rfl
    rotate_left
    ·simp only [Act.put, s1, s2, s3, i64_w, i32_w]
     rfl
    refine tA (i := 1) (N := some 39) (v := ?_) (a' := ?_) #[T_,T_,F_,F_,F_,F_,F_,F_] rfl rfl HT_ HW_ (Or.inl ⟨by rfl, ?_⟩) hHeld ?_ ?_
    rotate_left
    ·rintro w' ⟨s0, s1, s2, s3, s4, s5⟩
     go_simp
     with_reducible rfl
    rotate_left
    ·simp only [Act.put, s1, s2, s3, i64_w, i32_w]
     rfl
    refine tA (i := 2) (N := some 40) (v := ?_) (a' := ?_) #[T_,T_,T_,F_,F_,F_,F_,F_] rfl rfl HT_ HW_ (Or.inl ⟨by rfl, ?_⟩) hHeld ?_ ?_
    rotate_left
    ·rintro w' ⟨s0, s1, s2, s3, s4, s5⟩
     go_simp
     with_reducible rfl
    rotate_left
    ·simp only [Act.put, s1, s2, s3, i64_w, i32_w]
     rfl
    refine tA (i := 3) (N := some 41) (v := ?_) (a' := ?_) #[T_,T_,T_,T_,F_,F_,F_,F_] rfl rfl HT_ HW_ (Or.inl ⟨by rfl, ?_⟩) hHeld ?_ ?_
    rotate_left
    ·rintro w' ⟨s0, s1, s2, s3, s4, s5⟩
     go_simp
     with_reducible rfl
    rotate_left
    ·simp only [Act.put, s1, s2, s3, i64_w, i32_w]
     rfl
    refine one_ (i := 4) (N := some 42) #[T_,T_,T_,T_,T_,F_,F_,F_] rfl rfl (one_of HT_.out (by kernel_rfl)) (by decide) (fun K hK => ?_)
    refine goes_ Try.func42 (by kernel_rfl) rfl #[.agg #[.int .i64 t311, .slice Ao29 t312.length co29], .agg #[.int .i64 a1_0, .slice A1_1 l1_1.length c1_1]] (by rfl) rfl rfl (by (try simp only [List.map_toArray, List.map_cons, List.map_nil]); first | done | rfl | (simp only [List.length_drop, List.length_take]; rfl)) ?_
    with_reducible refine (zelligeref04_Mul.calls kj4 t311 _ _ t312 a1_0 _ _ l1_1 t332 t333 _ ?side1 ?side2 ?side3 ?side4 A72.out).mono ?_
    (case side1 => repeat (first | exact (Kd.R_reads' HO_316001.out).2.2 | (with_reducible refine Kd.C_alloc ?_ _) | (with_reducible refine Kd.C_drewN ?_ _) | (with_reducible refine Kd.C_drew ?_)))
    (case side2 => exact (Kd.R_reads' HO_316001.out).2.1)
    (case side3 => exact Kd.C_kept_now HR1_1.out (by repeat (first | (with_reducible first | exact HK.out | apply Kept.alloc | apply Kept.drewN | apply Kept.drew | refine Kept.setCell ?_ (.inr GW301.out) _ | refine Kept.setCell ?_ (.inr GW302.out) _ | refine Kept.setCell ?_ (.inr GW303.out) _ | refine Kept.setCell ?_ (.inr GW304.out) _ | refine Kept.setCell ?_ (.inr GW315.out) _) | exact HK.out)))
    (case side4 => exact HC1_1.out)
    rintro e w75 ⟨v334, rfl, ho0, hb⟩
    refine ⟨_, rfl, ?_⟩
    have n0_ := Aside0.mk (Kd.R_elder' (by (with_reducible repeat (first | apply Kd.R_alloc | apply Kd.R_drewN | apply Kd.R_drew)); exact HO_302001.out) (Kd.R_base ho0) hb)
    have n1_ := Aside0.mk (Kd.R_elder' (by (with_reducible repeat (first | apply Kd.R_alloc | apply Kd.R_drewN | apply Kd.R_drew)); exact HO_316001.out) (Kd.R_base ho0) hb)
    have n2_ := Aside0.mk (Kd.R_lower (Kd.R_new' (Kd.R_new' (Kd.R_newM (M := fun k_ => (P0_1_ k_ ∨ w.heap.size ≤ k_)) ho0 (by first | exact HK.out.1 | exact (show Kept w _ (fun k_ => P0_1_ k_) from by repeat (first | (with_reducible first | exact HK.out | apply Kept.alloc | apply Kept.drewN | apply Kept.drew | refine Kept.setCell ?_ (.inr GW301.out) _ | refine Kept.setCell ?_ (.inr GW302.out) _ | refine Kept.setCell ?_ (.inr GW303.out) _ | refine Kept.setCell ?_ (.inr GW304.out) _ | refine Kept.setCell ?_ (.inr GW315.out) _) | exact HK.out)).1) (fun k_ h_ => .inr h_)) (Kd.R_lt (by (with_reducible repeat (first | apply Kd.R_alloc | apply Kd.R_drewN | apply Kd.R_drew)); exact HO_302001.out))) (Kd.R_lt (by (with_reducible repeat (first | apply Kd.R_alloc | apply Kd.R_drewN | apply Kd.R_drew)); exact HO_316001.out))) (below_size (bw HB.out)))
    have n3_ := u1 BK301 hb
    have n4_ := u1 BK302 hb
    have n5_ := u1 BK303 hb
    have n6_ := u1 BK304 hb
    have n7_ := u1 BK315 hb
    have n8_ := Aside0.mk (Kept.below (S := (fun k_ => P0_1_ k_)) (by repeat (first | (with_reducible first | exact HK.out | apply Kept.alloc | apply Kept.drewN | apply Kept.drew | refine Kept.setCell ?_ (.inr GW301.out) _ | refine Kept.setCell ?_ (.inr GW302.out) _ | refine Kept.setCell ?_ (.inr GW303.out) _ | refine Kept.setCell ?_ (.inr GW304.out) _ | refine Kept.setCell ?_ (.inr GW315.out) _) | exact HK.out)) hb)
    have n9_ := Aside0.mk (below_step (bw HB.out) hb)
    clear HO_302001
    clear HO_316001
    clear BK301
    clear BK302
    clear BK303
    clear BK304
    clear BK315
    clear HK
    clear HB
    have HO_302001 := n0_
    have HO_316001 := n1_
    have HO335 := n2_
    have BK301 := n3_
    have BK302 := n4_
    have BK303 := n5_
    have BK304 := n6_
    have BK315 := n7_
    have HK := n8_
    have HB := n9_
    clear n0_ n1_ n2_ n3_ n4_ n5_ n6_ n7_ n8_ n9_
    (try clear hb)
    (try clear hb2)
    (try clear hk)
    (try clear hi)
    (try clear ho0)
    obtain ⟨Ao76, co76, eo76⟩ := Kd.R_slice HO335.out
    (first | subst eo76 | (injection eo76 with f1_ f2_ f3_; have f4_ := f1_.symm; have f5_ := f3_.symm; clear f1_ f2_ f3_; subst f4_; subst f5_))
    refine hK.out _ _ ⟨(p2 BK315).1, (p2 BK315).2.1, (p2 BK301).1, (p2 BK301).2.1, (p2 BK302).1, (p2 BK302).2.1⟩ (fun hHeld => ?_)
    clear hK K
    refine norm_ (a' := ?_) ?_ ?_
    rotate_left
    ·show Act.put _ (some 42) _ = _
     simp only [Act.put, s1, s2, s3, i64_w, i32_w]
     rfl
    refine one_ (i := 5) (N := some 43) #[T_,T_,T_,T_,T_,T_,F_,F_] rfl rfl (one_of HT_.out (by kernel_rfl)) (by decide) (fun K hK => ?_)
    refine goes_ Try.func41 (by kernel_rfl) rfl #[.agg #[.int .i64 a0_0, .slice Ao6 l0_1.length co6], .agg #[.int .i64 t332, .slice Ao76 t333.length co76]] (by rfl) rfl rfl (by (try simp only [List.map_toArray, List.map_cons, List.map_nil]); first | done | rfl | (simp only [List.length_drop, List.length_take]; rfl)) ?_
    with_reducible refine (zelligeref04_Sub.calls kj4 a0_0 (fun k_ => some k_ = (.slice Ao6 l0_1.length co6 : Value).ownBlock) (.slice Ao6 l0_1.length co6) l0_1 t332 (fun k_ => some k_ = (.slice Ao76 t333.length co76 : Value).ownBlock) (.slice Ao76 t333.length co76) t333 t336 t337 w0 _ ?side1 ?side2 ?side3 ?side4 ?side5 A73.out).mono ?_
    (case side1 => repeat (first | (with_reducible first | exact HB.out | apply below_alloc | apply pw_below_drewN | apply below_drew1 | refine below_set ?_ GE301.out | refine below_set ?_ GE302.out | refine below_set ?_ GE303.out | refine below_set ?_ GE304.out | refine below_set ?_ GE315.out) | exact HB.out))
    (case side2 => exact Kd.R_tight rfl HO_302001.out)
    (case side3 => exact fun k_ e_ => (HO_302001.out.1 k_ e_.symm).2)
    (case side4 => exact Kd.R_tight rfl HO335.out)
    (case side5 => exact fun k_ e_ => (HO335.out.1 k_ e_.symm).1.2)
    rintro e w77 ⟨v338, rfl, ho0, hb, hkp⟩
    refine ⟨_, rfl, ?_⟩
    have n0_ := Aside0.mk (Kd.R_mono (ok' := fun k_ => (P0_1_ k_ ∨ w.heap.size ≤ k_) ∧ some k_ ≠ (v338 : Value).ownBlock) (Kd.R_keptB (HO_316001.out) hkp (fun k_ hk_ hs_ => Or.elim hs_ (fun e_ => (hk_.1.2) e_) (fun e_ => (hk_.2) e_))) (fun k_ hk_ => ⟨hk_.1.1.1, fun e_ => Or.elim (ho0.1 k_ e_.symm) (fun hs_ => hk_.2.1 hs_) (fun hn_ => Nat.not_le.2 hk_.2.2 hn_)⟩))
    have n1_ := Aside0.mk (blk_kept (bk BK301.out) hkp (fun hs_ => Or.elim hs_ (fun e_ => (fun e_ => (Kd.R_ne HO_302001.out BK301.out (by decide)) e_) e_) (fun e_ => (fun e_ => (Kd.R_ne HO335.out BK301.out (by decide)) e_) e_)))
    have n2_ := Aside0.mk (blk_kept (bk BK302.out) hkp (fun hs_ => Or.elim hs_ (fun e_ => (fun e_ => (Kd.R_ne HO_302001.out BK302.out (by decide)) e_) e_) (fun e_ => (fun e_ => (Kd.R_ne HO335.out BK302.out (by decide)) e_) e_)))
    have n3_ := Aside0.mk (blk_kept (bk BK303.out) hkp (fun hs_ => Or.elim hs_ (fun e_ => (fun e_ => (Kd.R_ne HO_302001.out BK303.out (by decide)) e_) e_) (fun e_ => (fun e_ => (Kd.R_ne HO335.out BK303.out (by decide)) e_) e_)))
    have n4_ := Aside0.mk (blk_kept (bk BK304.out) hkp (fun hs_ => Or.elim hs_ (fun e_ => (fun e_ => (Kd.R_ne HO_302001.out BK304.out (by decide)) e_) e_) (fun e_ => (fun e_ => (Kd.R_ne HO335.out BK304.out (by decide)) e_) e_)))
    have n5_ := Aside0.mk (blk_kept (bk BK315.out) hkp (fun hs_ => Or.elim hs_ (fun e_ => (fun e_ => (Kd.R_ne HO_302001.out BK315.out (by decide)) e_) e_) (fun e_ => (fun e_ => (Kd.R_ne HO335.out BK315.out (by decide)) e_) e_)))
    have n6_ := Aside0.mk (Kd.R_mono (ok' := fun k_ => (P0_1_ k_ ∨ w.heap.size ≤ k_) ∧ some k_ ≠ (.slice Ao29 t312.length co29 : Value).ownBlock) ho0 (fun k_ hk_ => ⟨Or.elim hk_ (fun hs_ => Or.elim hs_ (fun hs_ => (HO_302001.out.1 k_ (hs_).symm).1.1) (fun hs_ => (HO335.out.1 k_ (hs_).symm).1.1.1)) (fun hn_ => (.inr (Nat.le_trans (by first | exact HK.out.1 | exact (show Kept w _ (fun k_ => P0_1_ k_) from by repeat (first | (with_reducible first | exact HK.out | apply Kept.alloc | apply Kept.drewN | apply Kept.drew | refine Kept.setCell ?_ (.inr GW301.out) _ | refine Kept.setCell ?_ (.inr GW302.out) _ | refine Kept.setCell ?_ (.inr GW303.out) _ | refine Kept.setCell ?_ (.inr GW304.out) _ | refine Kept.setCell ?_ (.inr GW315.out) _) | exact HK.out)).1) hn_))), Or.elim hk_ (fun hs_ => Or.elim hs_ (fun hs_ => fun e_ => (((HO_316001.out).1 k_ e_.symm).1.2) hs_) (fun hs_ => fun e_ => (((HO_316001.out).1 k_ e_.symm).2) hs_)) (fun hn_ => (Kd.fresh' (Kd.R_lt (by (with_reducible repeat (first | apply Kd.R_alloc | apply Kd.R_drewN | apply Kd.R_drew)); exact HO_316001.out)) k_ hn_))⟩))
    have n7_ := Aside0.mk (Kept.then_ (S := (fun k_ => P0_1_ k_)) (by repeat (first | (with_reducible first | exact HK.out | apply Kept.alloc | apply Kept.drewN | apply Kept.drew | refine Kept.setCell ?_ (.inr GW301.out) _ | refine Kept.setCell ?_ (.inr GW302.out) _ | refine Kept.setCell ?_ (.inr GW303.out) _ | refine Kept.setCell ?_ (.inr GW304.out) _ | refine Kept.setCell ?_ (.inr GW315.out) _) | exact HK.out)) hkp (fun k_ hs_ => Or.elim hs_ (fun e_ => (fun e_ => (HO_302001.out.1 k_ e_.symm).1.1) e_) (fun e_ => (fun e_ => (HO335.out.1 k_ e_.symm).1.1.1) e_)))
    have n8_ := Aside0.mk (hb)
    clear HO_316001
    clear BK301
    clear BK302
    clear BK303
    clear BK304
    clear BK315
    clear HK
    clear HB
    clear HO335
    clear HO_302001
    have HO_316001 := n0_
    have BK301 := n1_
    have BK302 := n2_
    have BK303 := n3_
    have BK304 := n4_
    have BK315 := n5_
    have HO339 := n6_
    have HK := n7_
    have HB := n8_
    clear n0_ n1_ n2_ n3_ n4_ n5_ n6_ n7_ n8_
    (try clear hb)
    (try clear hkp)
    (try clear ho0)
    obtain ⟨Ao81, co81, eo81⟩ := Kd.R_slice HO339.out
    (first | subst eo81 | (injection eo81 with f1_ f2_ f3_; have f4_ := f1_.symm; have f5_ := f3_.symm; clear f1_ f2_ f3_; subst f4_; subst f5_))
    refine hK.out _ _ ⟨(p2 BK315).1, (p2 BK315).2.1, (p2 BK301).1, (p2 BK301).2.1, (p2 BK302).1, (p2 BK302).2.1⟩ (fun hHeld => ?_)
    clear hK K
    refine norm_ (a' := ?_) ?_ ?_
    rotate_left
    ·show Act.put _ (some 43) _ = _
     simp only [Act.put, s1, s2, s3, i64_w, i32_w]
     rfl
    refine one_ (i := 6) (N := none) #[T_,T_,T_,T_,T_,T_,T_,F_] rfl rfl (one_of HT_.out (by kernel_rfl)) (by decide) (fun K hK => ?_)
    have hs78 : w77.cell? ⟨gb303, 0, none⟩ = some (.int .i64 0) := (blk_cell BK303.out 0).trans rfl
    have hfs78 := blk_frozen BK303.out 0
    have hns78_0 := NB301_303.out
    have hns78_1 := NB302_303.out
    have hns78_3 := NB304_303.out
    have hns78_4 := NB315_303.out
    have hms78_0 := NB303_301.out
    have hms78_1 := NB303_302.out
    have hms78_3 := NB303_304.out
    have hms78_4 := NB303_315.out
    have hs79 : w77.cell? ⟨gb303, 1, none⟩ = some (.slice none 0 0) := (blk_cell BK303.out 1).trans rfl
    have hfs79 := blk_frozen BK303.out 1
    have hns79_0 := NB301_303.out
    have hns79_1 := NB302_303.out
    have hns79_3 := NB304_303.out
    have hns79_4 := NB315_303.out
    have hms79_0 := NB303_301.out
    have hms79_1 := NB303_302.out
    have hms79_3 := NB303_304.out
    have hms79_4 := NB303_315.out
    refine skip_ (w1 := ?_) (by rfl) rfl ?_ ?_
    rotate_left
    ·go_simp
     rfl
    refine hK.out _ _ ⟨((cell_far (p := ⟨gb303, _, none⟩) NB315_303.out _).trans (((cell_far (p := ⟨gb303, _, none⟩) NB315_303.out _).trans (hHeld.1)))), ((cell_far (p := ⟨gb303, _, none⟩) NB315_303.out _).trans (((cell_far (p := ⟨gb303, _, none⟩) NB315_303.out _).trans (hHeld.2.1)))), ((cell_far (p := ⟨gb303, _, none⟩) NB301_303.out _).trans (((cell_far (p := ⟨gb303, _, none⟩) NB301_303.out _).trans (hHeld.2.2.1)))), ((cell_far (p := ⟨gb303, _, none⟩) NB301_303.out _).trans (((cell_far (p := ⟨gb303, _, none⟩) NB301_303.out _).trans (hHeld.2.2.2.1)))), ((cell_far (p := ⟨gb303, _, none⟩) NB302_303.out _).trans (((cell_far (p := ⟨gb303, _, none⟩) NB302_303.out _).trans (hHeld.2.2.2.2.1)))), ((cell_far (p := ⟨gb303, _, none⟩) NB302_303.out _).trans (((cell_far (p := ⟨gb303, _, none⟩) NB302_303.out _).trans (hHeld.2.2.2.2.2))))⟩ (fun hHeld => ?_)
    clear hK K
    refine one_ (i := 7) (N := none) #[T_,T_,T_,T_,T_,T_,T_,T_] rfl rfl (one_of HT_.out (by kernel_rfl)) (by decide) (fun K hK => ?_)
    have hs80 : w77.cell? ⟨gb304, 0, none⟩ = some (.int .i64 0) := (blk_cell BK304.out 0).trans rfl
    have hfs80 := blk_frozen BK304.out 0
    have hns80_0 := NB301_304.out
    have hns80_1 := NB302_304.out
    have hns80_2 := NB303_304.out
    have hns80_4 := NB315_304.out
    have hms80_0 := NB304_301.out
    have hms80_1 := NB304_302.out
    have hms80_2 := NB304_303.out
    have hms80_4 := NB304_315.out
    have hs82 : w77.cell? ⟨gb304, 1, none⟩ = some (.slice none 0 0) := (blk_cell BK304.out 1).trans rfl
    have hfs82 := blk_frozen BK304.out 1
    have hns82_0 := NB301_304.out
    have hns82_1 := NB302_304.out
    have hns82_2 := NB303_304.out
    have hns82_4 := NB315_304.out
    have hms82_0 := NB304_301.out
    have hms82_1 := NB304_302.out
    have hms82_2 := NB304_303.out
    have hms82_4 := NB304_315.out
    refine skip_ (w1 := ?_) (by rfl) rfl ?_ ?_
    rotate_left
    ·go_simp
     rfl
    refine hK.out _ _ ⟨((cell_far (p := ⟨gb304, _, none⟩) NB315_304.out _).trans (((cell_far (p := ⟨gb304, _, none⟩) NB315_304.out _).trans (hHeld.1)))), ((cell_far (p := ⟨gb304, _, none⟩) NB315_304.out _).trans (((cell_far (p := ⟨gb304, _, none⟩) NB315_304.out _).trans (hHeld.2.1)))), ((cell_far (p := ⟨gb304, _, none⟩) NB301_304.out _).trans (((cell_far (p := ⟨gb304, _, none⟩) NB301_304.out _).trans (hHeld.2.2.1)))), ((cell_far (p := ⟨gb304, _, none⟩) NB301_304.out _).trans (((cell_far (p := ⟨gb304, _, none⟩) NB301_304.out _).trans (hHeld.2.2.2.1)))), ((cell_far (p := ⟨gb304, _, none⟩) NB302_304.out _).trans (((cell_far (p := ⟨gb304, _, none⟩) NB302_304.out _).trans (hHeld.2.2.2.2.1)))), ((cell_far (p := ⟨gb304, _, none⟩) NB302_304.out _).trans (((cell_far (p := ⟨gb304, _, none⟩) NB302_304.out _).trans (hHeld.2.2.2.2.2))))⟩ (fun hHeld => ?_)
    clear hK K
    refine done_ (done_of HT_.out (by kernel_rfl)) ?_
    try go_wp2
    refine bodyPost_ret (results_cc rfl _ _ gb303 gb304 71 71 #[.int .i64 t311, .slice Ao29 t312.length co29] #[.int .i64 t336, .slice Ao81 t337.length co81] (0, 0) (0, 0) _ _ rfl (by (with_reducible repeat (first | refine blk_drewN ?_ _ | refine blk_drew ?_ | refine blk_alloc ?_ _)); refine blk_far ?_ NB303_304.out _; refine blk_far ?_ NB303_304.out _; refine blk_put (cs := #[.int .i64 t311, .slice none 0 0]) ?_ 1 _ rfl; refine blk_put (cs := #[.int .i64 0, .slice none 0 0]) ?_ 0 _ rfl; (with_reducible repeat (first | refine blk_drewN ?_ _ | refine blk_drew ?_ | refine blk_alloc ?_ _)); exact BK303.out) Try.underlying71 rfl (by kernel_rfl) rfl (by (with_reducible repeat (first | refine blk_drewN ?_ _ | refine blk_drew ?_ | refine blk_alloc ?_ _)); refine blk_put (cs := #[.int .i64 t336, .slice none 0 0]) ?_ 1 _ rfl; refine blk_put (cs := #[.int .i64 0, .slice none 0 0]) ?_ 0 _ rfl; refine blk_far ?_ NB304_303.out _; refine blk_far ?_ NB304_303.out _; (with_reducible repeat (first | refine blk_drewN ?_ _ | refine blk_drew ?_ | refine blk_alloc ?_ _)); exact BK304.out) Try.underlying71 rfl (by kernel_rfl)) rfl ?_
    exact ⟨_, _, by first | rfl | (simp [*, errW_none, errW_some] <;> rfl), by (with_reducible repeat (first | apply Kd.R_alloc | apply Kd.R_drewN | apply Kd.R_drew)); exact Kd.R_mono (Kd.R_far (p := ⟨gb304, 1, none⟩) (Kd.R_far (p := ⟨gb304, 0, none⟩) (Kd.R_far (p := ⟨gb303, 1, none⟩) (Kd.R_far (p := ⟨gb303, 0, none⟩) (Kd.R_types (Kd.R_types HO_316001.out BK303.out (by decide)) BK304.out (by decide)) (fun _ hk => hk.1.2) (.int .i64 t311)) (fun _ hk => hk.1.2) (.slice Ao29 t312.length co29)) (fun _ hk => hk.2) (.int .i64 t336)) (fun _ hk => hk.2) (.slice Ao81 t337.length co81)) (fun _ hk => ⟨hk.1.1.1, hk.1.1.2⟩), by (with_reducible repeat (first | apply Kd.R_alloc | apply Kd.R_drewN | apply Kd.R_drew)); exact Kd.R_mono (Kd.R_far (p := ⟨gb304, 1, none⟩) (Kd.R_far (p := ⟨gb304, 0, none⟩) (Kd.R_far (p := ⟨gb303, 1, none⟩) (Kd.R_far (p := ⟨gb303, 0, none⟩) (Kd.R_types (Kd.R_types HO339.out BK303.out (by decide)) BK304.out (by decide)) (fun _ hk => hk.1.2) (.int .i64 t311)) (fun _ hk => hk.1.2) (.slice Ao29 t312.length co29)) (fun _ hk => hk.2) (.int .i64 t336)) (fun _ hk => hk.2) (.slice Ao81 t337.length co81)) (fun _ hk => ⟨hk.1.1.1, hk.1.1.2⟩), by repeat (first | (with_reducible first | exact HB.out | apply below_alloc | apply pw_below_drewN | apply below_drew1 | refine below_set ?_ GE301.out | refine below_set ?_ GE302.out | refine below_set ?_ GE303.out | refine below_set ?_ GE304.out | refine below_set ?_ GE315.out) | exact HB.out), by repeat (first | (with_reducible first | exact HK.out | apply Kept.alloc | apply Kept.drewN | apply Kept.drew | refine Kept.setCell ?_ (.inr GW301.out) _ | refine Kept.setCell ?_ (.inr GW302.out) _ | refine Kept.setCell ?_ (.inr GW303.out) _ | refine Kept.setCell ?_ (.inr GW304.out) _ | refine Kept.setCell ?_ (.inr GW315.out) _) | exact HK.out)⟩
end Go.Proofs.Ytfangodjmppooaa.F
end
section
namespace Go.Proofs.Ytfangodjmppooaa.Whole
open Go RowKit YtfangodjmppooaaW.PrintWords YtfangodjmppooaaW.PrintLast YtfangodjmppooaaW.PrintMore Ytfangodjmppooaa.F Ytfangodjmppooaa.Dig
set_option linter.unusedVariables false
theorem make1_p {s : Int} {n : Nat} : zelligeref04_make1.f s (dig n) = some (if n = 0 then 0 else s, dig n) := by
 unfold zelligeref04_make1.f
 by_cases h : n = 0
 ·subst h; rw [dig_zero, if_pos (by simp), if_pos rfl]
 ·have h1 : (dig n).length ≠ 0 := fun e => h (dig_nil.1 (List.length_eq_zero_iff.1 e))
  rw [if_neg (by omega), if_neg h]
theorem neg_p (n : Int) (l : List Int) : zelligeref04_Neg.f n.sign l = some ((-n).sign, l) := by
 unfold zelligeref04_Neg.f
 rw [Int.sign_neg, w64 (by rw [sign_eq]; omega) (by rw [sign_eq]; omega)]
theorem add_p (n m : Int) (hn : Sm n) (hm : Sm m) {k : Nat} (hk : 50000 ≤ k) : zelligeref04_Add.f k n.sign (dig n.natAbs) m.sign (dig m.natAbs) = some ((n + m).sign, dig (n + m).natAbs) := by
 unfold Sm at hn hm
 unfold zelligeref04_Add.f
 by_cases n0 : n = 0
 ·subst n0; rw [Int.sign_zero, if_pos rfl, Int.zero_add]
 have s0 : n.sign ≠ 0 := fun e => n0 (Int.sign_eq_zero_iff_zero.1 e)
 by_cases m0 : m = 0
 ·subst m0; rw [if_neg s0, Int.sign_zero, if_pos rfl, Int.add_zero]
 have t0 : m.sign ≠ 0 := fun e => m0 (Int.sign_eq_zero_iff_zero.1 e)
 rw [if_neg s0, if_neg t0]
 by_cases st : n.sign = m.sign
 ·rw [if_pos st, add_f n.natAbs m.natAbs (by omega) (by omega) (by omega), Option.bind_some]
  rw [sign_eq, sign_eq] at st
  rw [show n.natAbs + m.natAbs = (n + m).natAbs by omega, show n.sign = (n + m).sign by rw [sign_eq, sign_eq]; omega]
 ·rw [if_neg st, cmp_f n.natAbs m.natAbs (by omega) (by omega), Option.bind_some]
  rw [sign_eq, sign_eq] at st
  by_cases hlt : n.natAbs < m.natAbs
  ·rw [if_pos hlt, if_neg (by decide), sub_f m.natAbs n.natAbs (by omega) (by omega) (by omega), Option.bind_some, make1_p, Option.bind_some]
   rw [show m.natAbs - n.natAbs = (n + m).natAbs by omega, if_neg (by omega), show m.sign = (n + m).sign by rw [sign_eq, sign_eq]; omega]
  ·rw [if_neg hlt, if_pos (by split <;> decide), sub_f n.natAbs m.natAbs (by omega) (by omega) (by omega), Option.bind_some, make1_p, Option.bind_some]
   rw [show n.natAbs - m.natAbs = (n + m).natAbs by omega]
   by_cases he : n.natAbs = m.natAbs
   ·rw [if_pos (by omega), show (n + m).sign = 0 by rw [sign_eq]; omega]
   ·rw [if_neg (by omega), show n.sign = (n + m).sign by rw [sign_eq, sign_eq]; omega]
theorem sub_p (n m : Int) (hn : Sm n) (hm : Sm m) {k : Nat} (hk : 50000 ≤ k) : zelligeref04_Sub.f k n.sign (dig n.natAbs) m.sign (dig m.natAbs) = some ((n - m).sign, dig (n - m).natAbs) := by
 unfold zelligeref04_Sub.f
 have hm' : Sm (-m) := by unfold Sm; rw [Int.natAbs_neg]; exact hm
 have := add_p n (-m) hn hm' hk
 rw [Int.natAbs_neg, ← Int.sub_eq_add_neg] at this
 rw [neg_p, Option.bind_some, this, Option.bind_some]
theorem mul_p (n m : Int) (hn : Sm n) (hm : Sm m) {k : Nat} (hk : 20000001 ≤ k) : zelligeref04_Mul.f k n.sign (dig n.natAbs) m.sign (dig m.natAbs) = some ((n * m).sign, dig (n * m).natAbs) := by
 unfold Sm at hn hm
 have hs : wrap64 (n.sign * m.sign) = (n * m).sign := by
  rw [Int.sign_mul]
  have h1 : -1 ≤ n.sign ∧ n.sign ≤ 1 := by rw [sign_eq]; omega
  have h2 : -1 ≤ m.sign ∧ m.sign ≤ 1 := by rw [sign_eq]; omega
  have h3 : n.sign = -1 ∨ n.sign = 0 ∨ n.sign = 1 := by omega
  rcases h3 with h3 | h3 | h3 <;> rw [h3] <;> exact w64 (by omega) (by omega)
 unfold zelligeref04_Mul.f
 rw [mul_f n.natAbs m.natAbs (by omega) (by omega) (by omega), Option.bind_some, hs, make1_p, Option.bind_some, Int.natAbs_mul]
 by_cases h0 : n.natAbs * m.natAbs = 0
 ·have hz : n * m = 0 := Int.natAbs_eq_zero.1 (by rw [Int.natAbs_mul]; exact h0)
  rw [if_pos h0, hz]; rfl
 ·rw [if_neg h0]
theorem wrap_u {x : Int} : IntKind.u64.wrap x = x % 18446744073709551616 := by rw [IntKind.wrap_u64]
theorem long_p (n : Int) (h : -9223372036854775808 ≤ n ∧ n ≤ 9223372036854775807) {k : Nat} (hk : 21 ≤ k) : zelligeref04_Long.f k n = some (n.sign, dig n.natAbs) := by
 unfold zelligeref04_Long.f
 by_cases h0 : n = 0
 ·subst h0; rw [if_pos rfl, Int.natAbs_zero, dig_zero]; rfl
 ·rw [if_neg h0]
  by_cases h1 : n < 0
  ·have e : IntKind.u64.wrap (-IntKind.u64.wrap n) = -n := by rw [wrap_u, wrap_u]; omega
   rw [if_pos h1, e, of_two _ _ (by omega) (by omega) (by omega) (by omega) (by omega), Option.bind_some, Int.sign_eq_neg_one_of_neg h1, show (-n % 4294967296 + 4294967296 * (-n / 4294967296 % 4294967296)).toNat = n.natAbs by clear e; omega]
  ·have e : IntKind.u64.wrap n = n := by rw [wrap_u]; omega
   rw [if_neg h1, e, of_two _ _ (by omega) (by omega) (by omega) (by omega) (by omega), Option.bind_some, Int.sign_eq_one_of_pos (by omega), show (n % 4294967296 + 4294967296 * (n / 4294967296 % 4294967296)).toNat = n.natAbs by clear e; omega]
theorem sgn_neg {p : Nat} (hp : 0 < p) (q : Nat) : (if q = 0 then 0 else (-(p : Int)).sign) = (-(q : Int)).sign := by
 rw [sign_eq, sign_eq]; split <;> omega
theorem sgn_pos {p q : Nat} (hp : q ≤ p) : (if q = 0 then 0 else ((p : Int)).sign) = ((q : Int)).sign := by
 rw [sign_eq, sign_eq]; split <;> omega
theorem floor_p (n m : Int) (hm : 1 ≤ m ∧ m ≤ 1099511627776) (hn : -1099511627776 ≤ n ∧ n ≤ 1099511627776) : zelligeref04_Floor.f 30000000 n.sign (dig n.natAbs) m.sign (dig m.natAbs) = some ((n / m).sign, dig (n / m).natAbs, (n % m).sign, dig (n % m).natAbs) := by
 have sn : Sm n := Sm.of (by omega) (by omega)
 have sm : Sm m := Sm.of (by omega) (by omega)
 have ln : (dig n.natAbs).length ≤ 3000 := by have := sn; unfold Sm at this; omega
 have lm : (dig m.natAbs).length ≤ 3000 := by have := sm; unfold Sm at this; omega
 have e0 := Int.mul_ediv_add_emod n m
 have e1 := Int.emod_nonneg n (show m ≠ 0 by omega)
 have e2 := Int.emod_lt_of_pos n (show 0 < m by omega)
 have q1 : -1099511627776 ≤ n / m ∧ n / m ≤ 1099511627776 := by
  constructor
  ·exact Int.le_ediv_of_mul_le (by omega) (by omega)
  ·rcases Int.lt_or_le n 0 with h | h
   ·have := Int.ediv_neg_of_neg_of_pos h (show 0 < m by omega); omega
   ·have := Int.ediv_le_self m h; omega
 have hrest : n - n / m * m = n % m := by rw [Int.mul_comm]; omega
 have sq : Sm (n / m) := Sm.of (by omega) (by omega)
 have sqm : Sm (n / m * m) := Sm.of (by omega) (by omega)
 have ms : m.sign = 1 := Int.sign_eq_one_of_pos (by omega)
 have hw : wrap64 (n.sign * m.sign) = n.sign := by rw [ms, Int.mul_one]; exact w64 (by rw [sign_eq]; omega) (by rw [sign_eq]; omega)
 have tail : ∀ q : Int, q = n / m → ((zelligeref04_Mul.f 29999999 q.sign (dig q.natAbs) m.sign (dig m.natAbs)).bind fun bt345 => ((zelligeref04_Sub.f 29999999 n.sign (dig n.natAbs) bt345.1 bt345.2).bind fun bt349 => (some (q.sign, dig q.natAbs, bt349.1, bt349.2)))) =
   some ((n / m).sign, dig (n / m).natAbs, (n % m).sign, dig (n % m).natAbs) := by
  rintro q rfl
  rw [mul_p _ _ sq sm (by omega), Option.bind_some, sub_p _ _ sn sqm (by omega), Option.bind_some, hrest]
 unfold zelligeref04_Floor.f
 rw [divmod_f n.natAbs m.natAbs (by omega) ln lm (by omega), Option.bind_some, hw, make1_p, Option.bind_some]
 by_cases h1 : n < 0
 ·have ns : n.sign = -1 := Int.sign_eq_neg_one_of_neg h1
  obtain ⟨p, rfl⟩ : ∃ p : Nat, n = -(p : Int) := ⟨n.natAbs, by omega⟩
  obtain ⟨c, rfl⟩ : ∃ c : Nat, m = (c : Int) := ⟨m.toNat, by omega⟩
  rw [if_pos (by rw [ns]; decide), Int.natAbs_neg, Int.natAbs_natCast, Int.natAbs_natCast]
  rw [Int.natAbs_neg, Int.natAbs_natCast, Int.natAbs_natCast] at tail
  have d0 := Nat.div_add_mod p c
  have d1 := Nat.mod_lt p (show 0 < c by omega)
  have d0' : (c : Int) * ((p / c : Nat) : Int) + ((p % c : Nat) : Int) = (p : Int) := by rw [← Int.natCast_mul, ← Int.natCast_add, d0]
  by_cases h2 : p % c = 0
  ·have hq : -(p : Int) / (c : Int) = -((p / c : Nat) : Int) := by
    apply Int.ediv_eq_of_eq_mul_left (by omega)
    rw [Int.neg_mul, Int.mul_comm]; omega
   have hs : (if p / c = 0 then 0 else (-(p : Int)).sign) = (-((p / c : Nat) : Int)).sign := sgn_neg (by omega) _
   rw [h2, dig_zero, show (decide ((([] : List Int).length : Int) > 0)) = false from rfl, zelligeref04_Floor.j0, if_neg (by decide), hs]
   have t := tail (-((p / c : Nat) : Int)) hq.symm
   rw [Int.natAbs_neg, Int.natAbs_natCast] at t
   exact t
  ·have hl : (dig (p % c)).length ≠ 0 := fun e => h2 (dig_nil.1 (List.length_eq_zero_iff.1 e))
   have hq : -(p : Int) / (c : Int) = -((p / c : Nat) : Int) - 1 := by
    have u1 : (c : Int) * (-((p / c : Nat) : Int) - 1) = -((c : Int) * ((p / c : Nat) : Int)) - c := by rw [Int.mul_sub, Int.mul_neg, Int.mul_one]
    have := Int.ediv_emod_unique (a := -(p : Int)) (b := (c : Int)) (r := (c : Int) - ((p % c : Nat) : Int)) (q := -((p / c : Nat) : Int) - 1) (by omega)
    exact (this.2 ⟨by omega, by omega, by omega⟩).1
   have hs : (if p / c = 0 then 0 else (-(p : Int)).sign) = (-((p / c : Nat) : Int)).sign := sgn_neg (by omega) _
   have b1 : ((p / c : Nat) : Int) ≤ p := by have := Nat.div_le_self p c; omega
   have hsub := sub_p (-((p / c : Nat) : Int)) 1 (Sm.of (by omega) (by omega)) (Sm.of (by omega) (by omega)) (k := 29999999) (by omega)
   rw [Int.natAbs_neg, Int.natAbs_natCast] at hsub
   rw [decide_eq_true (show ((dig (p % c)).length : Int) > 0 by omega), zelligeref04_Floor.j0, if_pos rfl, long_p 1 (by omega) (by omega), Option.bind_some, hs, hsub, Option.bind_some]
   exact tail _ hq.symm
 ·obtain ⟨p, rfl⟩ : ∃ p : Nat, n = (p : Int) := ⟨n.toNat, by omega⟩
  obtain ⟨c, rfl⟩ : ∃ c : Nat, m = (c : Int) := ⟨m.toNat, by omega⟩
  have hs : (if p / c = 0 then 0 else ((p : Int)).sign) = (((p / c : Nat) : Int)).sign := sgn_pos (Nat.div_le_self p c)
  rw [if_neg (by rw [sign_eq]; omega), Int.natAbs_natCast, Int.natAbs_natCast, zelligeref04_Floor.j0, if_neg (by decide), hs]
  have t := tail ((p / c : Nat) : Int) (Int.natCast_ediv p c)
  rw [Int.natAbs_natCast, Int.natAbs_natCast, Int.natAbs_natCast] at t
  exact t
structure MI (w0 w : World) (P : Nat → Prop) (v : Value) (n : Int) : Prop where
 out : ∃ (u : Value), v = .agg #[.int .i64 n.sign, u] ∧ Kd.R (Kd.int .i64) 3 w w0.heap.size P u (dig n.natAbs)
theorem MI.below {w0 w w' : World} {P : Nat → Prop} {v : Value} {n : Int} (h : MI w0 w P v n) (hb : Below w.heap.size w w') : MI w0 w' P v n := by
 obtain ⟨u, rfl, hR⟩ := h
 exact ⟨u, rfl, Kd.R_below hR hb⟩
theorem long_m (n : Int) (h : -9223372036854775808 ≤ n ∧ n ≤ 9223372036854775807) (w : World) :
  Calls Try.prog 32 #[.int .i64 n] w fun e w' => ∃ v, e = .returned v ∧ MI w w' (fun k => w.heap.size ≤ k ∧ k < w'.heap.size) v n ∧ Below w.heap.size w w' :=
 (zelligeref04_Long.calls 100 n _ _ w (long_p n h (by omega))).mono fun e w' ⟨v, he, hR, hb⟩ => ⟨_, he, ⟨v, rfl, Kd.R_mono (Kd.R_bound hR) (fun k hk => ⟨hk.2.1, hk.2.2.1⟩)⟩, hb⟩
theorem floor_m (n m : Int) (hm : 1 ≤ m ∧ m ≤ 1099511627776) (hn : -1099511627776 ≤ n ∧ n ≤ 1099511627776) (w0 w1 w : World) (v u : Value) (hB : Below w0.heap.size w0 w1) (hB' : Below w1.heap.size w1 w) (h : MI w0 w1 (fun k => w0.heap.size ≤ k ∧ k < w1.heap.size) v n) (h' : MI w1 w (fun k => w1.heap.size ≤ k ∧ k < w.heap.size) u m) :
  Calls Try.prog 31 #[v, u] w fun e w' => ∃ r s, e = .returned (.tuple #[r, s]) ∧ NI w' r (n / m) ∧ NI w' s (n % m) ∧ Below w0.heap.size w0 w' := by
 obtain ⟨a, rfl, ha⟩ := h.below hB'
 obtain ⟨b, rfl, hb⟩ := h'
 obtain ⟨A, c, rfl, hc, hC⟩ := Kd.R_reads hb
 refine (zelligeref04_Floor.calls 30000000 n.sign (fun k => w0.heap.size ≤ k ∧ k < w1.heap.size) a (dig n.natAbs) m.sign A c (dig m.natAbs) _ _ _ _ w0 w (below_then hB hB.size hB') ha ?_ hc (floor_p n m hm hn)).mono ?_
 ·intro W hK
  have hb2 := Kd.R_step hb (w1 := W) (fun k hk hlt => hK.2 k hlt (fun hk2 => by omega))
  exact (Kd.R_reads' hb2).2.2
 ·rintro e w' ⟨v1, v3, he, h1, h3, hbel, _⟩
  have k1 := RV.of_R h1
  have k3 := RV.of_R h3
  obtain ⟨A1, c1, rfl, _, _⟩ := k1.form
  obtain ⟨A3, c3, rfl, _, _⟩ := k3.form
  exact ⟨_, _, he, ⟨A1, _, c1, rfl, k1⟩, ⟨A3, _, c3, rfl, k3⟩, hbel⟩
end Go.Proofs.Ytfangodjmppooaa.Whole
end
section
namespace Go.Proofs.Ytfangodjmppooaa.Whole
open Go RowKit YtfangodjmppooaaW.PrintWords YtfangodjmppooaaW.PrintLast YtfangodjmppooaaW.PrintMore Ytfangodjmppooaa.F Ytfangodjmppooaa.Dig
set_option linter.unusedVariables false
set_option maxHeartbeats 1000000 in
theorem can_no (a b : Int) (ha : (Lit.int .i64 a).wf = true) (ha' : Sm a) (hq : Aside0 (decide (-1099511627776 ≤ a ∧ a ≤ 1099511627776) = false)) (w : World) :
  Calls Try.prog 30 #[.agg #[.int .i64 a, .int .i64 b]] w fun e w' => e = .returned (.bool false) ∧ Below w.heap.size w w' := by
 have HA := Aside0.mk ha
 have HM := Aside0.mk ha'
 clear ha ha'
 go_enter Try.func30, Try.ntmps30
 go_wp2_with fail
 obtain ⟨n0, bw⟩ := one_new w (.cells #[.int .i64 a, .int .i64 b] 23)
 generalize (w.alloc (.cells #[.int .i64 a, .int .i64 b] 23)) = W at n0 bw ⊢
 have Hb := Aside0.mk bw
 have d0 : W.cell? ⟨w.heap.size, 0, none⟩ = some (.int .i64 a) := (blk_cell n0 0).trans rfl
 have d1 : W.cell? ⟨w.heap.size, 1, none⟩ = some (.int .i64 b) := (blk_cell n0 1).trans rfl
 clear n0 bw
 go_wp2_with (first | (go_at_call 32; refine (long_c _ HA.out _).mono ?_; rintro e w1 ⟨v, rfl, hN, hb⟩; have HN := Aside0.mk hN; clear hN; obtain ⟨s1, A1, l1, cc1, rfl⟩ := HN.out.shape; have d0 := pw_cell_below hb d0; have d1 := pw_cell_below hb d1; have Hb := Aside0.mk (bthen hb Hb.out); clear hb) | (go_at_call 38; refine (in_c _ a HM.out _ HN.out).mono ?_; rw [hq.out]; rintro e w1 ⟨rfl, hb⟩; have d0 := pw_cell_below hb d0; have d1 := pw_cell_below hb d1; have Hb := Aside0.mk (bthen hb Hb.out); clear hb))
 go_ret
 exact ⟨rfl, Hb.out⟩
set_option maxHeartbeats 1000000 in
theorem can_yes (a b : Int) (ha : (Lit.int .i64 a).wf = true) (ha' : Sm a) (hb' : (Lit.int .i64 b).wf = true) (hb2 : Sm b) (hq : Aside0 (decide (-1099511627776 ≤ a ∧ a ≤ 1099511627776) = true)) (r : Bool) (hr : Aside0 (decide (-1099511627776 ≤ b ∧ b ≤ 1099511627776) = r)) (w : World) :
  Calls Try.prog 30 #[.agg #[.int .i64 a, .int .i64 b]] w fun e w' => e = .returned (.bool r) ∧ Below w.heap.size w w' := by
 have HA := Aside0.mk ha
 have HM := Aside0.mk ha'
 have HA2 := Aside0.mk hb'
 have HM2 := Aside0.mk hb2
 clear ha ha' hb' hb2
 go_enter Try.func30, Try.ntmps30
 go_wp2_with fail
 obtain ⟨n0, bw⟩ := one_new w (.cells #[.int .i64 a, .int .i64 b] 23)
 generalize (w.alloc (.cells #[.int .i64 a, .int .i64 b] 23)) = W at n0 bw ⊢
 have Hb := Aside0.mk bw
 have d0 : W.cell? ⟨w.heap.size, 0, none⟩ = some (.int .i64 a) := (blk_cell n0 0).trans rfl
 have d1 : W.cell? ⟨w.heap.size, 1, none⟩ = some (.int .i64 b) := (blk_cell n0 1).trans rfl
 clear n0 bw
 go_wp2_with fail
 refine (long_c _ HA.out _).mono ?_
 rintro e w1 ⟨v, rfl, hN, hb⟩
 have HN := Aside0.mk hN; clear hN; obtain ⟨s1, A1, l1, cc1, rfl⟩ := HN.out.shape
 have d0 := pw_cell_below hb d0; have d1 := pw_cell_below hb d1; have Hb := Aside0.mk (bthen hb Hb.out); clear hb
 go_wp2_with fail
 refine (in_c _ a HM.out _ HN.out).mono ?_
 rw [hq.out]
 rintro e w2 ⟨rfl, hb⟩
 have d0 := pw_cell_below hb d0; have d1 := pw_cell_below hb d1; have Hb := Aside0.mk (bthen hb Hb.out); clear hb
 go_wp2_with fail
 refine (long_c _ HA2.out _).mono ?_
 rintro e w3 ⟨v, rfl, hN, hb⟩
 have HN := Aside0.mk hN; clear hN; obtain ⟨s2, A2, l2, cc2, rfl⟩ := HN.out.shape
 have d0 := pw_cell_below hb d0; have d1 := pw_cell_below hb d1; have Hb := Aside0.mk (bthen hb Hb.out); clear hb
 go_wp2_with fail
 refine (in_c _ b HM2.out _ HN.out).mono ?_
 rw [hr.out]
 rintro e w4 ⟨rfl, hb⟩
 have Hb := Aside0.mk (bthen hb Hb.out); clear hb
 go_wp2
 go_ret
 exact ⟨rfl, Hb.out⟩
theorem Sm.i64 {n : Int} (h : -9223372036854775808 ≤ n ∧ n ≤ 9223372036854775807) : Sm n := Sm.of (by omega) (by omega)
theorem wf_of {n : Int} (h : -9223372036854775808 ≤ n ∧ n ≤ 9223372036854775807) : (Lit.int .i64 n).wf = true := WalkArith.wf_i64 (by omega)
end Go.Proofs.Ytfangodjmppooaa.Whole
namespace Go.Proofs.Ytfangodjmppooaa.F
open Go RowKit YtfangodjmppooaaW.PrintWords YtfangodjmppooaaW.PrintLast YtfangodjmppooaaW.PrintMore Ytfangodjmppooaa.Whole
abbrev I64 (n : Int) : Prop := -9223372036854775808 ≤ n ∧ n ≤ 9223372036854775807
abbrev InC (n : Int) : Prop := -1099511627776 ≤ n ∧ n ≤ 1099511627776
def zelligeref06_Can.f (a0_0 : Int) (a0_1 : Int) : Option Bool := if I64 a0_0 ∧ I64 a0_1 then some (decide (InC a0_0 ∧ InC a0_1)) else none
theorem zelligeref06_Can.calls (a0_0 : Int) (a0_1 : Int) (r : Bool) (w : World) (h : zelligeref06_Can.f a0_0 a0_1 = some r) :
  Calls Try.prog 30 #[.agg #[.int .i64 a0_0, .int .i64 a0_1]] w fun e w' => e = .returned (.bool r) ∧ Below w.heap.size w w' := by
 unfold zelligeref06_Can.f at h
 by_cases hb : I64 a0_0 ∧ I64 a0_1
 ·rw [if_pos hb] at h
  obtain rfl := Option.some.inj h
  by_cases h1 : InC a0_0
  ·refine can_yes a0_0 a0_1 (wf_of hb.1) (Sm.i64 hb.1) (wf_of hb.2) (Sm.i64 hb.2) ⟨decide_eq_true h1⟩ _ ⟨?_⟩ w
   rw [decide_eq_decide]
   exact ⟨fun h => ⟨h1, h⟩, fun h => h.2⟩
  ·rw [show decide (InC a0_0 ∧ InC a0_1) = false from decide_eq_false (fun h => h1 h.1)]
   exact can_no a0_0 a0_1 (wf_of hb.1) (Sm.i64 hb.1) ⟨decide_eq_false h1⟩ w
 ·rw [if_neg hb] at h
  cases h
end Go.Proofs.Ytfangodjmppooaa.F
end
section
namespace Go.Proofs.Ytfangodjmppooaa.F
open RowKit YtfangodjmppooaaW.PrintWords YtfangodjmppooaaW.PrintLast YtfangodjmppooaaW.PrintMore
set_option linter.unusedVariables false
set_option linter.unusedSimpArgs false
def zelligeref06_Torus.f (a0 : Int) : Option (Bool) := if a0 ≥ 1 then (some (decide (a0 ≤ 1099511627776))) else (some false)
set_option maxHeartbeats 8000000 in
set_option maxRecDepth 100000 in
theorem zelligeref06_Torus.calls (a0 : Int) (r : Bool) (w : World) (h : zelligeref06_Torus.f a0 = some r) :
  Calls Try.prog 29 #[.int .i64 a0] w fun e w' => e = .returned (.bool r) ∧ Drawn0 w w' := by
 have H : (if a0 ≥ 1 then (some (decide (a0 ≤ 1099511627776))) else (some false)) = some r := h
 clear h
 by_cases c2 : a0 ≥ 1
 ·rw [if_pos c2] at H
  have c2b0 : decide (1 ≤ a0) = true := decide_eq_true c2
  clear c2
  obtain rfl := Option.some.inj H
  go_enter Try.func29, Try.ntmps29
  go_wp2
  go_ret
  exact ⟨by first | rfl | (simp; done) | (simp [*]; done), by repeat (first | exact Drawn0.refl _ | apply Drawn0.step)⟩
 ·rw [if_neg c2] at H
  have c2b0 : decide (1 ≤ a0) = false := decide_eq_false c2
  clear c2
  obtain rfl := Option.some.inj H
  go_enter Try.func29, Try.ntmps29
  go_wp2
  go_ret
  exact ⟨by first | rfl | (simp; done) | (simp [*]; done), by repeat (first | exact Drawn0.refl _ | apply Drawn0.step)⟩
end Go.Proofs.Ytfangodjmppooaa.F
end
