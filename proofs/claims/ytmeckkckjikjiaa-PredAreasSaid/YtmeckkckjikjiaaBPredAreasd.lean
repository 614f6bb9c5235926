/- PredAreas: own texts in one (part 4 of 5): contracts of the functions that the law reaches. -/
import Derived.Test.YtmeckkckjikjiaaBPredAreasc

section
namespace Go.Proofs.Ytmeckkckjikjiaa.F
open RowKit YtmeckkckjikjiaaW.PrintWords YtmeckkckjikjiaaW.PrintLast YtmeckkckjikjiaaW.PrintMore
set_option linter.unusedVariables false
set_option linter.unusedSimpArgs false
def pred_InCircle.f (k : Nat) (a0_0 : Int) (a0_1 : Int) (a1_0 : Int) (a1_1 : Int) (a2_0 : Int) (a2_1 : Int) (a3_0 : Int) (a3_1 : Int) : Option (Int) := (pred_can.f k (([(⟨a0_0, a0_1⟩ : S23), (⟨a1_0, a1_1⟩ : S23), (⟨a2_0, a2_1⟩ : S23), (⟨a3_0, a3_1⟩ : S23)] : List (S23)))).bind fun t164 => (if t164 = true then ((pred_way.f a3_0 a3_1 a0_0 a0_1).bind fun bt165 => ((pred_way.f a3_0 a3_1 a1_0 a1_1).bind fun bt167 => ((pred_way.f a3_0 a3_1 a2_0 a2_1).bind fun bt169 => ((pred_square.f bt165.1 bt165.2).bind fun bt174 => ((pred_across.f bt167.1 bt167.2 bt169.1 bt169.2).bind fun bt176 => ((quad_Mul.f bt174.1 bt174.2 bt176.1 bt176.2).bind fun bt178 => ((pred_square.f bt167.1 bt167.2).bind fun bt183 => ((pred_across.f bt169.1 bt169.2 bt165.1 bt165.2).bind fun bt185 => ((quad_Mul.f bt183.1 bt183.2 bt185.1 bt185.2).bind fun bt187 => ((quad_Add.f bt178.1 bt178.2.1 bt178.2.2.1 bt178.2.2.2 bt187.1 bt187.2.1 bt187.2.2.1 bt187.2.2.2).bind fun bt191 => ((pred_square.f bt169.1 bt169.2).bind fun bt195 => ((pred_across.f bt165.1 bt165.2 bt167.1 bt167.2).bind fun bt197 => ((quad_Mul.f bt195.1 bt195.2 bt197.1 bt197.2).bind fun bt199 => ((quad_Add.f bt191.1 bt191.2.1 bt191.2.2.1 bt191.2.2.2 bt199.1 bt199.2.1 bt199.2.2.1 bt199.2.2.2).bind fun bt203 => ((quad_Sign.f bt203.1 bt203.2.1 bt203.2.2.1 bt203.2.2.2).bind fun t207 => (some t207)))))))))))))))) else (some 0))
theorem pred_InCircle.mono : ∀ a0 a1 a2 a3 a4 a5 a6 a7 k, LeO (pred_InCircle.f k a0 a1 a2 a3 a4 a5 a6 a7) (pred_InCircle.f (k + 1) a0 a1 a2 a3 a4 a5 a6 a7) := by
 intro a0 a1 a2 a3 a4 a5 a6 a7 k
 unfold pred_InCircle.f
 repeat' first
   | (with_reducible exact pred_can.mono _ _)
   | (with_reducible exact LeO.refl _)
   | (with_reducible exact LeO.none _)
   | (with_reducible refine LeO.ite ?_ ?_)
   | (with_reducible refine LeO.bind ?_ (fun _ => ?_))
   | exact pred_can.mono _ _
   | exact LeO.none _
   | refine LeO.ite ?_ ?_
   | refine LeO.bind ?_ (fun _ => ?_)
def pred_InCircle.T3 : Bool × List (List Nat × List Nat) := (true, [([], []), ([], []), ([0, 1], [0, 1]), ([], []), ([], []), ([3, 4, 2], [3, 4]), ([], []), ([], []), ([6, 7, 5], [6, 7]), ([], []), ([], []), ([], []), ([9, 2, 8, 0, 1, 2, 9, 10, 11], [2, 9]), ([10, 5, 12, 0, 1, 2, 3, 4, 5, 9, 10, 11, 12], [5, 10]), ([11, 8, 13, 0, 1, 2, 3, 4, 5, 6, 7, 8, 9, 10, 11, 12, 13], [8, 11])])
def pred_InCircle.B3 : List Nat := [0, 0, 3, 0, 0, 31, 0, 0, 255, 0, 0, 0, 4095, 8191, 16383]
theorem pred_InCircle.tab3 : rtab .any (opsOf Try.f8 3) = pred_InCircle.T3 := by kernel_rfl
theorem pred_InCircle.bits3 : waitsOk pred_InCircle.T3.2 pred_InCircle.B3 = true := by kernel_rfl
def pred_InCircle.T4 : Bool × List (List Nat × List Nat) := (true, [([], []), ([0], [0]), ([], []), ([], []), ([2, 3, 1], [2, 3]), ([1, 4, 4], [1, 4]), ([], []), ([6, 5, 5, 0, 1, 2, 3, 4, 5, 6], [5, 6])])
def pred_InCircle.B4 : List Nat := [0, 1, 0, 0, 15, 31, 0, 127]
theorem pred_InCircle.tab4 : rtab .any (opsOf Try.f8 4) = pred_InCircle.T4 := by kernel_rfl
theorem pred_InCircle.bits4 : waitsOk pred_InCircle.T4.2 pred_InCircle.B4 = true := by kernel_rfl
def pred_InCircle.T5 : Bool × List (List Nat × List Nat) := (true, [([], []), ([], []), ([1], [1]), ([], []), ([], []), ([3, 4, 2], [3, 4]), ([2, 5, 5], [2, 5]), ([0, 6, 6], [0, 6]), ([7, 7, 0, 1, 2, 3, 4, 5, 6, 7], [7])])
def pred_InCircle.B5 : List Nat := [0, 0, 2, 0, 0, 30, 62, 127, 255]
theorem pred_InCircle.tab5 : rtab .any (opsOf Try.f8 5) = pred_InCircle.T5 := by kernel_rfl
theorem pred_InCircle.bits5 : waitsOk pred_InCircle.T5.2 pred_InCircle.B5 = true := by kernel_rfl
def pred_InCircle.T6 : Bool × List (List Nat × List Nat) := (true, [([], []), ([], []), ([1], [1]), ([], []), ([], []), ([3, 4, 2], [3, 4]), ([2, 5, 5], [2, 5]), ([0, 6, 6], [0, 6]), ([7, 7, 0, 1, 2, 3, 4, 5, 6, 7], [7])])
def pred_InCircle.B6 : List Nat := [0, 0, 2, 0, 0, 30, 62, 127, 255]
theorem pred_InCircle.tab6 : rtab .any (opsOf Try.f8 6) = pred_InCircle.T6 := by kernel_rfl
theorem pred_InCircle.bits6 : waitsOk pred_InCircle.T6.2 pred_InCircle.B6 = true := by kernel_rfl
set_option maxHeartbeats 8000000 in
set_option maxRecDepth 100000 in
theorem pred_InCircle.calls (k : Nat) (a0_0 : Int) (a0_1 : Int) (a1_0 : Int) (a1_1 : Int) (a2_0 : Int) (a2_1 : Int) (a3_0 : Int) (a3_1 : Int) (r : Int) (w : World) (h : pred_InCircle.f k a0_0 a0_1 a1_0 a1_1 a2_0 a2_1 a3_0 a3_1 = some r) :
  Calls Try.prog 8 #[.agg #[.int .i64 a0_0, .int .i64 a0_1], .agg #[.int .i64 a1_0, .int .i64 a1_1], .agg #[.int .i64 a2_0, .int .i64 a2_1], .agg #[.int .i64 a3_0, .int .i64 a3_1]] w fun e w' => e = .returned (.int .i64 r) ∧ Below w.heap.size w w' := by
 have hu23 := Try.underlying23
 have hu50 := Try.underlying50
 have HB := Aside0.mk (Below.refl w.heap.size w)
 have H : ((pred_can.f k (([(⟨a0_0, a0_1⟩ : S23), (⟨a1_0, a1_1⟩ : S23), (⟨a2_0, a2_1⟩ : S23), (⟨a3_0, a3_1⟩ : S23)] : List (S23)))).bind fun t164 => (if t164 = true then ((pred_way.f a3_0 a3_1 a0_0 a0_1).bind fun bt165 => ((pred_way.f a3_0 a3_1 a1_0 a1_1).bind fun bt167 => ((pred_way.f a3_0 a3_1 a2_0 a2_1).bind fun bt169 => ((pred_square.f bt165.1 bt165.2).bind fun bt174 => ((pred_across.f bt167.1 bt167.2 bt169.1 bt169.2).bind fun bt176 => ((quad_Mul.f bt174.1 bt174.2 bt176.1 bt176.2).bind fun bt178 => ((pred_square.f bt167.1 bt167.2).bind fun bt183 => ((pred_across.f bt169.1 bt169.2 bt165.1 bt165.2).bind fun bt185 => ((quad_Mul.f bt183.1 bt183.2 bt185.1 bt185.2).bind fun bt187 => ((quad_Add.f bt178.1 bt178.2.1 bt178.2.2.1 bt178.2.2.2 bt187.1 bt187.2.1 bt187.2.2.1 bt187.2.2.2).bind fun bt191 => ((pred_square.f bt169.1 bt169.2).bind fun bt195 => ((pred_across.f bt165.1 bt165.2 bt167.1 bt167.2).bind fun bt197 => ((quad_Mul.f bt195.1 bt195.2 bt197.1 bt197.2).bind fun bt199 => ((quad_Add.f bt191.1 bt191.2.1 bt191.2.2.1 bt191.2.2.2 bt199.1 bt199.2.1 bt199.2.2.1 bt199.2.2.2).bind fun bt203 => ((quad_Sign.f bt203.1 bt203.2.1 bt203.2.2.1 bt203.2.2.2).bind fun t207 => (some t207)))))))))))))))) else (some 0))) = some r := h
 clear h
 obtain ⟨y161, hy161⟩ : ∃ y_ : List (S23), y_ = (([(⟨a0_0, a0_1⟩ : S23), (⟨a1_0, a1_1⟩ : S23), (⟨a2_0, a2_1⟩ : S23), (⟨a3_0, a3_1⟩ : S23)] : List (S23))) := ⟨_, rfl⟩
 replace H : ((pred_can.f k y161).bind fun t164 => (if t164 = true then ((pred_way.f a3_0 a3_1 a0_0 a0_1).bind fun bt165 => ((pred_way.f a3_0 a3_1 a1_0 a1_1).bind fun bt167 => ((pred_way.f a3_0 a3_1 a2_0 a2_1).bind fun bt169 => ((pred_square.f bt165.1 bt165.2).bind fun bt174 => ((pred_across.f bt167.1 bt167.2 bt169.1 bt169.2).bind fun bt176 => ((quad_Mul.f bt174.1 bt174.2 bt176.1 bt176.2).bind fun bt178 => ((pred_square.f bt167.1 bt167.2).bind fun bt183 => ((pred_across.f bt169.1 bt169.2 bt165.1 bt165.2).bind fun bt185 => ((quad_Mul.f bt183.1 bt183.2 bt185.1 bt185.2).bind fun bt187 => ((quad_Add.f bt178.1 bt178.2.1 bt178.2.2.1 bt178.2.2.2 bt187.1 bt187.2.1 bt187.2.2.1 bt187.2.2.2).bind fun bt191 => ((pred_square.f bt169.1 bt169.2).bind fun bt195 => ((pred_across.f bt165.1 bt165.2 bt167.1 bt167.2).bind fun bt197 => ((quad_Mul.f bt195.1 bt195.2 bt197.1 bt197.2).bind fun bt199 => ((quad_Add.f bt191.1 bt191.2.1 bt191.2.2.1 bt191.2.2.2 bt199.1 bt199.2.1 bt199.2.2.1 bt199.2.2.2).bind fun bt203 => ((quad_Sign.f bt203.1 bt203.2.1 bt203.2.2.1 bt203.2.2.2).bind fun t207 => (some t207)))))))))))))))) else (some 0))) = some r := by first | (rw [hy161]; with_reducible exact H) | (have H2_ := (Option.bind_some _ _).symm.trans H; rw [hy161]; with_reducible exact H2_) | (have H2_ := (Option.bind_some _ _).symm.trans H; with_reducible exact H2_) | with_reducible exact H | (rw [hy161]; exact H) | exact H
 have Ny161 := Aside0.mk hy161
 clear hy161
 replace H := Option.bind_eq_some_iff.mp H
 obtain ⟨t164, A50, H⟩ := H
 try dsimp only at H
 have A5 := Aside0.mk A50
 clear A50
 by_cases c6 : t164 = true
 ·subst c6
  rw [if_pos rfl] at H
  replace H := Option.bind_eq_some_iff.mp H
  obtain ⟨⟨t165, t166⟩, A70, H⟩ := H
  try dsimp only at H
  have A7 := Aside0.mk A70
  clear A70
  replace H := Option.bind_eq_some_iff.mp H
  obtain ⟨⟨t167, t168⟩, A80, H⟩ := H
  try dsimp only at H
  have A8 := Aside0.mk A80
  clear A80
  replace H := Option.bind_eq_some_iff.mp H
  obtain ⟨⟨t169, t170⟩, A90, H⟩ := H
  try dsimp only at H
  have A9 := Aside0.mk A90
  clear A90
  replace H := Option.bind_eq_some_iff.mp H
  obtain ⟨⟨t174, t175⟩, A100, H⟩ := H
  try dsimp only at H
  have A10 := Aside0.mk A100
  clear A100
  replace H := Option.bind_eq_some_iff.mp H
  obtain ⟨⟨t176, t177⟩, A110, H⟩ := H
  try dsimp only at H
  have A11 := Aside0.mk A110
  clear A110
  replace H := Option.bind_eq_some_iff.mp H
  obtain ⟨⟨t178, t179, t180, t181⟩, A120, H⟩ := H
  try dsimp only at H
  have A12 := Aside0.mk A120
  clear A120
  replace H := Option.bind_eq_some_iff.mp H
  obtain ⟨⟨t183, t184⟩, A130, H⟩ := H
  try dsimp only at H
  have A13 := Aside0.mk A130
  clear A130
  replace H := Option.bind_eq_some_iff.mp H
  obtain ⟨⟨t185, t186⟩, A140, H⟩ := H
  try dsimp only at H
  have A14 := Aside0.mk A140
  clear A140
  replace H := Option.bind_eq_some_iff.mp H
  obtain ⟨⟨t187, t188, t189, t190⟩, A150, H⟩ := H
  try dsimp only at H
  have A15 := Aside0.mk A150
  clear A150
  replace H := Option.bind_eq_some_iff.mp H
  obtain ⟨⟨t191, t192, t193, t194⟩, A160, H⟩ := H
  try dsimp only at H
  have A16 := Aside0.mk A160
  clear A160
  replace H := Option.bind_eq_some_iff.mp H
  obtain ⟨⟨t195, t196⟩, A170, H⟩ := H
  try dsimp only at H
  have A17 := Aside0.mk A170
  clear A170
  replace H := Option.bind_eq_some_iff.mp H
  obtain ⟨⟨t197, t198⟩, A180, H⟩ := H
  try dsimp only at H
  have A18 := Aside0.mk A180
  clear A180
  replace H := Option.bind_eq_some_iff.mp H
  obtain ⟨⟨t199, t200, t201, t202⟩, A190, H⟩ := H
  try dsimp only at H
  have A19 := Aside0.mk A190
  clear A190
  replace H := Option.bind_eq_some_iff.mp H
  obtain ⟨⟨t203, t204, t205, t206⟩, A200, H⟩ := H
  try dsimp only at H
  have A20 := Aside0.mk A200
  clear A200
  replace H := Option.bind_eq_some_iff.mp H
  obtain ⟨t207, A210, H⟩ := H
  try dsimp only at H
  have A21 := Aside0.mk A210
  clear A210
  obtain rfl := Option.some.inj H
  go_enter Try.func8, Try.ntmps8
  try go_wp2_with (first | ((with_reducible refine gate_dst (N := 4) rfl ?_); refine bx 4 #[.int .i64 a0_0, .int .i64 a0_1] 23 ?_; intro gb157 hg w22 hbox hb; have BK157 := Aside0.mk hbox; have GW157 := u3 hg HB; have GE157 := u3 hg HB; replace HB := u2 HB hb; clear hb hbox hg) | ((with_reducible refine gate_dst (N := 5) rfl ?_); refine bx 5 #[.int .i64 a1_0, .int .i64 a1_1] 23 ?_; intro gb158 hg w23 hbox hb; have BK158 := Aside0.mk hbox; have GW158 := u3 hg HB; have GE158 := u3 hg HB; have NB157_158 := u4 hg BK157; have NB158_157 := u5 hg BK157; replace BK157 := u1 BK157 hb; replace HB := u2 HB hb; clear hb hbox hg) | ((with_reducible refine gate_dst (N := 6) rfl ?_); refine bx 6 #[.int .i64 a2_0, .int .i64 a2_1] 23 ?_; intro gb159 hg w24 hbox hb; have BK159 := Aside0.mk hbox; have GW159 := u3 hg HB; have GE159 := u3 hg HB; have NB157_159 := u4 hg BK157; have NB159_157 := u5 hg BK157; have NB158_159 := u4 hg BK158; have NB159_158 := u5 hg BK158; replace BK157 := u1 BK157 hb; replace BK158 := u1 BK158 hb; replace HB := u2 HB hb; clear hb hbox hg) | ((with_reducible refine gate_dst (N := 7) rfl ?_); refine bx 7 #[.int .i64 a3_0, .int .i64 a3_1] 23 ?_; intro gb160 hg w25 hbox hb; have BK160 := Aside0.mk hbox; have GW160 := u3 hg HB; have GE160 := u3 hg HB; have NB157_160 := u4 hg BK157; have NB160_157 := u5 hg BK157; have NB158_160 := u4 hg BK158; have NB160_158 := u5 hg BK158; have NB159_160 := u4 hg BK159; have NB160_159 := u5 hg BK159; replace BK157 := u1 BK157 hb; replace BK158 := u1 BK158 hb; replace BK159 := u1 BK159 hb; replace HB := u2 HB hb; clear hb hbox hg; have hnb26 := NB157_158.out; have hnc26 := NB158_157.out; have hnb27 := NB157_159.out; have hnc27 := NB159_157.out; have hnb28 := NB157_160.out; have hnc28 := NB160_157.out; obtain ⟨_, _, _, _⟩ := p2 BK157; have hnb30 := NB158_159.out; have hnc30 := NB159_158.out; have hnb31 := NB158_160.out; have hnc31 := NB160_158.out; obtain ⟨_, _, _, _⟩ := p2 BK158; have hnb33 := NB159_160.out; have hnc33 := NB160_159.out; obtain ⟨_, _, _, _⟩ := p2 BK159; obtain ⟨_, _, _, _⟩ := p2 BK160) | ((with_reducible refine gate_dst (N := 17) rfl ?_); refine Kd.R_lit k23 _ 23 ?hg (N := 17) ?hd (xs := ([(⟨a0_0, a0_1⟩ : S23), (⟨a1_0, a1_1⟩ : S23), (⟨a2_0, a2_1⟩ : S23), (⟨a3_0, a3_1⟩ : S23)] : List (S23))) (inner := [.int .i64 a0_0, .int .i64 a0_1, .int .i64 a1_0, .int .i64 a1_1, .int .i64 a2_0, .int .i64 a2_1, .int .i64 a3_0, .int .i64 a3_1]) (ok := fun _ => True) (okp := fun _ => True) ?hr ?hp (fun _ hk => hk) trivial (Below.refl _ _) (Nat.le_refl _) (by simp) ?_; (case hd => rfl); (case hg => rfl); (case hr => first | (go_simp; done) | (go_simp; rfl)); (case hp => exact (Reps.c2 (show Kd.M k23 _ _ _ (⟨a0_0, a0_1⟩ : S23) [.int .i64 a0_0, .int .i64 a0_1] from (k23_mkM _ _ _ (⟨a0_0, a0_1⟩ : S23) )) (Reps.c2 (show Kd.M k23 _ _ _ (⟨a1_0, a1_1⟩ : S23) [.int .i64 a1_0, .int .i64 a1_1] from (k23_mkM _ _ _ (⟨a1_0, a1_1⟩ : S23) )) (Reps.c2 (show Kd.M k23 _ _ _ (⟨a2_0, a2_1⟩ : S23) [.int .i64 a2_0, .int .i64 a2_1] from (k23_mkM _ _ _ (⟨a2_0, a2_1⟩ : S23) )) (Reps.c2 (show Kd.M k23 _ _ _ (⟨a3_0, a3_1⟩ : S23) [.int .i64 a3_0, .int .i64 a3_1] from (k23_mkM _ _ _ (⟨a3_0, a3_1⟩ : S23) )) (Reps.none _ _)))))); intro v162 w36 ho37 hb hg_ hnew_; clear hg_ hnew_; (first | rw [← Ny161.out] at ho37 | (simp only [Int.reduceToNat] at ho37; rw [← Ny161.out] at ho37)); have n0_ := Aside0.mk (Kd.R_lower (Kd.R_newB (Kd.R_newB (Kd.R_newB (Kd.R_newB ho37 (bk BK157.out)) (bk BK158.out)) (bk BK159.out)) (bk BK160.out)) (below_size (bw HB.out))); have n1_ := u1 BK157 hb; have n2_ := u1 BK158 hb; have n3_ := u1 BK159 hb; have n4_ := u1 BK160 hb; have n5_ := u2 HB hb; clear BK157; clear BK158; clear BK159; clear BK160; clear HB; have HO163 := n0_; have BK157 := n1_; have BK158 := n2_; have BK159 := n3_; have BK160 := n4_; have HB := n5_; clear n0_ n1_ n2_ n3_ n4_ n5_; clear hb ho37; obtain ⟨Ao38, co38, eo38⟩ := Kd.R_slice HO163.out; subst eo38) | ((with_reducible refine gate_callee (f := 23) rfl ?_); refine gL (some 18) Try.func23 #[.slice Ao38 y161.length co38] rfl ?_; (with_reducible refine (pred_can.calls k _ _ y161 true _ ?side1 ?side2 A5.out).mono ?_); (case side1 => repeat (first | exact (Kd.R_reads' HO163.out).2.2 | (with_reducible refine Kd.C_alloc ?_ _) | (with_reducible refine Kd.C_drewN ?_ _) | (with_reducible refine Kd.C_drew ?_))); (case side2 => exact (Kd.R_reads' HO163.out).2.1); rintro e w39 ⟨rfl, hb⟩; refine ⟨_, rfl, ?_⟩; have n0_ := Aside0.mk (Kd.R_below (by (with_reducible repeat (first | apply Kd.R_alloc | apply Kd.R_drewN | apply Kd.R_drew)); exact HO163.out) hb); have n1_ := u1 BK157 hb; have n2_ := u1 BK158 hb; have n3_ := u1 BK159 hb; have n4_ := u1 BK160 hb; have n5_ := u2 HB hb; clear HO163; clear BK157; clear BK158; clear BK159; clear BK160; clear HB; have HO163 := n0_; have BK157 := n1_; have BK158 := n2_; have BK159 := n3_; have BK160 := n4_; have HB := n5_; clear n0_ n1_ n2_ n3_ n4_ n5_; clear hb))
  have n0_ := Aside0.mk (blk_drew BK157.out)
  have n1_ := Aside0.mk (blk_drew BK158.out)
  have n2_ := Aside0.mk (blk_drew BK159.out)
  have n3_ := Aside0.mk (blk_drew BK160.out)
  have n4_ := Aside0.mk (below_drew1 HB.out)
  clear BK157
  clear BK158
  clear BK159
  clear BK160
  clear HB
  have BK157 := n0_
  have BK158 := n1_
  have BK159 := n2_
  have BK160 := n3_
  have HB := n4_
  clear n0_ n1_ n2_ n3_ n4_
  refine start_ (n := 15) (S := fun w' => True) (ds := []) #[F_,F_,F_,F_,F_,F_,F_,F_,F_,F_,F_,F_,F_,F_,F_] (by kernel_rfl) rfl rfl trivial (fun hHeld => ?_); refine with_tabW pred_InCircle.tab3 pred_InCircle.bits3 (fun HT_ HW_ => ?_)
  generalize w39.drew = w40 at BK157 BK158 BK159 BK160 HB hHeld ⊢
  refine inv_at [0, 1, 2, 3, 4, 5, 6, 7, 8, 9, 10, 11, 12, 13, 14] (fun a0_ b a w' => ∃ (gb171 : Nat) (gb172 : Nat) (gb173 : Nat) (m9_ : Value) (m10_ : Value) (m11_ : Value), a = putSel a0_ b [(0, 20, .agg #[.int .i64 a3_0, .int .i64 a3_1]), (1, 21, .agg #[.int .i64 a0_0, .int .i64 a0_1]), (2, 22, .agg #[.int .i64 t165, .int .i64 t166]), (3, 23, .agg #[.int .i64 a3_0, .int .i64 a3_1]), (4, 24, .agg #[.int .i64 a1_0, .int .i64 a1_1]), (5, 25, .agg #[.int .i64 t167, .int .i64 t168]), (6, 26, .agg #[.int .i64 a3_0, .int .i64 a3_1]), (7, 27, .agg #[.int .i64 a2_0, .int .i64 a2_1]), (8, 28, .agg #[.int .i64 t169, .int .i64 t170]), (9, 9, m9_), (10, 10, m10_), (11, 11, m11_)] ∧ (w'.heap[gb157]? = some (.cells #[.int .i64 a0_0, .int .i64 a0_1] 23 (0, 0))) ∧ (w'.heap[gb158]? = some (.cells #[.int .i64 a1_0, .int .i64 a1_1] 23 (0, 0))) ∧ (w'.heap[gb159]? = some (.cells #[.int .i64 a2_0, .int .i64 a2_1] 23 (0, 0))) ∧ (w'.heap[gb160]? = some (.cells #[.int .i64 a3_0, .int .i64 a3_1] 23 (0, 0))) ∧ (Below w.heap.size w w') ∧ (b 9 = true → b 10 = true → gb172 ≠ gb171) ∧ (b 9 = true → b 10 = true → gb171 ≠ gb172) ∧ (b 9 = true → b 11 = true → gb173 ≠ gb171) ∧ (b 9 = true → b 11 = true → gb171 ≠ gb173) ∧ (b 10 = true → b 11 = true → gb173 ≠ gb172) ∧ (b 10 = true → b 11 = true → gb172 ≠ gb173) ∧ (b 9 = true → b 12 = false → w'.heap[gb171]? = some (.cells #[.int .i64 0, .int .i64 0] 23 (0, 0))) ∧ (b 9 = true → w.heap.size ≤ gb171) ∧ (b 9 = true → w.heap.size ≤ gb171) ∧ (b 9 = true → gb157 ≠ gb171) ∧ (b 9 = true → gb171 ≠ gb157) ∧ (b 9 = true → gb158 ≠ gb171) ∧ (b 9 = true → gb171 ≠ gb158) ∧ (b 9 = true → gb159 ≠ gb171) ∧ (b 9 = true → gb171 ≠ gb159) ∧ (b 9 = true → gb160 ≠ gb171) ∧ (b 9 = true → gb171 ≠ gb160) ∧ (b 10 = true → b 13 = false → w'.heap[gb172]? = some (.cells #[.int .i64 0, .int .i64 0] 23 (0, 0))) ∧ (b 10 = true → w.heap.size ≤ gb172) ∧ (b 10 = true → w.heap.size ≤ gb172) ∧ (b 10 = true → gb157 ≠ gb172) ∧ (b 10 = true → gb172 ≠ gb157) ∧ (b 10 = true → gb158 ≠ gb172) ∧ (b 10 = true → gb172 ≠ gb158) ∧ (b 10 = true → gb159 ≠ gb172) ∧ (b 10 = true → gb172 ≠ gb159) ∧ (b 10 = true → gb160 ≠ gb172) ∧ (b 10 = true → gb172 ≠ gb160) ∧ (b 11 = true → b 14 = false → w'.heap[gb173]? = some (.cells #[.int .i64 0, .int .i64 0] 23 (0, 0))) ∧ (b 11 = true → w.heap.size ≤ gb173) ∧ (b 11 = true → w.heap.size ≤ gb173) ∧ (b 11 = true → gb157 ≠ gb173) ∧ (b 11 = true → gb173 ≠ gb157) ∧ (b 11 = true → gb158 ≠ gb173) ∧ (b 11 = true → gb173 ≠ gb158) ∧ (b 11 = true → gb159 ≠ gb173) ∧ (b 11 = true → gb173 ≠ gb159) ∧ (b 11 = true → gb160 ≠ gb173) ∧ (b 11 = true → gb173 ≠ gb160) ∧ (b 12 = true → w'.heap[gb171]? = some (.cells #[.int .i64 t165, .int .i64 t166] 23 (0, 0))) ∧ (b 13 = true → w'.heap[gb172]? = some (.cells #[.int .i64 t167, .int .i64 t168] 23 (0, 0))) ∧ (b 14 = true → w'.heap[gb173]? = some (.cells #[.int .i64 t169, .int .i64 t170] 23 (0, 0))) ∧ (b 9 = true → (m9_ : Value) = .pointer (some ⟨gb171, 0, none⟩)) ∧ (b 10 = true → (m10_ : Value) = .pointer (some ⟨gb172, 0, none⟩)) ∧ (b 11 = true → (m11_ : Value) = .pointer (some ⟨gb173, 0, none⟩))) HT_.out HW_.out (by kernel_rfl) (by kernel_rfl) ?_ ?_ ?_
  ·exact ⟨0, 0, 0, .bool false, .bool false, .bool false, by simp only [putSel, Bool.false_eq_true, if_false], BK157.out, BK158.out, BK159.out, BK160.out, HB.out, fun h_ => absurd h_ (by decide), fun h_ => absurd h_ (by decide), fun h_ => absurd h_ (by decide), fun h_ => absurd h_ (by decide), fun h_ => absurd h_ (by decide), fun h_ => absurd h_ (by decide), fun h_ => absurd h_ (by decide), fun h_ => absurd h_ (by decide), fun h_ => absurd h_ (by decide), fun h_ => absurd h_ (by decide), fun h_ => absurd h_ (by decide), fun h_ => absurd h_ (by decide), fun h_ => absurd h_ (by decide), fun h_ => absurd h_ (by decide), fun h_ => absurd h_ (by decide), fun h_ => absurd h_ (by decide), fun h_ => absurd h_ (by decide), fun h_ => absurd h_ (by decide), fun h_ => absurd h_ (by decide), fun h_ => absurd h_ (by decide), fun h_ => absurd h_ (by decide), fun h_ => absurd h_ (by decide), fun h_ => absurd h_ (by decide), fun h_ => absurd h_ (by decide), fun h_ => absurd h_ (by decide), fun h_ => absurd h_ (by decide), fun h_ => absurd h_ (by decide), fun h_ => absurd h_ (by decide), fun h_ => absurd h_ (by decide), fun h_ => absurd h_ (by decide), fun h_ => absurd h_ (by decide), fun h_ => absurd h_ (by decide), fun h_ => absurd h_ (by decide), fun h_ => absurd h_ (by decide), fun h_ => absurd h_ (by decide), fun h_ => absurd h_ (by decide), fun h_ => absurd h_ (by decide), fun h_ => absurd h_ (by decide), fun h_ => absurd h_ (by decide), fun h_ => absurd h_ (by decide), fun h_ => absurd h_ (by decide), fun h_ => absurd h_ (by decide), fun h_ => absurd h_ (by decide), fun h_ => absurd h_ (by decide), fun h_ => absurd h_ (by decide)⟩
  ·skip
   clear BK157 BK158 BK159 BK160 HB
   refine steps_cons ?_ ?_
   ·rintro b a w' ⟨gb171, gb172, gb173, m9_, m10_, m11_, ha, Q_BK157, Q_BK158, Q_BK159, Q_BK160, Q_HB, Q_NB172_171, Q_NB171_172, Q_NB173_171, Q_NB171_173, Q_NB173_172, Q_NB172_173, Q_BK171, Q_GW171, Q_GE171, Q_NB157_171, Q_NB171_157, Q_NB158_171, Q_NB171_158, Q_NB159_171, Q_NB171_159, Q_NB160_171, Q_NB171_160, Q_BK172, Q_GW172, Q_GE172, Q_NB157_172, Q_NB172_157, Q_NB158_172, Q_NB172_158, Q_NB159_172, Q_NB172_159, Q_NB160_172, Q_NB172_160, Q_BK173, Q_GW173, Q_GE173, Q_NB157_173, Q_NB173_157, Q_NB158_173, Q_NB173_158, Q_NB159_173, Q_NB173_159, Q_NB160_173, Q_NB173_160, Q_BK171_e12, Q_BK172_e13, Q_BK173_e14, Q_X9_, Q_X10_, Q_X11_⟩ hb_ hon hoff
    refine ⟨_, rfl, fun K hK => ?_⟩
    have e7 : a.tmps[7]? = some (.pointer (some ⟨gb160, 0, none⟩)) := by rw [ha]; exact (putSel_off rfl).trans rfl
    replace ha := Aside0.mk ha
    have BK157 := Aside0.mk Q_BK157
    have BK158 := Aside0.mk Q_BK158
    have BK159 := Aside0.mk Q_BK159
    have BK160 := Aside0.mk Q_BK160
    have HB := Aside0.mk Q_HB
    have hc0_ : w'.cell? ⟨gb160, 0, none⟩ = some (.int .i64 a3_0) := (blk_cell BK160.out 0).trans rfl
    have hc1_ : w'.cell? ⟨gb160, 1, none⟩ = some (.int .i64 a3_1) := (blk_cell BK160.out 1).trans rfl
    refine value_ (w1 := w') (v := .agg #[.int .i64 a3_0, .int .i64 a3_1]) (by rfl) rfl ?_ ?_
    ·go_simp
     (try simp only [i64_w])
     try rfl
    refine hK.out _ _ ⟨gb171, gb172, gb173, m9_, m10_, m11_, (by rw [ha.out]; exact putSel_upk 0 hb_ rfl rfl rfl), Q_BK157, Q_BK158, Q_BK159, Q_BK160, Q_HB, Q_NB172_171, Q_NB171_172, Q_NB173_171, Q_NB171_173, Q_NB173_172, Q_NB172_173, Q_BK171, Q_GW171, Q_GE171, Q_NB157_171, Q_NB171_157, Q_NB158_171, Q_NB171_158, Q_NB159_171, Q_NB171_159, Q_NB160_171, Q_NB171_160, Q_BK172, Q_GW172, Q_GE172, Q_NB157_172, Q_NB172_157, Q_NB158_172, Q_NB172_158, Q_NB159_172, Q_NB172_159, Q_NB160_172, Q_NB172_160, Q_BK173, Q_GW173, Q_GE173, Q_NB157_173, Q_NB173_157, Q_NB158_173, Q_NB173_158, Q_NB159_173, Q_NB173_159, Q_NB160_173, Q_NB173_160, fun h0_ => absurd ((hoff 12 (by kernel_rfl)).symm.trans h0_) (by decide), fun h0_ => absurd ((hoff 13 (by kernel_rfl)).symm.trans h0_) (by decide), fun h0_ => absurd ((hoff 14 (by kernel_rfl)).symm.trans h0_) (by decide), Q_X9_, Q_X10_, Q_X11_⟩
   refine steps_cons ?_ ?_
   ·rintro b a w' ⟨gb171, gb172, gb173, m9_, m10_, m11_, ha, Q_BK157, Q_BK158, Q_BK159, Q_BK160, Q_HB, Q_NB172_171, Q_NB171_172, Q_NB173_171, Q_NB171_173, Q_NB173_172, Q_NB172_173, Q_BK171, Q_GW171, Q_GE171, Q_NB157_171, Q_NB171_157, Q_NB158_171, Q_NB171_158, Q_NB159_171, Q_NB171_159, Q_NB160_171, Q_NB171_160, Q_BK172, Q_GW172, Q_GE172, Q_NB157_172, Q_NB172_157, Q_NB158_172, Q_NB172_158, Q_NB159_172, Q_NB172_159, Q_NB160_172, Q_NB172_160, Q_BK173, Q_GW173, Q_GE173, Q_NB157_173, Q_NB173_157, Q_NB158_173, Q_NB173_158, Q_NB159_173, Q_NB173_159, Q_NB160_173, Q_NB173_160, Q_BK171_e12, Q_BK172_e13, Q_BK173_e14, Q_X9_, Q_X10_, Q_X11_⟩ hb_ hon hoff
    refine ⟨_, rfl, fun K hK => ?_⟩
    have e4 : a.tmps[4]? = some (.pointer (some ⟨gb157, 0, none⟩)) := by rw [ha]; exact (putSel_off rfl).trans rfl
    replace ha := Aside0.mk ha
    have BK157 := Aside0.mk Q_BK157
    have BK158 := Aside0.mk Q_BK158
    have BK159 := Aside0.mk Q_BK159
    have BK160 := Aside0.mk Q_BK160
    have HB := Aside0.mk Q_HB
    have hc0_ : w'.cell? ⟨gb157, 0, none⟩ = some (.int .i64 a0_0) := (blk_cell BK157.out 0).trans rfl
    have hc1_ : w'.cell? ⟨gb157, 1, none⟩ = some (.int .i64 a0_1) := (blk_cell BK157.out 1).trans rfl
    refine value_ (w1 := w') (v := .agg #[.int .i64 a0_0, .int .i64 a0_1]) (by rfl) rfl ?_ ?_
    ·go_simp
     (try simp only [i64_w])
     try rfl
    refine hK.out _ _ ⟨gb171, gb172, gb173, m9_, m10_, m11_, (by rw [ha.out]; exact putSel_upk 1 hb_ rfl rfl rfl), Q_BK157, Q_BK158, Q_BK159, Q_BK160, Q_HB, Q_NB172_171, Q_NB171_172, Q_NB173_171, Q_NB171_173, Q_NB173_172, Q_NB172_173, Q_BK171, Q_GW171, Q_GE171, Q_NB157_171, Q_NB171_157, Q_NB158_171, Q_NB171_158, Q_NB159_171, Q_NB171_159, Q_NB160_171, Q_NB171_160, Q_BK172, Q_GW172, Q_GE172, Q_NB157_172, Q_NB172_157, Q_NB158_172, Q_NB172_158, Q_NB159_172, Q_NB172_159, Q_NB160_172, Q_NB172_160, Q_BK173, Q_GW173, Q_GE173, Q_NB157_173, Q_NB173_157, Q_NB158_173, Q_NB173_158, Q_NB159_173, Q_NB173_159, Q_NB160_173, Q_NB173_160, fun h0_ => absurd ((hoff 12 (by kernel_rfl)).symm.trans h0_) (by decide), fun h0_ => absurd ((hoff 13 (by kernel_rfl)).symm.trans h0_) (by decide), fun h0_ => absurd ((hoff 14 (by kernel_rfl)).symm.trans h0_) (by decide), Q_X9_, Q_X10_, Q_X11_⟩
   refine steps_cons ?_ ?_
   ·rintro b a w' ⟨gb171, gb172, gb173, m9_, m10_, m11_, ha, Q_BK157, Q_BK158, Q_BK159, Q_BK160, Q_HB, Q_NB172_171, Q_NB171_172, Q_NB173_171, Q_NB171_173, Q_NB173_172, Q_NB172_173, Q_BK171, Q_GW171, Q_GE171, Q_NB157_171, Q_NB171_157, Q_NB158_171, Q_NB171_158, Q_NB159_171, Q_NB171_159, Q_NB160_171, Q_NB171_160, Q_BK172, Q_GW172, Q_GE172, Q_NB157_172, Q_NB172_157, Q_NB158_172, Q_NB172_158, Q_NB159_172, Q_NB172_159, Q_NB160_172, Q_NB172_160, Q_BK173, Q_GW173, Q_GE173, Q_NB157_173, Q_NB173_157, Q_NB158_173, Q_NB173_158, Q_NB159_173, Q_NB173_159, Q_NB160_173, Q_NB173_160, Q_BK171_e12, Q_BK172_e13, Q_BK173_e14, Q_X9_, Q_X10_, Q_X11_⟩ hb_ hon hoff
    refine ⟨_, rfl, fun K hK => ?_⟩
    have e20 : a.tmps[20]? = some (.agg #[.int .i64 a3_0, .int .i64 a3_1]) := by rw [ha]; exact putSel_on (e := (0, 20, .agg #[.int .i64 a3_0, .int .i64 a3_1])) 0 rfl rfl (hon 0 (by kernel_rfl)) rfl
    have e21 : a.tmps[21]? = some (.agg #[.int .i64 a0_0, .int .i64 a0_1]) := by rw [ha]; exact putSel_on (e := (1, 21, .agg #[.int .i64 a0_0, .int .i64 a0_1])) 1 rfl rfl (hon 1 (by kernel_rfl)) rfl
    replace ha := Aside0.mk ha
    have BK157 := Aside0.mk Q_BK157
    have BK158 := Aside0.mk Q_BK158
    have BK159 := Aside0.mk Q_BK159
    have BK160 := Aside0.mk Q_BK160
    have HB := Aside0.mk Q_HB
    refine goes_ Try.func24 (by kernel_rfl) rfl #[.agg #[.int .i64 a3_0, .int .i64 a3_1], .agg #[.int .i64 a0_0, .int .i64 a0_1]] (by rfl) rfl rfl (by first | (simp only [List.map_toArray, List.map_cons, List.map_nil, Act.eval, Array.getD_eq_getD_getElem?, Option.getD_some, e20, e21]; done) | (simp only [List.map_toArray, List.map_cons, List.map_nil, Act.eval, Array.getD_eq_getD_getElem?, Option.getD_some, e20, e21]; rfl)) ?_
    with_reducible refine (pred_way.calls a3_0 a3_1 a0_0 a0_1 t165 t166 _ A7.out).mono ?_
    rintro e w41 ⟨rfl, hb⟩
    refine ⟨_, rfl, ?_⟩
    have n0_ := u1 BK157 hb
    have n1_ := u1 BK158 hb
    have n2_ := u1 BK159 hb
    have n3_ := u1 BK160 hb
    have n4_ := Aside0.mk (below_step (bw HB.out) hb)
    have z_BK171 := fun (h0_ : b 9 = true) (h1_ : b 12 = false) => (show w41.heap[gb171]? = some (.cells #[.int .i64 0, .int .i64 0] 23 (0, 0)) from by first | exact (blk_below (g := gb171) (o := .cells #[.int .i64 0, .int .i64 0] 23 (0, 0)) (bk (Q_BK171 h0_ h1_)) hb))
    have z_BK172 := fun (h0_ : b 10 = true) (h1_ : b 13 = false) => (show w41.heap[gb172]? = some (.cells #[.int .i64 0, .int .i64 0] 23 (0, 0)) from by first | exact (blk_below (g := gb172) (o := .cells #[.int .i64 0, .int .i64 0] 23 (0, 0)) (bk (Q_BK172 h0_ h1_)) hb))
    have z_BK173 := fun (h0_ : b 11 = true) (h1_ : b 14 = false) => (show w41.heap[gb173]? = some (.cells #[.int .i64 0, .int .i64 0] 23 (0, 0)) from by first | exact (blk_below (g := gb173) (o := .cells #[.int .i64 0, .int .i64 0] 23 (0, 0)) (bk (Q_BK173 h0_ h1_)) hb))
    clear BK157
    clear BK158
    clear BK159
    clear BK160
    clear HB
    have BK157 := n0_
    have BK158 := n1_
    have BK159 := n2_
    have BK160 := n3_
    have HB := n4_
    clear n0_ n1_ n2_ n3_ n4_
    (try clear hb)
    (try clear hb2)
    (try clear hk)
    (try clear hi)
    refine hK.out _ _ ⟨gb171, gb172, gb173, m9_, m10_, m11_, (by rw [ha.out]; exact putSel_upk 2 hb_ rfl rfl rfl), (bk BK157.out), (bk BK158.out), (bk BK159.out), (bk BK160.out), (bw HB.out), Q_NB172_171, Q_NB171_172, Q_NB173_171, Q_NB171_173, Q_NB173_172, Q_NB172_173, z_BK171, Q_GW171, Q_GE171, Q_NB157_171, Q_NB171_157, Q_NB158_171, Q_NB171_158, Q_NB159_171, Q_NB171_159, Q_NB160_171, Q_NB171_160, z_BK172, Q_GW172, Q_GE172, Q_NB157_172, Q_NB172_157, Q_NB158_172, Q_NB172_158, Q_NB159_172, Q_NB172_159, Q_NB160_172, Q_NB172_160, z_BK173, Q_GW173, Q_GE173, Q_NB157_173, Q_NB173_157, Q_NB158_173, Q_NB173_158, Q_NB159_173, Q_NB173_159, Q_NB160_173, Q_NB173_160, fun h0_ => absurd ((hoff 12 (by kernel_rfl)).symm.trans h0_) (by decide), fun h0_ => absurd ((hoff 13 (by kernel_rfl)).symm.trans h0_) (by decide), fun h0_ => absurd ((hoff 14 (by kernel_rfl)).symm.trans h0_) (by decide), Q_X9_, Q_X10_, Q_X11_⟩
   refine steps_cons ?_ ?_
   ·rintro b a w' ⟨gb171, gb172, gb173, m9_, m10_, m11_, ha, Q_BK157, Q_BK158, Q_BK159, Q_BK160, Q_HB, Q_NB172_171, Q_NB171_172, Q_NB173_171, Q_NB171_173, Q_NB173_172, Q_NB172_173, Q_BK171, Q_GW171, Q_GE171, Q_NB157_171, Q_NB171_157, Q_NB158_171, Q_NB171_158, Q_NB159_171, Q_NB171_159, Q_NB160_171, Q_NB171_160, Q_BK172, Q_GW172, Q_GE172, Q_NB157_172, Q_NB172_157, Q_NB158_172, Q_NB172_158, Q_NB159_172, Q_NB172_159, Q_NB160_172, Q_NB172_160, Q_BK173, Q_GW173, Q_GE173, Q_NB157_173, Q_NB173_157, Q_NB158_173, Q_NB173_158, Q_NB159_173, Q_NB173_159, Q_NB160_173, Q_NB173_160, Q_BK171_e12, Q_BK172_e13, Q_BK173_e14, Q_X9_, Q_X10_, Q_X11_⟩ hb_ hon hoff
    refine ⟨_, rfl, fun K hK => ?_⟩
    have e7 : a.tmps[7]? = some (.pointer (some ⟨gb160, 0, none⟩)) := by rw [ha]; exact (putSel_off rfl).trans rfl
    replace ha := Aside0.mk ha
    have BK157 := Aside0.mk Q_BK157
    have BK158 := Aside0.mk Q_BK158
    have BK159 := Aside0.mk Q_BK159
    have BK160 := Aside0.mk Q_BK160
    have HB := Aside0.mk Q_HB
    have hc0_ : w'.cell? ⟨gb160, 0, none⟩ = some (.int .i64 a3_0) := (blk_cell BK160.out 0).trans rfl
    have hc1_ : w'.cell? ⟨gb160, 1, none⟩ = some (.int .i64 a3_1) := (blk_cell BK160.out 1).trans rfl
    refine value_ (w1 := w') (v := .agg #[.int .i64 a3_0, .int .i64 a3_1]) (by rfl) rfl ?_ ?_
    ·go_simp
     (try simp only [i64_w])
     try rfl
    refine hK.out _ _ ⟨gb171, gb172, gb173, m9_, m10_, m11_, (by rw [ha.out]; exact putSel_upk 3 hb_ rfl rfl rfl), Q_BK157, Q_BK158, Q_BK159, Q_BK160, Q_HB, Q_NB172_171, Q_NB171_172, Q_NB173_171, Q_NB171_173, Q_NB173_172, Q_NB172_173, Q_BK171, Q_GW171, Q_GE171, Q_NB157_171, Q_NB171_157, Q_NB158_171, Q_NB171_158, Q_NB159_171, Q_NB171_159, Q_NB160_171, Q_NB171_160, Q_BK172, Q_GW172, Q_GE172, Q_NB157_172, Q_NB172_157, Q_NB158_172, Q_NB172_158, Q_NB159_172, Q_NB172_159, Q_NB160_172, Q_NB172_160, Q_BK173, Q_GW173, Q_GE173, Q_NB157_173, Q_NB173_157, Q_NB158_173, Q_NB173_158, Q_NB159_173, Q_NB173_159, Q_NB160_173, Q_NB173_160, fun h0_ => absurd ((hoff 12 (by kernel_rfl)).symm.trans h0_) (by decide), fun h0_ => absurd ((hoff 13 (by kernel_rfl)).symm.trans h0_) (by decide), fun h0_ => absurd ((hoff 14 (by kernel_rfl)).symm.trans h0_) (by decide), Q_X9_, Q_X10_, Q_X11_⟩
   refine steps_cons ?_ ?_
   ·rintro b a w' ⟨gb171, gb172, gb173, m9_, m10_, m11_, ha, Q_BK157, Q_BK158, Q_BK159, Q_BK160, Q_HB, Q_NB172_171, Q_NB171_172, Q_NB173_171, Q_NB171_173, Q_NB173_172, Q_NB172_173, Q_BK171, Q_GW171, Q_GE171, Q_NB157_171, Q_NB171_157, Q_NB158_171, Q_NB171_158, Q_NB159_171, Q_NB171_159, Q_NB160_171, Q_NB171_160, Q_BK172, Q_GW172, Q_GE172, Q_NB157_172, Q_NB172_157, Q_NB158_172, Q_NB172_158, Q_NB159_172, Q_NB172_159, Q_NB160_172, Q_NB172_160, Q_BK173, Q_GW173, Q_GE173, Q_NB157_173, Q_NB173_157, Q_NB158_173, Q_NB173_158, Q_NB159_173, Q_NB173_159, Q_NB160_173, Q_NB173_160, Q_BK171_e12, Q_BK172_e13, Q_BK173_e14, Q_X9_, Q_X10_, Q_X11_⟩ hb_ hon hoff
    refine ⟨_, rfl, fun K hK => ?_⟩
    have e5 : a.tmps[5]? = some (.pointer (some ⟨gb158, 0, none⟩)) := by rw [ha]; exact (putSel_off rfl).trans rfl
    replace ha := Aside0.mk ha
    have BK157 := Aside0.mk Q_BK157
    have BK158 := Aside0.mk Q_BK158
    have BK159 := Aside0.mk Q_BK159
    have BK160 := Aside0.mk Q_BK160
    have HB := Aside0.mk Q_HB
    have hc0_ : w'.cell? ⟨gb158, 0, none⟩ = some (.int .i64 a1_0) := (blk_cell BK158.out 0).trans rfl
    have hc1_ : w'.cell? ⟨gb158, 1, none⟩ = some (.int .i64 a1_1) := (blk_cell BK158.out 1).trans rfl
    refine value_ (w1 := w') (v := .agg #[.int .i64 a1_0, .int .i64 a1_1]) (by rfl) rfl ?_ ?_
    ·go_simp
     (try simp only [i64_w])
     try rfl
    refine hK.out _ _ ⟨gb171, gb172, gb173, m9_, m10_, m11_, (by rw [ha.out]; exact putSel_upk 4 hb_ rfl rfl rfl), Q_BK157, Q_BK158, Q_BK159, Q_BK160, Q_HB, Q_NB172_171, Q_NB171_172, Q_NB173_171, Q_NB171_173, Q_NB173_172, Q_NB172_173, Q_BK171, Q_GW171, Q_GE171, Q_NB157_171, Q_NB171_157, Q_NB158_171, Q_NB171_158, Q_NB159_171, Q_NB171_159, Q_NB160_171, Q_NB171_160, Q_BK172, Q_GW172, Q_GE172, Q_NB157_172, Q_NB172_157, Q_NB158_172, Q_NB172_158, Q_NB159_172, Q_NB172_159, Q_NB160_172, Q_NB172_160, Q_BK173, Q_GW173, Q_GE173, Q_NB157_173, Q_NB173_157, Q_NB158_173, Q_NB173_158, Q_NB159_173, Q_NB173_159, Q_NB160_173, Q_NB173_160, fun h0_ => absurd ((hoff 12 (by kernel_rfl)).symm.trans h0_) (by decide), fun h0_ => absurd ((hoff 13 (by kernel_rfl)).symm.trans h0_) (by decide), fun h0_ => absurd ((hoff 14 (by kernel_rfl)).symm.trans h0_) (by decide), Q_X9_, Q_X10_, Q_X11_⟩
   refine steps_cons ?_ ?_
   ·rintro b a w' ⟨gb171, gb172, gb173, m9_, m10_, m11_, ha, Q_BK157, Q_BK158, Q_BK159, Q_BK160, Q_HB, Q_NB172_171, Q_NB171_172, Q_NB173_171, Q_NB171_173, Q_NB173_172, Q_NB172_173, Q_BK171, Q_GW171, Q_GE171, Q_NB157_171, Q_NB171_157, Q_NB158_171, Q_NB171_158, Q_NB159_171, Q_NB171_159, Q_NB160_171, Q_NB171_160, Q_BK172, Q_GW172, Q_GE172, Q_NB157_172, Q_NB172_157, Q_NB158_172, Q_NB172_158, Q_NB159_172, Q_NB172_159, Q_NB160_172, Q_NB172_160, Q_BK173, Q_GW173, Q_GE173, Q_NB157_173, Q_NB173_157, Q_NB158_173, Q_NB173_158, Q_NB159_173, Q_NB173_159, Q_NB160_173, Q_NB173_160, Q_BK171_e12, Q_BK172_e13, Q_BK173_e14, Q_X9_, Q_X10_, Q_X11_⟩ hb_ hon hoff
    refine ⟨_, rfl, fun K hK => ?_⟩
    have e23 : a.tmps[23]? = some (.agg #[.int .i64 a3_0, .int .i64 a3_1]) := by rw [ha]; exact putSel_on (e := (3, 23, .agg #[.int .i64 a3_0, .int .i64 a3_1])) 3 rfl rfl (hon 3 (by kernel_rfl)) rfl
    have e24 : a.tmps[24]? = some (.agg #[.int .i64 a1_0, .int .i64 a1_1]) := by rw [ha]; exact putSel_on (e := (4, 24, .agg #[.int .i64 a1_0, .int .i64 a1_1])) 4 rfl rfl (hon 4 (by kernel_rfl)) rfl
    replace ha := Aside0.mk ha
    have BK157 := Aside0.mk Q_BK157
    have BK158 := Aside0.mk Q_BK158
    have BK159 := Aside0.mk Q_BK159
    have BK160 := Aside0.mk Q_BK160
    have HB := Aside0.mk Q_HB
    refine goes_ Try.func24 (by kernel_rfl) rfl #[.agg #[.int .i64 a3_0, .int .i64 a3_1], .agg #[.int .i64 a1_0, .int .i64 a1_1]] (by rfl) rfl rfl (by first | (simp only [List.map_toArray, List.map_cons, List.map_nil, Act.eval, Array.getD_eq_getD_getElem?, Option.getD_some, e23, e24]; done) | (simp only [List.map_toArray, List.map_cons, List.map_nil, Act.eval, Array.getD_eq_getD_getElem?, Option.getD_some, e23, e24]; rfl)) ?_
    with_reducible refine (pred_way.calls a3_0 a3_1 a1_0 a1_1 t167 t168 _ A8.out).mono ?_
    rintro e w43 ⟨rfl, hb⟩
    refine ⟨_, rfl, ?_⟩
    have n0_ := u1 BK157 hb
    have n1_ := u1 BK158 hb
    have n2_ := u1 BK159 hb
    have n3_ := u1 BK160 hb
    have n4_ := Aside0.mk (below_step (bw HB.out) hb)
    have z_BK171 := fun (h0_ : b 9 = true) (h1_ : b 12 = false) => (show w43.heap[gb171]? = some (.cells #[.int .i64 0, .int .i64 0] 23 (0, 0)) from by first | exact (blk_below (g := gb171) (o := .cells #[.int .i64 0, .int .i64 0] 23 (0, 0)) (bk (Q_BK171 h0_ h1_)) hb))
    have z_BK172 := fun (h0_ : b 10 = true) (h1_ : b 13 = false) => (show w43.heap[gb172]? = some (.cells #[.int .i64 0, .int .i64 0] 23 (0, 0)) from by first | exact (blk_below (g := gb172) (o := .cells #[.int .i64 0, .int .i64 0] 23 (0, 0)) (bk (Q_BK172 h0_ h1_)) hb))
    have z_BK173 := fun (h0_ : b 11 = true) (h1_ : b 14 = false) => (show w43.heap[gb173]? = some (.cells #[.int .i64 0, .int .i64 0] 23 (0, 0)) from by first | exact (blk_below (g := gb173) (o := .cells #[.int .i64 0, .int .i64 0] 23 (0, 0)) (bk (Q_BK173 h0_ h1_)) hb))
    clear BK157
    clear BK158
    clear BK159
    clear BK160
    clear HB
    have BK157 := n0_
    have BK158 := n1_
    have BK159 := n2_
    have BK160 := n3_
    have HB := n4_
    clear n0_ n1_ n2_ n3_ n4_
    (try clear hb)
    (try clear hb2)
    (try clear hk)
    (try clear hi)
    refine hK.out _ _ ⟨gb171, gb172, gb173, m9_, m10_, m11_, (by rw [ha.out]; exact putSel_upk 5 hb_ rfl rfl rfl), (bk BK157.out), (bk BK158.out), (bk BK159.out), (bk BK160.out), (bw HB.out), Q_NB172_171, Q_NB171_172, Q_NB173_171, Q_NB171_173, Q_NB173_172, Q_NB172_173, z_BK171, Q_GW171, Q_GE171, Q_NB157_171, Q_NB171_157, Q_NB158_171, Q_NB171_158, Q_NB159_171, Q_NB171_159, Q_NB160_171, Q_NB171_160, z_BK172, Q_GW172, Q_GE172, Q_NB157_172, Q_NB172_157, Q_NB158_172, Q_NB172_158, Q_NB159_172, Q_NB172_159, Q_NB160_172, Q_NB172_160, z_BK173, Q_GW173, Q_GE173, Q_NB157_173, Q_NB173_157, Q_NB158_173, Q_NB173_158, Q_NB159_173, Q_NB173_159, Q_NB160_173, Q_NB173_160, fun h0_ => absurd ((hoff 12 (by kernel_rfl)).symm.trans h0_) (by decide), fun h0_ => absurd ((hoff 13 (by kernel_rfl)).symm.trans h0_) (by decide), fun h0_ => absurd ((hoff 14 (by kernel_rfl)).symm.trans h0_) (by decide), Q_X9_, Q_X10_, Q_X11_⟩
   refine steps_cons ?_ ?_
   ·rintro b a w' ⟨gb171, gb172, gb173, m9_, m10_, m11_, ha, Q_BK157, Q_BK158, Q_BK159, Q_BK160, Q_HB, Q_NB172_171, Q_NB171_172, Q_NB173_171, Q_NB171_173, Q_NB173_172, Q_NB172_173, Q_BK171, Q_GW171, Q_GE171, Q_NB157_171, Q_NB171_157, Q_NB158_171, Q_NB171_158, Q_NB159_171, Q_NB171_159, Q_NB160_171, Q_NB171_160, Q_BK172, Q_GW172, Q_GE172, Q_NB157_172, Q_NB172_157, Q_NB158_172, Q_NB172_158, Q_NB159_172, Q_NB172_159, Q_NB160_172, Q_NB172_160, Q_BK173, Q_GW173, Q_GE173, Q_NB157_173, Q_NB173_157, Q_NB158_173, Q_NB173_158, Q_NB159_173, Q_NB173_159, Q_NB160_173, Q_NB173_160, Q_BK171_e12, Q_BK172_e13, Q_BK173_e14, Q_X9_, Q_X10_, Q_X11_⟩ hb_ hon hoff
    refine ⟨_, rfl, fun K hK => ?_⟩
    have e7 : a.tmps[7]? = some (.pointer (some ⟨gb160, 0, none⟩)) := by rw [ha]; exact (putSel_off rfl).trans rfl
    replace ha := Aside0.mk ha
    have BK157 := Aside0.mk Q_BK157
    have BK158 := Aside0.mk Q_BK158
    have BK159 := Aside0.mk Q_BK159
    have BK160 := Aside0.mk Q_BK160
    have HB := Aside0.mk Q_HB
    have hc0_ : w'.cell? ⟨gb160, 0, none⟩ = some (.int .i64 a3_0) := (blk_cell BK160.out 0).trans rfl
    have hc1_ : w'.cell? ⟨gb160, 1, none⟩ = some (.int .i64 a3_1) := (blk_cell BK160.out 1).trans rfl
    refine value_ (w1 := w') (v := .agg #[.int .i64 a3_0, .int .i64 a3_1]) (by rfl) rfl ?_ ?_
    ·go_simp
     (try simp only [i64_w])
     try rfl
    refine hK.out _ _ ⟨gb171, gb172, gb173, m9_, m10_, m11_, (by rw [ha.out]; exact putSel_upk 6 hb_ rfl rfl rfl), Q_BK157, Q_BK158, Q_BK159, Q_BK160, Q_HB, Q_NB172_171, Q_NB171_172, Q_NB173_171, Q_NB171_173, Q_NB173_172, Q_NB172_173, Q_BK171, Q_GW171, Q_GE171, Q_NB157_171, Q_NB171_157, Q_NB158_171, Q_NB171_158, Q_NB159_171, Q_NB171_159, Q_NB160_171, Q_NB171_160, Q_BK172, Q_GW172, Q_GE172, Q_NB157_172, Q_NB172_157, Q_NB158_172, Q_NB172_158, Q_NB159_172, Q_NB172_159, Q_NB160_172, Q_NB172_160, Q_BK173, Q_GW173, Q_GE173, Q_NB157_173, Q_NB173_157, Q_NB158_173, Q_NB173_158, Q_NB159_173, Q_NB173_159, Q_NB160_173, Q_NB173_160, fun h0_ => absurd ((hoff 12 (by kernel_rfl)).symm.trans h0_) (by decide), fun h0_ => absurd ((hoff 13 (by kernel_rfl)).symm.trans h0_) (by decide), fun h0_ => absurd ((hoff 14 (by kernel_rfl)).symm.trans h0_) (by decide), Q_X9_, Q_X10_, Q_X11_⟩
   refine steps_cons ?_ ?_
   ·rintro b a w' ⟨gb171, gb172, gb173, m9_, m10_, m11_, ha, Q_BK157, Q_BK158, Q_BK159, Q_BK160, Q_HB, Q_NB172_171, Q_NB171_172, Q_NB173_171, Q_NB171_173, Q_NB173_172, Q_NB172_173, Q_BK171, Q_GW171, Q_GE171, Q_NB157_171, Q_NB171_157, Q_NB158_171, Q_NB171_158, Q_NB159_171, Q_NB171_159, Q_NB160_171, Q_NB171_160, Q_BK172, Q_GW172, Q_GE172, Q_NB157_172, Q_NB172_157, Q_NB158_172, Q_NB172_158, Q_NB159_172, Q_NB172_159, Q_NB160_172, Q_NB172_160, Q_BK173, Q_GW173, Q_GE173, Q_NB157_173, Q_NB173_157, Q_NB158_173, Q_NB173_158, Q_NB159_173, Q_NB173_159, Q_NB160_173, Q_NB173_160, Q_BK171_e12, Q_BK172_e13, Q_BK173_e14, Q_X9_, Q_X10_, Q_X11_⟩ hb_ hon hoff
    refine ⟨_, rfl, fun K hK => ?_⟩
    have e6 : a.tmps[6]? = some (.pointer (some ⟨gb159, 0, none⟩)) := by rw [ha]; exact (putSel_off rfl).trans rfl
    replace ha := Aside0.mk ha
    have BK157 := Aside0.mk Q_BK157
    have BK158 := Aside0.mk Q_BK158
    have BK159 := Aside0.mk Q_BK159
    have BK160 := Aside0.mk Q_BK160
    have HB := Aside0.mk Q_HB
    have hc0_ : w'.cell? ⟨gb159, 0, none⟩ = some (.int .i64 a2_0) := (blk_cell BK159.out 0).trans rfl
    have hc1_ : w'.cell? ⟨gb159, 1, none⟩ = some (.int .i64 a2_1) := (blk_cell BK159.out 1).trans rfl
    refine value_ (w1 := w') (v := .agg #[.int .i64 a2_0, .int .i64 a2_1]) (by rfl) rfl ?_ ?_
    ·go_simp
     (try simp only [i64_w])
     try rfl
    refine hK.out _ _ ⟨gb171, gb172, gb173, m9_, m10_, m11_, (by rw [ha.out]; exact putSel_upk 7 hb_ rfl rfl rfl), Q_BK157, Q_BK158, Q_BK159, Q_BK160, Q_HB, Q_NB172_171, Q_NB171_172, Q_NB173_171, Q_NB171_173, Q_NB173_172, Q_NB172_173, Q_BK171, Q_GW171, Q_GE171, Q_NB157_171, Q_NB171_157, Q_NB158_171, Q_NB171_158, Q_NB159_171, Q_NB171_159, Q_NB160_171, Q_NB171_160, Q_BK172, Q_GW172, Q_GE172, Q_NB157_172, Q_NB172_157, Q_NB158_172, Q_NB172_158, Q_NB159_172, Q_NB172_159, Q_NB160_172, Q_NB172_160, Q_BK173, Q_GW173, Q_GE173, Q_NB157_173, Q_NB173_157, Q_NB158_173, Q_NB173_158, Q_NB159_173, Q_NB173_159, Q_NB160_173, Q_NB173_160, fun h0_ => absurd ((hoff 12 (by kernel_rfl)).symm.trans h0_) (by decide), fun h0_ => absurd ((hoff 13 (by kernel_rfl)).symm.trans h0_) (by decide), fun h0_ => absurd ((hoff 14 (by kernel_rfl)).symm.trans h0_) (by decide), Q_X9_, Q_X10_, Q_X11_⟩
   refine steps_cons ?_ ?_
   ·rintro b a w' ⟨gb171, gb172, gb173, m9_, m10_, m11_, ha, Q_BK157, Q_BK158, Q_BK159, Q_BK160, Q_HB, Q_NB172_171, Q_NB171_172, Q_NB173_171, Q_NB171_173, Q_NB173_172, Q_NB172_173, Q_BK171, Q_GW171, Q_GE171, Q_NB157_171, Q_NB171_157, Q_NB158_171, Q_NB171_158, Q_NB159_171, Q_NB171_159, Q_NB160_171, Q_NB171_160, Q_BK172, Q_GW172, Q_GE172, Q_NB157_172, Q_NB172_157, Q_NB158_172, Q_NB172_158, Q_NB159_172, Q_NB172_159, Q_NB160_172, Q_NB172_160, Q_BK173, Q_GW173, Q_GE173, Q_NB157_173, Q_NB173_157, Q_NB158_173, Q_NB173_158, Q_NB159_173, Q_NB173_159, Q_NB160_173, Q_NB173_160, Q_BK171_e12, Q_BK172_e13, Q_BK173_e14, Q_X9_, Q_X10_, Q_X11_⟩ hb_ hon hoff
    refine ⟨_, rfl, fun K hK => ?_⟩
    have e26 : a.tmps[26]? = some (.agg #[.int .i64 a3_0, .int .i64 a3_1]) := by rw [ha]; exact putSel_on (e := (6, 26, .agg #[.int .i64 a3_0, .int .i64 a3_1])) 6 rfl rfl (hon 6 (by kernel_rfl)) rfl
    have e27 : a.tmps[27]? = some (.agg #[.int .i64 a2_0, .int .i64 a2_1]) := by rw [ha]; exact putSel_on (e := (7, 27, .agg #[.int .i64 a2_0, .int .i64 a2_1])) 7 rfl rfl (hon 7 (by kernel_rfl)) rfl
    replace ha := Aside0.mk ha
    have BK157 := Aside0.mk Q_BK157
    have BK158 := Aside0.mk Q_BK158
    have BK159 := Aside0.mk Q_BK159
    have BK160 := Aside0.mk Q_BK160
    have HB := Aside0.mk Q_HB
    refine goes_ Try.func24 (by kernel_rfl) rfl #[.agg #[.int .i64 a3_0, .int .i64 a3_1], .agg #[.int .i64 a2_0, .int .i64 a2_1]] (by rfl) rfl rfl (by first | (simp only [List.map_toArray, List.map_cons, List.map_nil, Act.eval, Array.getD_eq_getD_getElem?, Option.getD_some, e26, e27]; done) | (simp only [List.map_toArray, List.map_cons, List.map_nil, Act.eval, Array.getD_eq_getD_getElem?, Option.getD_some, e26, e27]; rfl)) ?_
    with_reducible refine (pred_way.calls a3_0 a3_1 a2_0 a2_1 t169 t170 _ A9.out).mono ?_
    rintro e w44 ⟨rfl, hb⟩
    refine ⟨_, rfl, ?_⟩
    have n0_ := u1 BK157 hb
    have n1_ := u1 BK158 hb
    have n2_ := u1 BK159 hb
    have n3_ := u1 BK160 hb
    have n4_ := Aside0.mk (below_step (bw HB.out) hb)
    have z_BK171 := fun (h0_ : b 9 = true) (h1_ : b 12 = false) => (show w44.heap[gb171]? = some (.cells #[.int .i64 0, .int .i64 0] 23 (0, 0)) from by first | exact (blk_below (g := gb171) (o := .cells #[.int .i64 0, .int .i64 0] 23 (0, 0)) (bk (Q_BK171 h0_ h1_)) hb))
    have z_BK172 := fun (h0_ : b 10 = true) (h1_ : b 13 = false) => (show w44.heap[gb172]? = some (.cells #[.int .i64 0, .int .i64 0] 23 (0, 0)) from by first | exact (blk_below (g := gb172) (o := .cells #[.int .i64 0, .int .i64 0] 23 (0, 0)) (bk (Q_BK172 h0_ h1_)) hb))
    have z_BK173 := fun (h0_ : b 11 = true) (h1_ : b 14 = false) => (show w44.heap[gb173]? = some (.cells #[.int .i64 0, .int .i64 0] 23 (0, 0)) from by first | exact (blk_below (g := gb173) (o := .cells #[.int .i64 0, .int .i64 0] 23 (0, 0)) (bk (Q_BK173 h0_ h1_)) hb))
    clear BK157
    clear BK158
    clear BK159
    clear BK160
    clear HB
    have BK157 := n0_
    have BK158 := n1_
    have BK159 := n2_
    have BK160 := n3_
    have HB := n4_
    clear n0_ n1_ n2_ n3_ n4_
    (try clear hb)
    (try clear hb2)
    (try clear hk)
    (try clear hi)
    refine hK.out _ _ ⟨gb171, gb172, gb173, m9_, m10_, m11_, (by rw [ha.out]; exact putSel_upk 8 hb_ rfl rfl rfl), (bk BK157.out), (bk BK158.out), (bk BK159.out), (bk BK160.out), (bw HB.out), Q_NB172_171, Q_NB171_172, Q_NB173_171, Q_NB171_173, Q_NB173_172, Q_NB172_173, z_BK171, Q_GW171, Q_GE171, Q_NB157_171, Q_NB171_157, Q_NB158_171, Q_NB171_158, Q_NB159_171, Q_NB171_159, Q_NB160_171, Q_NB171_160, z_BK172, Q_GW172, Q_GE172, Q_NB157_172, Q_NB172_157, Q_NB158_172, Q_NB172_158, Q_NB159_172, Q_NB172_159, Q_NB160_172, Q_NB172_160, z_BK173, Q_GW173, Q_GE173, Q_NB157_173, Q_NB173_157, Q_NB158_173, Q_NB173_158, Q_NB159_173, Q_NB173_159, Q_NB160_173, Q_NB173_160, fun h0_ => absurd ((hoff 12 (by kernel_rfl)).symm.trans h0_) (by decide), fun h0_ => absurd ((hoff 13 (by kernel_rfl)).symm.trans h0_) (by decide), fun h0_ => absurd ((hoff 14 (by kernel_rfl)).symm.trans h0_) (by decide), Q_X9_, Q_X10_, Q_X11_⟩
   refine steps_cons ?_ ?_
   ·rintro b a w' ⟨gb171, gb172, gb173, m9_, m10_, m11_, ha, Q_BK157, Q_BK158, Q_BK159, Q_BK160, Q_HB, Q_NB172_171, Q_NB171_172, Q_NB173_171, Q_NB171_173, Q_NB173_172, Q_NB172_173, Q_BK171, Q_GW171, Q_GE171, Q_NB157_171, Q_NB171_157, Q_NB158_171, Q_NB171_158, Q_NB159_171, Q_NB171_159, Q_NB160_171, Q_NB171_160, Q_BK172, Q_GW172, Q_GE172, Q_NB157_172, Q_NB172_157, Q_NB158_172, Q_NB172_158, Q_NB159_172, Q_NB172_159, Q_NB160_172, Q_NB172_160, Q_BK173, Q_GW173, Q_GE173, Q_NB157_173, Q_NB173_157, Q_NB158_173, Q_NB173_158, Q_NB159_173, Q_NB173_159, Q_NB160_173, Q_NB173_160, Q_BK171_e12, Q_BK172_e13, Q_BK173_e14, Q_X9_, Q_X10_, Q_X11_⟩ hb_ hon hoff
    refine ⟨_, rfl, fun K hK => ?_⟩
    replace ha := Aside0.mk ha
    have BK157 := Aside0.mk Q_BK157
    have BK158 := Aside0.mk Q_BK158
    have BK159 := Aside0.mk Q_BK159
    have BK160 := Aside0.mk Q_BK160
    have HB := Aside0.mk Q_HB
    refine box_step ?hg (N := 9) ?hd (cs := #[.int .i64 0, .int .i64 0]) (t := 23) ?hr ?_; (case hd => rfl); (case hg => rfl); (case hr => first | (go_simp; done) | (go_simp; rfl))
    intro gb171 hg w41 hbox hb
    have n0_ := u1 BK157 hb
    have n1_ := u1 BK158 hb
    have n2_ := u1 BK159 hb
    have n3_ := u1 BK160 hb
    have n4_ := Aside0.mk (below_step (bw HB.out) hb)
    have n5_ := Aside0.mk (hbox)
    have n6_ := u3 hg HB
    have n7_ := u3 hg HB
    have n8_ := u4 hg BK157
    have n9_ := u5 hg BK157
    have n10_ := u4 hg BK158
    have n11_ := u5 hg BK158
    have n12_ := u4 hg BK159
    have n13_ := u5 hg BK159
    have n14_ := u4 hg BK160
    have n15_ := u5 hg BK160
    have z_NB172_171 := fun (h0_ : up b 9 9 = true) (h1_ : up b 9 10 = true) => (show gb172 ≠ gb171 from ((by rw [hg]; exact Nat.ne_of_lt (blk_lt (g := gb172) (o := .cells #[.int .i64 0, .int .i64 0] 23 (0, 0)) (by (with_reducible repeat (first | refine blk_drewN ?_ _ | refine blk_drew ?_ | refine blk_alloc ?_ _)); exact (Q_BK172 ((up_ne (by decide : 10 ≠ 9)).symm.trans h1_) (hoff 13 (by kernel_rfl))))) : gb172 ≠ gb171)))
    have z_NB171_172 := fun (h0_ : up b 9 9 = true) (h1_ : up b 9 10 = true) => (show gb171 ≠ gb172 from ((by rw [hg]; exact Nat.ne_of_gt (blk_lt (g := gb172) (o := .cells #[.int .i64 0, .int .i64 0] 23 (0, 0)) (by (with_reducible repeat (first | refine blk_drewN ?_ _ | refine blk_drew ?_ | refine blk_alloc ?_ _)); exact (Q_BK172 ((up_ne (by decide : 10 ≠ 9)).symm.trans h1_) (hoff 13 (by kernel_rfl))))) : gb171 ≠ gb172)))
    have z_NB173_171 := fun (h0_ : up b 9 9 = true) (h1_ : up b 9 11 = true) => (show gb173 ≠ gb171 from ((by rw [hg]; exact Nat.ne_of_lt (blk_lt (g := gb173) (o := .cells #[.int .i64 0, .int .i64 0] 23 (0, 0)) (by (with_reducible repeat (first | refine blk_drewN ?_ _ | refine blk_drew ?_ | refine blk_alloc ?_ _)); exact (Q_BK173 ((up_ne (by decide : 11 ≠ 9)).symm.trans h1_) (hoff 14 (by kernel_rfl))))) : gb173 ≠ gb171)))
    have z_NB171_173 := fun (h0_ : up b 9 9 = true) (h1_ : up b 9 11 = true) => (show gb171 ≠ gb173 from ((by rw [hg]; exact Nat.ne_of_gt (blk_lt (g := gb173) (o := .cells #[.int .i64 0, .int .i64 0] 23 (0, 0)) (by (with_reducible repeat (first | refine blk_drewN ?_ _ | refine blk_drew ?_ | refine blk_alloc ?_ _)); exact (Q_BK173 ((up_ne (by decide : 11 ≠ 9)).symm.trans h1_) (hoff 14 (by kernel_rfl))))) : gb171 ≠ gb173)))
    have z_BK172 := fun (h0_ : b 10 = true) (h1_ : b 13 = false) => (show w41.heap[gb172]? = some (.cells #[.int .i64 0, .int .i64 0] 23 (0, 0)) from by first | exact (blk_below (g := gb172) (o := .cells #[.int .i64 0, .int .i64 0] 23 (0, 0)) (bk (Q_BK172 h0_ h1_)) hb))
    have z_BK173 := fun (h0_ : b 11 = true) (h1_ : b 14 = false) => (show w41.heap[gb173]? = some (.cells #[.int .i64 0, .int .i64 0] 23 (0, 0)) from by first | exact (blk_below (g := gb173) (o := .cells #[.int .i64 0, .int .i64 0] 23 (0, 0)) (bk (Q_BK173 h0_ h1_)) hb))
    clear BK157
    clear BK158
    clear BK159
    clear BK160
    clear HB
    have BK157 := n0_
    have BK158 := n1_
    have BK159 := n2_
    have BK160 := n3_
    have HB := n4_
    have BK171 := n5_
    have GW171 := n6_
    have GE171 := n7_
    have NB157_171 := n8_
    have NB171_157 := n9_
    have NB158_171 := n10_
    have NB171_158 := n11_
    have NB159_171 := n12_
    have NB171_159 := n13_
    have NB160_171 := n14_
    have NB171_160 := n15_
    clear n0_ n1_ n2_ n3_ n4_ n5_ n6_ n7_ n8_ n9_ n10_ n11_ n12_ n13_ n14_ n15_
    clear hb hbox hg
    refine hK.out _ _ ⟨gb171, gb172, gb173, (.pointer (some ⟨gb171, 0, none⟩)), m10_, m11_, (by rw [ha.out]; exact putSel_upk 9 hb_ rfl rfl rfl), (bk BK157.out), (bk BK158.out), (bk BK159.out), (bk BK160.out), (bw HB.out), @z_NB172_171, @z_NB171_172, @z_NB173_171, @z_NB171_173, Q_NB173_172, Q_NB172_173, fun _ _ => (bk BK171.out), fun _ => GW171.out, fun _ => GE171.out, fun _ => NB157_171.out, fun _ => NB171_157.out, fun _ => NB158_171.out, fun _ => NB171_158.out, fun _ => NB159_171.out, fun _ => NB171_159.out, fun _ => NB160_171.out, fun _ => NB171_160.out, z_BK172, Q_GW172, Q_GE172, Q_NB157_172, Q_NB172_157, Q_NB158_172, Q_NB172_158, Q_NB159_172, Q_NB172_159, Q_NB160_172, Q_NB172_160, z_BK173, Q_GW173, Q_GE173, Q_NB157_173, Q_NB173_157, Q_NB158_173, Q_NB173_158, Q_NB159_173, Q_NB173_159, Q_NB160_173, Q_NB173_160, fun h0_ => absurd ((hoff 12 (by kernel_rfl)).symm.trans h0_) (by decide), fun h0_ => absurd ((hoff 13 (by kernel_rfl)).symm.trans h0_) (by decide), fun h0_ => absurd ((hoff 14 (by kernel_rfl)).symm.trans h0_) (by decide), fun _ => rfl, Q_X10_, Q_X11_⟩
   refine steps_cons ?_ ?_
   ·rintro b a w' ⟨gb171, gb172, gb173, m9_, m10_, m11_, ha, Q_BK157, Q_BK158, Q_BK159, Q_BK160, Q_HB, Q_NB172_171, Q_NB171_172, Q_NB173_171, Q_NB171_173, Q_NB173_172, Q_NB172_173, Q_BK171, Q_GW171, Q_GE171, Q_NB157_171, Q_NB171_157, Q_NB158_171, Q_NB171_158, Q_NB159_171, Q_NB171_159, Q_NB160_171, Q_NB171_160, Q_BK172, Q_GW172, Q_GE172, Q_NB157_172, Q_NB172_157, Q_NB158_172, Q_NB172_158, Q_NB159_172, Q_NB172_159, Q_NB160_172, Q_NB172_160, Q_BK173, Q_GW173, Q_GE173, Q_NB157_173, Q_NB173_157, Q_NB158_173, Q_NB173_158, Q_NB159_173, Q_NB173_159, Q_NB160_173, Q_NB173_160, Q_BK171_e12, Q_BK172_e13, Q_BK173_e14, Q_X9_, Q_X10_, Q_X11_⟩ hb_ hon hoff
    refine ⟨_, rfl, fun K hK => ?_⟩
    replace ha := Aside0.mk ha
    have BK157 := Aside0.mk Q_BK157
    have BK158 := Aside0.mk Q_BK158
    have BK159 := Aside0.mk Q_BK159
    have BK160 := Aside0.mk Q_BK160
    have HB := Aside0.mk Q_HB
    refine box_step ?hg (N := 10) ?hd (cs := #[.int .i64 0, .int .i64 0]) (t := 23) ?hr ?_; (case hd => rfl); (case hg => rfl); (case hr => first | (go_simp; done) | (go_simp; rfl))
    intro gb172 hg w41 hbox hb
    have n0_ := u1 BK157 hb
    have n1_ := u1 BK158 hb
    have n2_ := u1 BK159 hb
    have n3_ := u1 BK160 hb
    have n4_ := Aside0.mk (below_step (bw HB.out) hb)
    have n5_ := Aside0.mk (hbox)
    have n6_ := u3 hg HB
    have n7_ := u3 hg HB
    have n8_ := u4 hg BK157
    have n9_ := u5 hg BK157
    have n10_ := u4 hg BK158
    have n11_ := u5 hg BK158
    have n12_ := u4 hg BK159
    have n13_ := u5 hg BK159
    have n14_ := u4 hg BK160
    have n15_ := u5 hg BK160
    have z_NB172_171 := fun (h0_ : up b 10 9 = true) (h1_ : up b 10 10 = true) => (show gb172 ≠ gb171 from ((by rw [hg]; exact Nat.ne_of_gt (blk_lt (g := gb171) (o := .cells #[.int .i64 0, .int .i64 0] 23 (0, 0)) (by (with_reducible repeat (first | refine blk_drewN ?_ _ | refine blk_drew ?_ | refine blk_alloc ?_ _)); exact (Q_BK171 ((up_ne (by decide : 9 ≠ 10)).symm.trans h0_) (hoff 12 (by kernel_rfl))))) : gb172 ≠ gb171)))
    have z_NB171_172 := fun (h0_ : up b 10 9 = true) (h1_ : up b 10 10 = true) => (show gb171 ≠ gb172 from ((by rw [hg]; exact Nat.ne_of_lt (blk_lt (g := gb171) (o := .cells #[.int .i64 0, .int .i64 0] 23 (0, 0)) (by (with_reducible repeat (first | refine blk_drewN ?_ _ | refine blk_drew ?_ | refine blk_alloc ?_ _)); exact (Q_BK171 ((up_ne (by decide : 9 ≠ 10)).symm.trans h0_) (hoff 12 (by kernel_rfl))))) : gb171 ≠ gb172)))
    have z_NB173_172 := fun (h0_ : up b 10 10 = true) (h1_ : up b 10 11 = true) => (show gb173 ≠ gb172 from ((by rw [hg]; exact Nat.ne_of_lt (blk_lt (g := gb173) (o := .cells #[.int .i64 0, .int .i64 0] 23 (0, 0)) (by (with_reducible repeat (first | refine blk_drewN ?_ _ | refine blk_drew ?_ | refine blk_alloc ?_ _)); exact (Q_BK173 ((up_ne (by decide : 11 ≠ 10)).symm.trans h1_) (hoff 14 (by kernel_rfl))))) : gb173 ≠ gb172)))
    have z_NB172_173 := fun (h0_ : up b 10 10 = true) (h1_ : up b 10 11 = true) => (show gb172 ≠ gb173 from ((by rw [hg]; exact Nat.ne_of_gt (blk_lt (g := gb173) (o := .cells #[.int .i64 0, .int .i64 0] 23 (0, 0)) (by (with_reducible repeat (first | refine blk_drewN ?_ _ | refine blk_drew ?_ | refine blk_alloc ?_ _)); exact (Q_BK173 ((up_ne (by decide : 11 ≠ 10)).symm.trans h1_) (hoff 14 (by kernel_rfl))))) : gb172 ≠ gb173)))
    have z_BK171 := fun (h0_ : b 9 = true) (h1_ : b 12 = false) => (show w41.heap[gb171]? = some (.cells #[.int .i64 0, .int .i64 0] 23 (0, 0)) from by first | exact (blk_below (g := gb171) (o := .cells #[.int .i64 0, .int .i64 0] 23 (0, 0)) (bk (Q_BK171 h0_ h1_)) hb))
    have z_BK173 := fun (h0_ : b 11 = true) (h1_ : b 14 = false) => (show w41.heap[gb173]? = some (.cells #[.int .i64 0, .int .i64 0] 23 (0, 0)) from by first | exact (blk_below (g := gb173) (o := .cells #[.int .i64 0, .int .i64 0] 23 (0, 0)) (bk (Q_BK173 h0_ h1_)) hb))
    clear BK157
    clear BK158
    clear BK159
    clear BK160
    clear HB
    have BK157 := n0_
    have BK158 := n1_
    have BK159 := n2_
    have BK160 := n3_
    have HB := n4_
    have BK172 := n5_
    have GW172 := n6_
    have GE172 := n7_
    have NB157_172 := n8_
    have NB172_157 := n9_
    have NB158_172 := n10_
    have NB172_158 := n11_
    have NB159_172 := n12_
    have NB172_159 := n13_
    have NB160_172 := n14_
    have NB172_160 := n15_
    clear n0_ n1_ n2_ n3_ n4_ n5_ n6_ n7_ n8_ n9_ n10_ n11_ n12_ n13_ n14_ n15_
    clear hb hbox hg
    refine hK.out _ _ ⟨gb171, gb172, gb173, m9_, (.pointer (some ⟨gb172, 0, none⟩)), m11_, (by rw [ha.out]; exact putSel_upk 10 hb_ rfl rfl rfl), (bk BK157.out), (bk BK158.out), (bk BK159.out), (bk BK160.out), (bw HB.out), @z_NB172_171, @z_NB171_172, Q_NB173_171, Q_NB171_173, @z_NB173_172, @z_NB172_173, z_BK171, Q_GW171, Q_GE171, Q_NB157_171, Q_NB171_157, Q_NB158_171, Q_NB171_158, Q_NB159_171, Q_NB171_159, Q_NB160_171, Q_NB171_160, fun _ _ => (bk BK172.out), fun _ => GW172.out, fun _ => GE172.out, fun _ => NB157_172.out, fun _ => NB172_157.out, fun _ => NB158_172.out, fun _ => NB172_158.out, fun _ => NB159_172.out, fun _ => NB172_159.out, fun _ => NB160_172.out, fun _ => NB172_160.out, z_BK173, Q_GW173, Q_GE173, Q_NB157_173, Q_NB173_157, Q_NB158_173, Q_NB173_158, Q_NB159_173, Q_NB173_159, Q_NB160_173, Q_NB173_160, fun h0_ => absurd ((hoff 12 (by kernel_rfl)).symm.trans h0_) (by decide), fun h0_ => absurd ((hoff 13 (by kernel_rfl)).symm.trans h0_) (by decide), fun h0_ => absurd ((hoff 14 (by kernel_rfl)).symm.trans h0_) (by decide), Q_X9_, fun _ => rfl, Q_X11_⟩
   refine steps_cons ?_ ?_
   ·rintro b a w' ⟨gb171, gb172, gb173, m9_, m10_, m11_, ha, Q_BK157, Q_BK158, Q_BK159, Q_BK160, Q_HB, Q_NB172_171, Q_NB171_172, Q_NB173_171, Q_NB171_173, Q_NB173_172, Q_NB172_173, Q_BK171, Q_GW171, Q_GE171, Q_NB157_171, Q_NB171_157, Q_NB158_171, Q_NB171_158, Q_NB159_171, Q_NB171_159, Q_NB160_171, Q_NB171_160, Q_BK172, Q_GW172, Q_GE172, Q_NB157_172, Q_NB172_157, Q_NB158_172, Q_NB172_158, Q_NB159_172, Q_NB172_159, Q_NB160_172, Q_NB172_160, Q_BK173, Q_GW173, Q_GE173, Q_NB157_173, Q_NB173_157, Q_NB158_173, Q_NB173_158, Q_NB159_173, Q_NB173_159, Q_NB160_173, Q_NB173_160, Q_BK171_e12, Q_BK172_e13, Q_BK173_e14, Q_X9_, Q_X10_, Q_X11_⟩ hb_ hon hoff
    refine ⟨_, rfl, fun K hK => ?_⟩
    replace ha := Aside0.mk ha
    have BK157 := Aside0.mk Q_BK157
    have BK158 := Aside0.mk Q_BK158
    have BK159 := Aside0.mk Q_BK159
    have BK160 := Aside0.mk Q_BK160
    have HB := Aside0.mk Q_HB
    refine box_step ?hg (N := 11) ?hd (cs := #[.int .i64 0, .int .i64 0]) (t := 23) ?hr ?_; (case hd => rfl); (case hg => rfl); (case hr => first | (go_simp; done) | (go_simp; rfl))
    intro gb173 hg w41 hbox hb
    have n0_ := u1 BK157 hb
    have n1_ := u1 BK158 hb
    have n2_ := u1 BK159 hb
    have n3_ := u1 BK160 hb
    have n4_ := Aside0.mk (below_step (bw HB.out) hb)
    have n5_ := Aside0.mk (hbox)
    have n6_ := u3 hg HB
    have n7_ := u3 hg HB
    have n8_ := u4 hg BK157
    have n9_ := u5 hg BK157
    have n10_ := u4 hg BK158
    have n11_ := u5 hg BK158
    have n12_ := u4 hg BK159
    have n13_ := u5 hg BK159
    have n14_ := u4 hg BK160
    have n15_ := u5 hg BK160
    have z_NB173_171 := fun (h0_ : up b 11 9 = true) (h1_ : up b 11 11 = true) => (show gb173 ≠ gb171 from ((by rw [hg]; exact Nat.ne_of_gt (blk_lt (g := gb171) (o := .cells #[.int .i64 0, .int .i64 0] 23 (0, 0)) (by (with_reducible repeat (first | refine blk_drewN ?_ _ | refine blk_drew ?_ | refine blk_alloc ?_ _)); exact (Q_BK171 ((up_ne (by decide : 9 ≠ 11)).symm.trans h0_) (hoff 12 (by kernel_rfl))))) : gb173 ≠ gb171)))
    have z_NB171_173 := fun (h0_ : up b 11 9 = true) (h1_ : up b 11 11 = true) => (show gb171 ≠ gb173 from ((by rw [hg]; exact Nat.ne_of_lt (blk_lt (g := gb171) (o := .cells #[.int .i64 0, .int .i64 0] 23 (0, 0)) (by (with_reducible repeat (first | refine blk_drewN ?_ _ | refine blk_drew ?_ | refine blk_alloc ?_ _)); exact (Q_BK171 ((up_ne (by decide : 9 ≠ 11)).symm.trans h0_) (hoff 12 (by kernel_rfl))))) : gb171 ≠ gb173)))
    have z_NB173_172 := fun (h0_ : up b 11 10 = true) (h1_ : up b 11 11 = true) => (show gb173 ≠ gb172 from ((by rw [hg]; exact Nat.ne_of_gt (blk_lt (g := gb172) (o := .cells #[.int .i64 0, .int .i64 0] 23 (0, 0)) (by (with_reducible repeat (first | refine blk_drewN ?_ _ | refine blk_drew ?_ | refine blk_alloc ?_ _)); exact (Q_BK172 ((up_ne (by decide : 10 ≠ 11)).symm.trans h0_) (hoff 13 (by kernel_rfl))))) : gb173 ≠ gb172)))
    have z_NB172_173 := fun (h0_ : up b 11 10 = true) (h1_ : up b 11 11 = true) => (show gb172 ≠ gb173 from ((by rw [hg]; exact Nat.ne_of_lt (blk_lt (g := gb172) (o := .cells #[.int .i64 0, .int .i64 0] 23 (0, 0)) (by (with_reducible repeat (first | refine blk_drewN ?_ _ | refine blk_drew ?_ | refine blk_alloc ?_ _)); exact (Q_BK172 ((up_ne (by decide : 10 ≠ 11)).symm.trans h0_) (hoff 13 (by kernel_rfl))))) : gb172 ≠ gb173)))
    have z_BK171 := fun (h0_ : b 9 = true) (h1_ : b 12 = false) => (show w41.heap[gb171]? = some (.cells #[.int .i64 0, .int .i64 0] 23 (0, 0)) from by first | exact (blk_below (g := gb171) (o := .cells #[.int .i64 0, .int .i64 0] 23 (0, 0)) (bk (Q_BK171 h0_ h1_)) hb))
    have z_BK172 := fun (h0_ : b 10 = true) (h1_ : b 13 = false) => (show w41.heap[gb172]? = some (.cells #[.int .i64 0, .int .i64 0] 23 (0, 0)) from by first | exact (blk_below (g := gb172) (o := .cells #[.int .i64 0, .int .i64 0] 23 (0, 0)) (bk (Q_BK172 h0_ h1_)) hb))
    clear BK157
    clear BK158
    clear BK159
    clear BK160
    clear HB
    have BK157 := n0_
    have BK158 := n1_
    have BK159 := n2_
    have BK160 := n3_
    have HB := n4_
    have BK173 := n5_
    have GW173 := n6_
    have GE173 := n7_
    have NB157_173 := n8_
    have NB173_157 := n9_
    have NB158_173 := n10_
    have NB173_158 := n11_
    have NB159_173 := n12_
    have NB173_159 := n13_
    have NB160_173 := n14_
    have NB173_160 := n15_
    clear n0_ n1_ n2_ n3_ n4_ n5_ n6_ n7_ n8_ n9_ n10_ n11_ n12_ n13_ n14_ n15_
    clear hb hbox hg
    refine hK.out _ _ ⟨gb171, gb172, gb173, m9_, m10_, (.pointer (some ⟨gb173, 0, none⟩)), (by rw [ha.out]; exact putSel_upk 11 hb_ rfl rfl rfl), (bk BK157.out), (bk BK158.out), (bk BK159.out), (bk BK160.out), (bw HB.out), Q_NB172_171, Q_NB171_172, @z_NB173_171, @z_NB171_173, @z_NB173_172, @z_NB172_173, z_BK171, Q_GW171, Q_GE171, Q_NB157_171, Q_NB171_157, Q_NB158_171, Q_NB171_158, Q_NB159_171, Q_NB171_159, Q_NB160_171, Q_NB171_160, z_BK172, Q_GW172, Q_GE172, Q_NB157_172, Q_NB172_157, Q_NB158_172, Q_NB172_158, Q_NB159_172, Q_NB172_159, Q_NB160_172, Q_NB172_160, fun _ _ => (bk BK173.out), fun _ => GW173.out, fun _ => GE173.out, fun _ => NB157_173.out, fun _ => NB173_157.out, fun _ => NB158_173.out, fun _ => NB173_158.out, fun _ => NB159_173.out, fun _ => NB173_159.out, fun _ => NB160_173.out, fun _ => NB173_160.out, fun h0_ => absurd ((hoff 12 (by kernel_rfl)).symm.trans h0_) (by decide), fun h0_ => absurd ((hoff 13 (by kernel_rfl)).symm.trans h0_) (by decide), fun h0_ => absurd ((hoff 14 (by kernel_rfl)).symm.trans h0_) (by decide), Q_X9_, Q_X10_, fun _ => rfl⟩
   refine steps_cons ?_ ?_
   ·rintro b a w' ⟨gb171, gb172, gb173, m9_, m10_, m11_, ha, Q_BK157, Q_BK158, Q_BK159, Q_BK160, Q_HB, Q_NB172_171, Q_NB171_172, Q_NB173_171, Q_NB171_173, Q_NB173_172, Q_NB172_173, Q_BK171, Q_GW171, Q_GE171, Q_NB157_171, Q_NB171_157, Q_NB158_171, Q_NB171_158, Q_NB159_171, Q_NB171_159, Q_NB160_171, Q_NB171_160, Q_BK172, Q_GW172, Q_GE172, Q_NB157_172, Q_NB172_157, Q_NB158_172, Q_NB172_158, Q_NB159_172, Q_NB172_159, Q_NB160_172, Q_NB172_160, Q_BK173, Q_GW173, Q_GE173, Q_NB157_173, Q_NB173_157, Q_NB158_173, Q_NB173_158, Q_NB159_173, Q_NB173_159, Q_NB160_173, Q_NB173_160, Q_BK171_e12, Q_BK172_e13, Q_BK173_e14, Q_X9_, Q_X10_, Q_X11_⟩ hb_ hon hoff
    refine ⟨_, rfl, fun K hK => ?_⟩
    have e9 : a.tmps[9]? = some (m9_) := by rw [ha]; exact putSel_on (e := (9, 9, m9_)) 9 rfl rfl (hon 9 (by kernel_rfl)) rfl
    rw [Q_X9_ (hon 9 (by kernel_rfl))] at e9
    have e22 : a.tmps[22]? = some (.agg #[.int .i64 t165, .int .i64 t166]) := by rw [ha]; exact putSel_on (e := (2, 22, .agg #[.int .i64 t165, .int .i64 t166])) 2 rfl rfl (hon 2 (by kernel_rfl)) rfl
    replace ha := Aside0.mk ha
    have BK157 := Aside0.mk Q_BK157
    have BK158 := Aside0.mk Q_BK158
    have BK159 := Aside0.mk Q_BK159
    have BK160 := Aside0.mk Q_BK160
    have HB := Aside0.mk Q_HB
    have NB172_171 := Aside0.mk (Q_NB172_171 (hon 9 (by kernel_rfl)) (hon 10 (by kernel_rfl)))
    have NB171_172 := Aside0.mk (Q_NB171_172 (hon 9 (by kernel_rfl)) (hon 10 (by kernel_rfl)))
    have NB173_171 := Aside0.mk (Q_NB173_171 (hon 9 (by kernel_rfl)) (hon 11 (by kernel_rfl)))
    have NB171_173 := Aside0.mk (Q_NB171_173 (hon 9 (by kernel_rfl)) (hon 11 (by kernel_rfl)))
    have NB173_172 := Aside0.mk (Q_NB173_172 (hon 10 (by kernel_rfl)) (hon 11 (by kernel_rfl)))
    have NB172_173 := Aside0.mk (Q_NB172_173 (hon 10 (by kernel_rfl)) (hon 11 (by kernel_rfl)))
    have BK171 := Aside0.mk (Q_BK171 (hon 9 (by kernel_rfl)) hb_)
    have GW171 := Aside0.mk (Q_GW171 (hon 9 (by kernel_rfl)))
    have GE171 := Aside0.mk (Q_GE171 (hon 9 (by kernel_rfl)))
    have NB157_171 := Aside0.mk (Q_NB157_171 (hon 9 (by kernel_rfl)))
    have NB171_157 := Aside0.mk (Q_NB171_157 (hon 9 (by kernel_rfl)))
    have NB158_171 := Aside0.mk (Q_NB158_171 (hon 9 (by kernel_rfl)))
    have NB171_158 := Aside0.mk (Q_NB171_158 (hon 9 (by kernel_rfl)))
    have NB159_171 := Aside0.mk (Q_NB159_171 (hon 9 (by kernel_rfl)))
    have NB171_159 := Aside0.mk (Q_NB171_159 (hon 9 (by kernel_rfl)))
    have NB160_171 := Aside0.mk (Q_NB160_171 (hon 9 (by kernel_rfl)))
    have NB171_160 := Aside0.mk (Q_NB171_160 (hon 9 (by kernel_rfl)))
    have BK172 := Aside0.mk (Q_BK172 (hon 10 (by kernel_rfl)) (hoff 13 (by kernel_rfl)))
    have GW172 := Aside0.mk (Q_GW172 (hon 10 (by kernel_rfl)))
    have GE172 := Aside0.mk (Q_GE172 (hon 10 (by kernel_rfl)))
    have NB157_172 := Aside0.mk (Q_NB157_172 (hon 10 (by kernel_rfl)))
    have NB172_157 := Aside0.mk (Q_NB172_157 (hon 10 (by kernel_rfl)))
    have NB158_172 := Aside0.mk (Q_NB158_172 (hon 10 (by kernel_rfl)))
    have NB172_158 := Aside0.mk (Q_NB172_158 (hon 10 (by kernel_rfl)))
    have NB159_172 := Aside0.mk (Q_NB159_172 (hon 10 (by kernel_rfl)))
    have NB172_159 := Aside0.mk (Q_NB172_159 (hon 10 (by kernel_rfl)))
    have NB160_172 := Aside0.mk (Q_NB160_172 (hon 10 (by kernel_rfl)))
    have NB172_160 := Aside0.mk (Q_NB172_160 (hon 10 (by kernel_rfl)))
    have BK173 := Aside0.mk (Q_BK173 (hon 11 (by kernel_rfl)) (hoff 14 (by kernel_rfl)))
    have GW173 := Aside0.mk (Q_GW173 (hon 11 (by kernel_rfl)))
    have GE173 := Aside0.mk (Q_GE173 (hon 11 (by kernel_rfl)))
    have NB157_173 := Aside0.mk (Q_NB157_173 (hon 11 (by kernel_rfl)))
    have NB173_157 := Aside0.mk (Q_NB173_157 (hon 11 (by kernel_rfl)))
    have NB158_173 := Aside0.mk (Q_NB158_173 (hon 11 (by kernel_rfl)))
    have NB173_158 := Aside0.mk (Q_NB173_158 (hon 11 (by kernel_rfl)))
    have NB159_173 := Aside0.mk (Q_NB159_173 (hon 11 (by kernel_rfl)))
    have NB173_159 := Aside0.mk (Q_NB173_159 (hon 11 (by kernel_rfl)))
    have NB160_173 := Aside0.mk (Q_NB160_173 (hon 11 (by kernel_rfl)))
    have NB173_160 := Aside0.mk (Q_NB173_160 (hon 11 (by kernel_rfl)))
    have hs48 : w'.cell? ⟨gb171, 0, none⟩ = some (.int .i64 0) := (blk_cell BK171.out 0).trans rfl
    have hfs48 := blk_frozen BK171.out 0
    have hns48_0 := NB157_171.out
    have hns48_1 := NB158_171.out
    have hns48_2 := NB159_171.out
    have hns48_3 := NB160_171.out
    have hns48_5 := NB172_171.out
    have hns48_6 := NB173_171.out
    have hms48_0 := NB171_157.out
    have hms48_1 := NB171_158.out
    have hms48_2 := NB171_159.out
    have hms48_3 := NB171_160.out
    have hms48_5 := NB171_172.out
    have hms48_6 := NB171_173.out
    have hs49 : w'.cell? ⟨gb171, 1, none⟩ = some (.int .i64 0) := (blk_cell BK171.out 1).trans rfl
    have hfs49 := blk_frozen BK171.out 1
    have hns49_0 := NB157_171.out
    have hns49_1 := NB158_171.out
    have hns49_2 := NB159_171.out
    have hns49_3 := NB160_171.out
    have hns49_5 := NB172_171.out
    have hns49_6 := NB173_171.out
    have hms49_0 := NB171_157.out
    have hms49_1 := NB171_158.out
    have hms49_2 := NB171_159.out
    have hms49_3 := NB171_160.out
    have hms49_5 := NB171_172.out
    have hms49_6 := NB171_173.out
    refine skip_ (w1 := ?_) (by rfl) rfl ?_ ?_
    rotate_left
    ·go_simp
     rfl
    refine hK.out _ _ ⟨gb171, gb172, gb173, m9_, m10_, m11_, (by rw [ha.out]; exact putSel_none (v := undef) rfl), (by (with_reducible repeat (first | refine blk_drewN ?_ _ | refine blk_drew ?_ | refine blk_alloc ?_ _)); refine blk_far ?_ NB157_171.out _; (with_reducible repeat (first | refine blk_drewN ?_ _ | refine blk_drew ?_ | refine blk_alloc ?_ _)); refine blk_far ?_ NB157_171.out _; (with_reducible repeat (first | refine blk_drewN ?_ _ | refine blk_drew ?_ | refine blk_alloc ?_ _)); exact BK157.out), (by (with_reducible repeat (first | refine blk_drewN ?_ _ | refine blk_drew ?_ | refine blk_alloc ?_ _)); refine blk_far ?_ NB158_171.out _; (with_reducible repeat (first | refine blk_drewN ?_ _ | refine blk_drew ?_ | refine blk_alloc ?_ _)); refine blk_far ?_ NB158_171.out _; (with_reducible repeat (first | refine blk_drewN ?_ _ | refine blk_drew ?_ | refine blk_alloc ?_ _)); exact BK158.out), (by (with_reducible repeat (first | refine blk_drewN ?_ _ | refine blk_drew ?_ | refine blk_alloc ?_ _)); refine blk_far ?_ NB159_171.out _; (with_reducible repeat (first | refine blk_drewN ?_ _ | refine blk_drew ?_ | refine blk_alloc ?_ _)); refine blk_far ?_ NB159_171.out _; (with_reducible repeat (first | refine blk_drewN ?_ _ | refine blk_drew ?_ | refine blk_alloc ?_ _)); exact BK159.out), (by (with_reducible repeat (first | refine blk_drewN ?_ _ | refine blk_drew ?_ | refine blk_alloc ?_ _)); refine blk_far ?_ NB160_171.out _; (with_reducible repeat (first | refine blk_drewN ?_ _ | refine blk_drew ?_ | refine blk_alloc ?_ _)); refine blk_far ?_ NB160_171.out _; (with_reducible repeat (first | refine blk_drewN ?_ _ | refine blk_drew ?_ | refine blk_alloc ?_ _)); exact BK160.out), (by repeat (first | (with_reducible first | exact HB.out | apply below_alloc | apply pw_below_drewN | apply below_drew1 | refine below_set ?_ GE157.out | refine below_set ?_ GE158.out | refine below_set ?_ GE159.out | refine below_set ?_ GE160.out | refine below_set ?_ GE171.out | refine below_set ?_ GE172.out | refine below_set ?_ GE173.out) | exact HB.out)), fun _ _ => NB172_171.out, fun _ _ => NB171_172.out, fun _ _ => NB173_171.out, fun _ _ => NB171_173.out, fun _ _ => NB173_172.out, fun _ _ => NB172_173.out, fun _ h1_ => absurd ((up_self b 12).symm.trans h1_) (by decide), fun _ => GW171.out, fun _ => GE171.out, fun _ => NB157_171.out, fun _ => NB171_157.out, fun _ => NB158_171.out, fun _ => NB171_158.out, fun _ => NB159_171.out, fun _ => NB171_159.out, fun _ => NB160_171.out, fun _ => NB171_160.out, fun _ _ => (by (with_reducible repeat (first | refine blk_drewN ?_ _ | refine blk_drew ?_ | refine blk_alloc ?_ _)); refine blk_far ?_ NB172_171.out _; (with_reducible repeat (first | refine blk_drewN ?_ _ | refine blk_drew ?_ | refine blk_alloc ?_ _)); refine blk_far ?_ NB172_171.out _; (with_reducible repeat (first | refine blk_drewN ?_ _ | refine blk_drew ?_ | refine blk_alloc ?_ _)); exact BK172.out), fun _ => GW172.out, fun _ => GE172.out, fun _ => NB157_172.out, fun _ => NB172_157.out, fun _ => NB158_172.out, fun _ => NB172_158.out, fun _ => NB159_172.out, fun _ => NB172_159.out, fun _ => NB160_172.out, fun _ => NB172_160.out, fun _ _ => (by (with_reducible repeat (first | refine blk_drewN ?_ _ | refine blk_drew ?_ | refine blk_alloc ?_ _)); refine blk_far ?_ NB173_171.out _; (with_reducible repeat (first | refine blk_drewN ?_ _ | refine blk_drew ?_ | refine blk_alloc ?_ _)); refine blk_far ?_ NB173_171.out _; (with_reducible repeat (first | refine blk_drewN ?_ _ | refine blk_drew ?_ | refine blk_alloc ?_ _)); exact BK173.out), fun _ => GW173.out, fun _ => GE173.out, fun _ => NB157_173.out, fun _ => NB173_157.out, fun _ => NB158_173.out, fun _ => NB173_158.out, fun _ => NB159_173.out, fun _ => NB173_159.out, fun _ => NB160_173.out, fun _ => NB173_160.out, fun _ => (by (with_reducible repeat (first | refine blk_drewN ?_ _ | refine blk_drew ?_ | refine blk_alloc ?_ _)); refine blk_put (cs := #[.int .i64 t165, .int .i64 0]) ?_ 1 _ rfl; (with_reducible repeat (first | refine blk_drewN ?_ _ | refine blk_drew ?_ | refine blk_alloc ?_ _)); refine blk_put (cs := #[.int .i64 0, .int .i64 0]) ?_ 0 _ rfl; (with_reducible repeat (first | refine blk_drewN ?_ _ | refine blk_drew ?_ | refine blk_alloc ?_ _)); exact BK171.out), fun h0_ => absurd ((hoff 13 (by kernel_rfl)).symm.trans h0_) (by decide), fun h0_ => absurd ((hoff 14 (by kernel_rfl)).symm.trans h0_) (by decide), Q_X9_, Q_X10_, Q_X11_⟩
   refine steps_cons ?_ ?_
   ·rintro b a w' ⟨gb171, gb172, gb173, m9_, m10_, m11_, ha, Q_BK157, Q_BK158, Q_BK159, Q_BK160, Q_HB, Q_NB172_171, Q_NB171_172, Q_NB173_171, Q_NB171_173, Q_NB173_172, Q_NB172_173, Q_BK171, Q_GW171, Q_GE171, Q_NB157_171, Q_NB171_157, Q_NB158_171, Q_NB171_158, Q_NB159_171, Q_NB171_159, Q_NB160_171, Q_NB171_160, Q_BK172, Q_GW172, Q_GE172, Q_NB157_172, Q_NB172_157, Q_NB158_172, Q_NB172_158, Q_NB159_172, Q_NB172_159, Q_NB160_172, Q_NB172_160, Q_BK173, Q_GW173, Q_GE173, Q_NB157_173, Q_NB173_157, Q_NB158_173, Q_NB173_158, Q_NB159_173, Q_NB173_159, Q_NB160_173, Q_NB173_160, Q_BK171_e12, Q_BK172_e13, Q_BK173_e14, Q_X9_, Q_X10_, Q_X11_⟩ hb_ hon hoff
    refine ⟨_, rfl, fun K hK => ?_⟩
    have e10 : a.tmps[10]? = some (m10_) := by rw [ha]; exact putSel_on (e := (10, 10, m10_)) 10 rfl rfl (hon 10 (by kernel_rfl)) rfl
    rw [Q_X10_ (hon 10 (by kernel_rfl))] at e10
    have e25 : a.tmps[25]? = some (.agg #[.int .i64 t167, .int .i64 t168]) := by rw [ha]; exact putSel_on (e := (5, 25, .agg #[.int .i64 t167, .int .i64 t168])) 5 rfl rfl (hon 5 (by kernel_rfl)) rfl
    replace ha := Aside0.mk ha
    have BK157 := Aside0.mk Q_BK157
    have BK158 := Aside0.mk Q_BK158
    have BK159 := Aside0.mk Q_BK159
    have BK160 := Aside0.mk Q_BK160
    have HB := Aside0.mk Q_HB
    have NB172_171 := Aside0.mk (Q_NB172_171 (hon 9 (by kernel_rfl)) (hon 10 (by kernel_rfl)))
    have NB171_172 := Aside0.mk (Q_NB171_172 (hon 9 (by kernel_rfl)) (hon 10 (by kernel_rfl)))
    have NB173_171 := Aside0.mk (Q_NB173_171 (hon 9 (by kernel_rfl)) (hon 11 (by kernel_rfl)))
    have NB171_173 := Aside0.mk (Q_NB171_173 (hon 9 (by kernel_rfl)) (hon 11 (by kernel_rfl)))
    have NB173_172 := Aside0.mk (Q_NB173_172 (hon 10 (by kernel_rfl)) (hon 11 (by kernel_rfl)))
    have NB172_173 := Aside0.mk (Q_NB172_173 (hon 10 (by kernel_rfl)) (hon 11 (by kernel_rfl)))
    have GW171 := Aside0.mk (Q_GW171 (hon 9 (by kernel_rfl)))
    have GE171 := Aside0.mk (Q_GE171 (hon 9 (by kernel_rfl)))
    have NB157_171 := Aside0.mk (Q_NB157_171 (hon 9 (by kernel_rfl)))
    have NB171_157 := Aside0.mk (Q_NB171_157 (hon 9 (by kernel_rfl)))
    have NB158_171 := Aside0.mk (Q_NB158_171 (hon 9 (by kernel_rfl)))
    have NB171_158 := Aside0.mk (Q_NB171_158 (hon 9 (by kernel_rfl)))
    have NB159_171 := Aside0.mk (Q_NB159_171 (hon 9 (by kernel_rfl)))
    have NB171_159 := Aside0.mk (Q_NB171_159 (hon 9 (by kernel_rfl)))
    have NB160_171 := Aside0.mk (Q_NB160_171 (hon 9 (by kernel_rfl)))
    have NB171_160 := Aside0.mk (Q_NB171_160 (hon 9 (by kernel_rfl)))
    have BK172 := Aside0.mk (Q_BK172 (hon 10 (by kernel_rfl)) hb_)
    have GW172 := Aside0.mk (Q_GW172 (hon 10 (by kernel_rfl)))
    have GE172 := Aside0.mk (Q_GE172 (hon 10 (by kernel_rfl)))
    have NB157_172 := Aside0.mk (Q_NB157_172 (hon 10 (by kernel_rfl)))
    have NB172_157 := Aside0.mk (Q_NB172_157 (hon 10 (by kernel_rfl)))
    have NB158_172 := Aside0.mk (Q_NB158_172 (hon 10 (by kernel_rfl)))
    have NB172_158 := Aside0.mk (Q_NB172_158 (hon 10 (by kernel_rfl)))
    have NB159_172 := Aside0.mk (Q_NB159_172 (hon 10 (by kernel_rfl)))
    have NB172_159 := Aside0.mk (Q_NB172_159 (hon 10 (by kernel_rfl)))
    have NB160_172 := Aside0.mk (Q_NB160_172 (hon 10 (by kernel_rfl)))
    have NB172_160 := Aside0.mk (Q_NB172_160 (hon 10 (by kernel_rfl)))
    have BK173 := Aside0.mk (Q_BK173 (hon 11 (by kernel_rfl)) (hoff 14 (by kernel_rfl)))
    have GW173 := Aside0.mk (Q_GW173 (hon 11 (by kernel_rfl)))
    have GE173 := Aside0.mk (Q_GE173 (hon 11 (by kernel_rfl)))
    have NB157_173 := Aside0.mk (Q_NB157_173 (hon 11 (by kernel_rfl)))
    have NB173_157 := Aside0.mk (Q_NB173_157 (hon 11 (by kernel_rfl)))
    have NB158_173 := Aside0.mk (Q_NB158_173 (hon 11 (by kernel_rfl)))
    have NB173_158 := Aside0.mk (Q_NB173_158 (hon 11 (by kernel_rfl)))
    have NB159_173 := Aside0.mk (Q_NB159_173 (hon 11 (by kernel_rfl)))
    have NB173_159 := Aside0.mk (Q_NB173_159 (hon 11 (by kernel_rfl)))
    have NB160_173 := Aside0.mk (Q_NB160_173 (hon 11 (by kernel_rfl)))
    have NB173_160 := Aside0.mk (Q_NB173_160 (hon 11 (by kernel_rfl)))
    have BK171 := Aside0.mk (Q_BK171_e12 (hon 12 (by kernel_rfl)))
    have hs50 : w'.cell? ⟨gb172, 0, none⟩ = some (.int .i64 0) := (blk_cell BK172.out 0).trans rfl
    have hfs50 := blk_frozen BK172.out 0
    have hns50_0 := NB157_172.out
    have hns50_1 := NB158_172.out
    have hns50_2 := NB159_172.out
    have hns50_3 := NB160_172.out
    have hns50_4 := NB171_172.out
    have hns50_6 := NB173_172.out
    have hms50_0 := NB172_157.out
    have hms50_1 := NB172_158.out
    have hms50_2 := NB172_159.out
    have hms50_3 := NB172_160.out
    have hms50_4 := NB172_171.out
    have hms50_6 := NB172_173.out
    have hs51 : w'.cell? ⟨gb172, 1, none⟩ = some (.int .i64 0) := (blk_cell BK172.out 1).trans rfl
    have hfs51 := blk_frozen BK172.out 1
    have hns51_0 := NB157_172.out
    have hns51_1 := NB158_172.out
    have hns51_2 := NB159_172.out
    have hns51_3 := NB160_172.out
    have hns51_4 := NB171_172.out
    have hns51_6 := NB173_172.out
    have hms51_0 := NB172_157.out
    have hms51_1 := NB172_158.out
    have hms51_2 := NB172_159.out
    have hms51_3 := NB172_160.out
    have hms51_4 := NB172_171.out
    have hms51_6 := NB172_173.out
    refine skip_ (w1 := ?_) (by rfl) rfl ?_ ?_
    rotate_left
    ·go_simp
     rfl
    refine hK.out _ _ ⟨gb171, gb172, gb173, m9_, m10_, m11_, (by rw [ha.out]; exact putSel_none (v := undef) rfl), (by (with_reducible repeat (first | refine blk_drewN ?_ _ | refine blk_drew ?_ | refine blk_alloc ?_ _)); refine blk_far ?_ NB157_172.out _; (with_reducible repeat (first | refine blk_drewN ?_ _ | refine blk_drew ?_ | refine blk_alloc ?_ _)); refine blk_far ?_ NB157_172.out _; (with_reducible repeat (first | refine blk_drewN ?_ _ | refine blk_drew ?_ | refine blk_alloc ?_ _)); exact BK157.out), (by (with_reducible repeat (first | refine blk_drewN ?_ _ | refine blk_drew ?_ | refine blk_alloc ?_ _)); refine blk_far ?_ NB158_172.out _; (with_reducible repeat (first | refine blk_drewN ?_ _ | refine blk_drew ?_ | refine blk_alloc ?_ _)); refine blk_far ?_ NB158_172.out _; (with_reducible repeat (first | refine blk_drewN ?_ _ | refine blk_drew ?_ | refine blk_alloc ?_ _)); exact BK158.out), (by (with_reducible repeat (first | refine blk_drewN ?_ _ | refine blk_drew ?_ | refine blk_alloc ?_ _)); refine blk_far ?_ NB159_172.out _; (with_reducible repeat (first | refine blk_drewN ?_ _ | refine blk_drew ?_ | refine blk_alloc ?_ _)); refine blk_far ?_ NB159_172.out _; (with_reducible repeat (first | refine blk_drewN ?_ _ | refine blk_drew ?_ | refine blk_alloc ?_ _)); exact BK159.out), (by (with_reducible repeat (first | refine blk_drewN ?_ _ | refine blk_drew ?_ | refine blk_alloc ?_ _)); refine blk_far ?_ NB160_172.out _; (with_reducible repeat (first | refine blk_drewN ?_ _ | refine blk_drew ?_ | refine blk_alloc ?_ _)); refine blk_far ?_ NB160_172.out _; (with_reducible repeat (first | refine blk_drewN ?_ _ | refine blk_drew ?_ | refine blk_alloc ?_ _)); exact BK160.out), (by repeat (first | (with_reducible first | exact HB.out | apply below_alloc | apply pw_below_drewN | apply below_drew1 | refine below_set ?_ GE157.out | refine below_set ?_ GE158.out | refine below_set ?_ GE159.out | refine below_set ?_ GE160.out | refine below_set ?_ GE171.out | refine below_set ?_ GE172.out | refine below_set ?_ GE173.out) | exact HB.out)), fun _ _ => NB172_171.out, fun _ _ => NB171_172.out, fun _ _ => NB173_171.out, fun _ _ => NB171_173.out, fun _ _ => NB173_172.out, fun _ _ => NB172_173.out, fun _ h1_ => absurd ((hon 12 (by kernel_rfl)).symm.trans h1_) (by decide), fun _ => GW171.out, fun _ => GE171.out, fun _ => NB157_171.out, fun _ => NB171_157.out, fun _ => NB158_171.out, fun _ => NB171_158.out, fun _ => NB159_171.out, fun _ => NB171_159.out, fun _ => NB160_171.out, fun _ => NB171_160.out, fun _ h1_ => absurd ((up_self b 13).symm.trans h1_) (by decide), fun _ => GW172.out, fun _ => GE172.out, fun _ => NB157_172.out, fun _ => NB172_157.out, fun _ => NB158_172.out, fun _ => NB172_158.out, fun _ => NB159_172.out, fun _ => NB172_159.out, fun _ => NB160_172.out, fun _ => NB172_160.out, fun _ _ => (by (with_reducible repeat (first | refine blk_drewN ?_ _ | refine blk_drew ?_ | refine blk_alloc ?_ _)); refine blk_far ?_ NB173_172.out _; (with_reducible repeat (first | refine blk_drewN ?_ _ | refine blk_drew ?_ | refine blk_alloc ?_ _)); refine blk_far ?_ NB173_172.out _; (with_reducible repeat (first | refine blk_drewN ?_ _ | refine blk_drew ?_ | refine blk_alloc ?_ _)); exact BK173.out), fun _ => GW173.out, fun _ => GE173.out, fun _ => NB157_173.out, fun _ => NB173_157.out, fun _ => NB158_173.out, fun _ => NB173_158.out, fun _ => NB159_173.out, fun _ => NB173_159.out, fun _ => NB160_173.out, fun _ => NB173_160.out, fun _ => (by (with_reducible repeat (first | refine blk_drewN ?_ _ | refine blk_drew ?_ | refine blk_alloc ?_ _)); refine blk_far ?_ NB171_172.out _; (with_reducible repeat (first | refine blk_drewN ?_ _ | refine blk_drew ?_ | refine blk_alloc ?_ _)); refine blk_far ?_ NB171_172.out _; (with_reducible repeat (first | refine blk_drewN ?_ _ | refine blk_drew ?_ | refine blk_alloc ?_ _)); exact BK171.out), fun _ => (by (with_reducible repeat (first | refine blk_drewN ?_ _ | refine blk_drew ?_ | refine blk_alloc ?_ _)); refine blk_put (cs := #[.int .i64 t167, .int .i64 0]) ?_ 1 _ rfl; (with_reducible repeat (first | refine blk_drewN ?_ _ | refine blk_drew ?_ | refine blk_alloc ?_ _)); refine blk_put (cs := #[.int .i64 0, .int .i64 0]) ?_ 0 _ rfl; (with_reducible repeat (first | refine blk_drewN ?_ _ | refine blk_drew ?_ | refine blk_alloc ?_ _)); exact BK172.out), fun h0_ => absurd ((hoff 14 (by kernel_rfl)).symm.trans h0_) (by decide), Q_X9_, Q_X10_, Q_X11_⟩
   refine steps_cons ?_ ?_
   ·rintro b a w' ⟨gb171, gb172, gb173, m9_, m10_, m11_, ha, Q_BK157, Q_BK158, Q_BK159, Q_BK160, Q_HB, Q_NB172_171, Q_NB171_172, Q_NB173_171, Q_NB171_173, Q_NB173_172, Q_NB172_173, Q_BK171, Q_GW171, Q_GE171, Q_NB157_171, Q_NB171_157, Q_NB158_171, Q_NB171_158, Q_NB159_171, Q_NB171_159, Q_NB160_171, Q_NB171_160, Q_BK172, Q_GW172, Q_GE172, Q_NB157_172, Q_NB172_157, Q_NB158_172, Q_NB172_158, Q_NB159_172, Q_NB172_159, Q_NB160_172, Q_NB172_160, Q_BK173, Q_GW173, Q_GE173, Q_NB157_173, Q_NB173_157, Q_NB158_173, Q_NB173_158, Q_NB159_173, Q_NB173_159, Q_NB160_173, Q_NB173_160, Q_BK171_e12, Q_BK172_e13, Q_BK173_e14, Q_X9_, Q_X10_, Q_X11_⟩ hb_ hon hoff
    refine ⟨_, rfl, fun K hK => ?_⟩
    have e11 : a.tmps[11]? = some (m11_) := by rw [ha]; exact putSel_on (e := (11, 11, m11_)) 11 rfl rfl (hon 11 (by kernel_rfl)) rfl
    rw [Q_X11_ (hon 11 (by kernel_rfl))] at e11
    have e28 : a.tmps[28]? = some (.agg #[.int .i64 t169, .int .i64 t170]) := by rw [ha]; exact putSel_on (e := (8, 28, .agg #[.int .i64 t169, .int .i64 t170])) 8 rfl rfl (hon 8 (by kernel_rfl)) rfl
    replace ha := Aside0.mk ha
    have BK157 := Aside0.mk Q_BK157
    have BK158 := Aside0.mk Q_BK158
    have BK159 := Aside0.mk Q_BK159
    have BK160 := Aside0.mk Q_BK160
    have HB := Aside0.mk Q_HB
    have NB172_171 := Aside0.mk (Q_NB172_171 (hon 9 (by kernel_rfl)) (hon 10 (by kernel_rfl)))
    have NB171_172 := Aside0.mk (Q_NB171_172 (hon 9 (by kernel_rfl)) (hon 10 (by kernel_rfl)))
    have NB173_171 := Aside0.mk (Q_NB173_171 (hon 9 (by kernel_rfl)) (hon 11 (by kernel_rfl)))
    have NB171_173 := Aside0.mk (Q_NB171_173 (hon 9 (by kernel_rfl)) (hon 11 (by kernel_rfl)))
    have NB173_172 := Aside0.mk (Q_NB173_172 (hon 10 (by kernel_rfl)) (hon 11 (by kernel_rfl)))
    have NB172_173 := Aside0.mk (Q_NB172_173 (hon 10 (by kernel_rfl)) (hon 11 (by kernel_rfl)))
    have GW171 := Aside0.mk (Q_GW171 (hon 9 (by kernel_rfl)))
    have GE171 := Aside0.mk (Q_GE171 (hon 9 (by kernel_rfl)))
    have NB157_171 := Aside0.mk (Q_NB157_171 (hon 9 (by kernel_rfl)))
    have NB171_157 := Aside0.mk (Q_NB171_157 (hon 9 (by kernel_rfl)))
    have NB158_171 := Aside0.mk (Q_NB158_171 (hon 9 (by kernel_rfl)))
    have NB171_158 := Aside0.mk (Q_NB171_158 (hon 9 (by kernel_rfl)))
    have NB159_171 := Aside0.mk (Q_NB159_171 (hon 9 (by kernel_rfl)))
    have NB171_159 := Aside0.mk (Q_NB171_159 (hon 9 (by kernel_rfl)))
    have NB160_171 := Aside0.mk (Q_NB160_171 (hon 9 (by kernel_rfl)))
    have NB171_160 := Aside0.mk (Q_NB171_160 (hon 9 (by kernel_rfl)))
    have GW172 := Aside0.mk (Q_GW172 (hon 10 (by kernel_rfl)))
    have GE172 := Aside0.mk (Q_GE172 (hon 10 (by kernel_rfl)))
    have NB157_172 := Aside0.mk (Q_NB157_172 (hon 10 (by kernel_rfl)))
    have NB172_157 := Aside0.mk (Q_NB172_157 (hon 10 (by kernel_rfl)))
    have NB158_172 := Aside0.mk (Q_NB158_172 (hon 10 (by kernel_rfl)))
    have NB172_158 := Aside0.mk (Q_NB172_158 (hon 10 (by kernel_rfl)))
    have NB159_172 := Aside0.mk (Q_NB159_172 (hon 10 (by kernel_rfl)))
    have NB172_159 := Aside0.mk (Q_NB172_159 (hon 10 (by kernel_rfl)))
    have NB160_172 := Aside0.mk (Q_NB160_172 (hon 10 (by kernel_rfl)))
    have NB172_160 := Aside0.mk (Q_NB172_160 (hon 10 (by kernel_rfl)))
    have BK173 := Aside0.mk (Q_BK173 (hon 11 (by kernel_rfl)) hb_)
    have GW173 := Aside0.mk (Q_GW173 (hon 11 (by kernel_rfl)))
    have GE173 := Aside0.mk (Q_GE173 (hon 11 (by kernel_rfl)))
    have NB157_173 := Aside0.mk (Q_NB157_173 (hon 11 (by kernel_rfl)))
    have NB173_157 := Aside0.mk (Q_NB173_157 (hon 11 (by kernel_rfl)))
    have NB158_173 := Aside0.mk (Q_NB158_173 (hon 11 (by kernel_rfl)))
    have NB173_158 := Aside0.mk (Q_NB173_158 (hon 11 (by kernel_rfl)))
    have NB159_173 := Aside0.mk (Q_NB159_173 (hon 11 (by kernel_rfl)))
    have NB173_159 := Aside0.mk (Q_NB173_159 (hon 11 (by kernel_rfl)))
    have NB160_173 := Aside0.mk (Q_NB160_173 (hon 11 (by kernel_rfl)))
    have NB173_160 := Aside0.mk (Q_NB173_160 (hon 11 (by kernel_rfl)))
    have BK171 := Aside0.mk (Q_BK171_e12 (hon 12 (by kernel_rfl)))
    have BK172 := Aside0.mk (Q_BK172_e13 (hon 13 (by kernel_rfl)))
    have hs52 : w'.cell? ⟨gb173, 0, none⟩ = some (.int .i64 0) := (blk_cell BK173.out 0).trans rfl
    have hfs52 := blk_frozen BK173.out 0
    have hns52_0 := NB157_173.out
    have hns52_1 := NB158_173.out
    have hns52_2 := NB159_173.out
    have hns52_3 := NB160_173.out
    have hns52_4 := NB171_173.out
    have hns52_5 := NB172_173.out
    have hms52_0 := NB173_157.out
    have hms52_1 := NB173_158.out
    have hms52_2 := NB173_159.out
    have hms52_3 := NB173_160.out
    have hms52_4 := NB173_171.out
    have hms52_5 := NB173_172.out
    have hs53 : w'.cell? ⟨gb173, 1, none⟩ = some (.int .i64 0) := (blk_cell BK173.out 1).trans rfl
    have hfs53 := blk_frozen BK173.out 1
    have hns53_0 := NB157_173.out
    have hns53_1 := NB158_173.out
    have hns53_2 := NB159_173.out
    have hns53_3 := NB160_173.out
    have hns53_4 := NB171_173.out
    have hns53_5 := NB172_173.out
    have hms53_0 := NB173_157.out
    have hms53_1 := NB173_158.out
    have hms53_2 := NB173_159.out
    have hms53_3 := NB173_160.out
    have hms53_4 := NB173_171.out
    have hms53_5 := NB173_172.out
    refine skip_ (w1 := ?_) (by rfl) rfl ?_ ?_
    rotate_left
    ·go_simp
     rfl
    refine hK.out _ _ ⟨gb171, gb172, gb173, m9_, m10_, m11_, (by rw [ha.out]; exact putSel_none (v := undef) rfl), (by (with_reducible repeat (first | refine blk_drewN ?_ _ | refine blk_drew ?_ | refine blk_alloc ?_ _)); refine blk_far ?_ NB157_173.out _; (with_reducible repeat (first | refine blk_drewN ?_ _ | refine blk_drew ?_ | refine blk_alloc ?_ _)); refine blk_far ?_ NB157_173.out _; (with_reducible repeat (first | refine blk_drewN ?_ _ | refine blk_drew ?_ | refine blk_alloc ?_ _)); exact BK157.out), (by (with_reducible repeat (first | refine blk_drewN ?_ _ | refine blk_drew ?_ | refine blk_alloc ?_ _)); refine blk_far ?_ NB158_173.out _; (with_reducible repeat (first | refine blk_drewN ?_ _ | refine blk_drew ?_ | refine blk_alloc ?_ _)); refine blk_far ?_ NB158_173.out _; (with_reducible repeat (first | refine blk_drewN ?_ _ | refine blk_drew ?_ | refine blk_alloc ?_ _)); exact BK158.out), (by (with_reducible repeat (first | refine blk_drewN ?_ _ | refine blk_drew ?_ | refine blk_alloc ?_ _)); refine blk_far ?_ NB159_173.out _; (with_reducible repeat (first | refine blk_drewN ?_ _ | refine blk_drew ?_ | refine blk_alloc ?_ _)); refine blk_far ?_ NB159_173.out _; (with_reducible repeat (first | refine blk_drewN ?_ _ | refine blk_drew ?_ | refine blk_alloc ?_ _)); exact BK159.out), (by (with_reducible repeat (first | refine blk_drewN ?_ _ | refine blk_drew ?_ | refine blk_alloc ?_ _)); refine blk_far ?_ NB160_173.out _; (with_reducible repeat (first | refine blk_drewN ?_ _ | refine blk_drew ?_ | refine blk_alloc ?_ _)); refine blk_far ?_ NB160_173.out _; (with_reducible repeat (first | refine blk_drewN ?_ _ | refine blk_drew ?_ | refine blk_alloc ?_ _)); exact BK160.out), (by repeat (first | (with_reducible first | exact HB.out | apply below_alloc | apply pw_below_drewN | apply below_drew1 | refine below_set ?_ GE157.out | refine below_set ?_ GE158.out | refine below_set ?_ GE159.out | refine below_set ?_ GE160.out | refine below_set ?_ GE171.out | refine below_set ?_ GE172.out | refine below_set ?_ GE173.out) | exact HB.out)), fun _ _ => NB172_171.out, fun _ _ => NB171_172.out, fun _ _ => NB173_171.out, fun _ _ => NB171_173.out, fun _ _ => NB173_172.out, fun _ _ => NB172_173.out, fun _ h1_ => absurd ((hon 12 (by kernel_rfl)).symm.trans h1_) (by decide), fun _ => GW171.out, fun _ => GE171.out, fun _ => NB157_171.out, fun _ => NB171_157.out, fun _ => NB158_171.out, fun _ => NB171_158.out, fun _ => NB159_171.out, fun _ => NB171_159.out, fun _ => NB160_171.out, fun _ => NB171_160.out, fun _ h1_ => absurd ((hon 13 (by kernel_rfl)).symm.trans h1_) (by decide), fun _ => GW172.out, fun _ => GE172.out, fun _ => NB157_172.out, fun _ => NB172_157.out, fun _ => NB158_172.out, fun _ => NB172_158.out, fun _ => NB159_172.out, fun _ => NB172_159.out, fun _ => NB160_172.out, fun _ => NB172_160.out, fun _ h1_ => absurd ((up_self b 14).symm.trans h1_) (by decide), fun _ => GW173.out, fun _ => GE173.out, fun _ => NB157_173.out, fun _ => NB173_157.out, fun _ => NB158_173.out, fun _ => NB173_158.out, fun _ => NB159_173.out, fun _ => NB173_159.out, fun _ => NB160_173.out, fun _ => NB173_160.out, fun _ => (by (with_reducible repeat (first | refine blk_drewN ?_ _ | refine blk_drew ?_ | refine blk_alloc ?_ _)); refine blk_far ?_ NB171_173.out _; (with_reducible repeat (first | refine blk_drewN ?_ _ | refine blk_drew ?_ | refine blk_alloc ?_ _)); refine blk_far ?_ NB171_173.out _; (with_reducible repeat (first | refine blk_drewN ?_ _ | refine blk_drew ?_ | refine blk_alloc ?_ _)); exact BK171.out), fun _ => (by (with_reducible repeat (first | refine blk_drewN ?_ _ | refine blk_drew ?_ | refine blk_alloc ?_ _)); refine blk_far ?_ NB172_173.out _; (with_reducible repeat (first | refine blk_drewN ?_ _ | refine blk_drew ?_ | refine blk_alloc ?_ _)); refine blk_far ?_ NB172_173.out _; (with_reducible repeat (first | refine blk_drewN ?_ _ | refine blk_drew ?_ | refine blk_alloc ?_ _)); exact BK172.out), fun _ => (by (with_reducible repeat (first | refine blk_drewN ?_ _ | refine blk_drew ?_ | refine blk_alloc ?_ _)); refine blk_put (cs := #[.int .i64 t169, .int .i64 0]) ?_ 1 _ rfl; (with_reducible repeat (first | refine blk_drewN ?_ _ | refine blk_drew ?_ | refine blk_alloc ?_ _)); refine blk_put (cs := #[.int .i64 0, .int .i64 0]) ?_ 0 _ rfl; (with_reducible repeat (first | refine blk_drewN ?_ _ | refine blk_drew ?_ | refine blk_alloc ?_ _)); exact BK173.out), Q_X9_, Q_X10_, Q_X11_⟩
   exact steps_nil
  rintro b a w53 hall ⟨gb171, gb172, gb173, m9_, m10_, m11_, ha, Q_BK157, Q_BK158, Q_BK159, Q_BK160, Q_HB, Q_NB172_171, Q_NB171_172, Q_NB173_171, Q_NB171_173, Q_NB173_172, Q_NB172_173, Q_BK171, Q_GW171, Q_GE171, Q_NB157_171, Q_NB171_157, Q_NB158_171, Q_NB171_158, Q_NB159_171, Q_NB171_159, Q_NB160_171, Q_NB171_160, Q_BK172, Q_GW172, Q_GE172, Q_NB157_172, Q_NB172_157, Q_NB158_172, Q_NB172_158, Q_NB159_172, Q_NB172_159, Q_NB160_172, Q_NB172_160, Q_BK173, Q_GW173, Q_GE173, Q_NB157_173, Q_NB173_157, Q_NB158_173, Q_NB173_158, Q_NB159_173, Q_NB173_159, Q_NB160_173, Q_NB173_160, Q_BK171_e12, Q_BK172_e13, Q_BK173_e14, Q_X9_, Q_X10_, Q_X11_⟩
  clear BK157 BK158 BK159 BK160 HB
  have hb0_ := hall 0 (by kernel_rfl)
  have hb1_ := hall 1 (by kernel_rfl)
  have hb2_ := hall 2 (by kernel_rfl)
  have hb3_ := hall 3 (by kernel_rfl)
  have hb4_ := hall 4 (by kernel_rfl)
  have hb5_ := hall 5 (by kernel_rfl)
  have hb6_ := hall 6 (by kernel_rfl)
  have hb7_ := hall 7 (by kernel_rfl)
  have hb8_ := hall 8 (by kernel_rfl)
  have hb9_ := hall 9 (by kernel_rfl)
  have hb10_ := hall 10 (by kernel_rfl)
  have hb11_ := hall 11 (by kernel_rfl)
  have hb12_ := hall 12 (by kernel_rfl)
  have hb13_ := hall 13 (by kernel_rfl)
  have hb14_ := hall 14 (by kernel_rfl)
  subst ha
  obtain rfl := Q_X9_ hb9_
  obtain rfl := Q_X10_ hb10_
  obtain rfl := Q_X11_ hb11_
  simp only [putSel, hb0_, hb1_, hb2_, hb3_, hb4_, hb5_, hb6_, hb7_, hb8_, hb9_, hb10_, hb11_, hb12_, hb13_, hb14_, if_true, Act.put, List.setIfInBounds_toArray, List.set_cons_zero, List.set_cons_succ]
  have BK157 := Aside0.mk Q_BK157
  clear Q_BK157
  have BK158 := Aside0.mk Q_BK158
  clear Q_BK158
  have BK159 := Aside0.mk Q_BK159
  clear Q_BK159
  have BK160 := Aside0.mk Q_BK160
  clear Q_BK160
  have HB := Aside0.mk Q_HB
  clear Q_HB
  have NB172_171 := Aside0.mk (Q_NB172_171 hb9_ hb10_)
  clear Q_NB172_171
  have NB171_172 := Aside0.mk (Q_NB171_172 hb9_ hb10_)
  clear Q_NB171_172
  have NB173_171 := Aside0.mk (Q_NB173_171 hb9_ hb11_)
  clear Q_NB173_171
  have NB171_173 := Aside0.mk (Q_NB171_173 hb9_ hb11_)
  clear Q_NB171_173
  have NB173_172 := Aside0.mk (Q_NB173_172 hb10_ hb11_)
  clear Q_NB173_172
  have NB172_173 := Aside0.mk (Q_NB172_173 hb10_ hb11_)
  clear Q_NB172_173
  clear Q_BK171
  have GW171 := Aside0.mk (Q_GW171 hb9_)
  clear Q_GW171
  have GE171 := Aside0.mk (Q_GE171 hb9_)
  clear Q_GE171
  have NB157_171 := Aside0.mk (Q_NB157_171 hb9_)
  clear Q_NB157_171
  have NB171_157 := Aside0.mk (Q_NB171_157 hb9_)
  clear Q_NB171_157
  have NB158_171 := Aside0.mk (Q_NB158_171 hb9_)
  clear Q_NB158_171
  have NB171_158 := Aside0.mk (Q_NB171_158 hb9_)
  clear Q_NB171_158
  have NB159_171 := Aside0.mk (Q_NB159_171 hb9_)
  clear Q_NB159_171
  have NB171_159 := Aside0.mk (Q_NB171_159 hb9_)
  clear Q_NB171_159
  have NB160_171 := Aside0.mk (Q_NB160_171 hb9_)
  clear Q_NB160_171
  have NB171_160 := Aside0.mk (Q_NB171_160 hb9_)
  clear Q_NB171_160
  clear Q_BK172
  have GW172 := Aside0.mk (Q_GW172 hb10_)
  clear Q_GW172
  have GE172 := Aside0.mk (Q_GE172 hb10_)
  clear Q_GE172
  have NB157_172 := Aside0.mk (Q_NB157_172 hb10_)
  clear Q_NB157_172
  have NB172_157 := Aside0.mk (Q_NB172_157 hb10_)
  clear Q_NB172_157
  have NB158_172 := Aside0.mk (Q_NB158_172 hb10_)
  clear Q_NB158_172
  have NB172_158 := Aside0.mk (Q_NB172_158 hb10_)
  clear Q_NB172_158
  have NB159_172 := Aside0.mk (Q_NB159_172 hb10_)
  clear Q_NB159_172
  have NB172_159 := Aside0.mk (Q_NB172_159 hb10_)
  clear Q_NB172_159
  have NB160_172 := Aside0.mk (Q_NB160_172 hb10_)
  clear Q_NB160_172
  have NB172_160 := Aside0.mk (Q_NB172_160 hb10_)
  clear Q_NB172_160
  clear Q_BK173
  have GW173 := Aside0.mk (Q_GW173 hb11_)
  clear Q_GW173
  have GE173 := Aside0.mk (Q_GE173 hb11_)
  clear Q_GE173
  have NB157_173 := Aside0.mk (Q_NB157_173 hb11_)
  clear Q_NB157_173
  have NB173_157 := Aside0.mk (Q_NB173_157 hb11_)
  clear Q_NB173_157
  have NB158_173 := Aside0.mk (Q_NB158_173 hb11_)
  clear Q_NB158_173
  have NB173_158 := Aside0.mk (Q_NB173_158 hb11_)
  clear Q_NB173_158
  have NB159_173 := Aside0.mk (Q_NB159_173 hb11_)
  clear Q_NB159_173
  have NB173_159 := Aside0.mk (Q_NB173_159 hb11_)
  clear Q_NB173_159
  have NB160_173 := Aside0.mk (Q_NB160_173 hb11_)
  clear Q_NB160_173
  have NB173_160 := Aside0.mk (Q_NB173_160 hb11_)
  clear Q_NB173_160
  have BK171 := Aside0.mk (Q_BK171_e12 hb12_)
  clear Q_BK171_e12
  have BK172 := Aside0.mk (Q_BK172_e13 hb13_)
  clear Q_BK172_e13
  have BK173 := Aside0.mk (Q_BK173_e14 hb14_)
  clear Q_BK173_e14
  clear hall hb0_ hb1_ hb2_ hb3_ hb4_ hb5_ hb6_ hb7_ hb8_ hb9_ hb10_ hb11_ hb12_ hb13_ hb14_
  try go_wp2
  have n0_ := Aside0.mk (blk_drew BK171.out)
  have n1_ := Aside0.mk (blk_drew BK172.out)
  have n2_ := Aside0.mk (blk_drew BK173.out)
  have n3_ := Aside0.mk (below_drew1 HB.out)
  clear BK171
  clear BK172
  clear BK173
  clear HB
  have BK171 := n0_
  have BK172 := n1_
  have BK173 := n2_
  have HB := n3_
  clear n0_ n1_ n2_ n3_
  refine start_ (n := 8) (S := fun w' => True) (ds := []) #[F_,F_,F_,F_,F_,F_,F_,F_] (by kernel_rfl) rfl rfl trivial (fun hHeld => ?_); refine with_tabW pred_InCircle.tab4 pred_InCircle.bits4 (fun HT_ HW_ => ?_)
  generalize w53.drew = w54 at BK171 BK172 BK173 HB hHeld ⊢
  refine inv_at [0, 1, 2, 3, 4, 5, 6, 7] (fun a0_ b a w' => ∃ (gb182 : Nat) (m6_ : Value), a = putSel a0_ b [(0, 29, .agg #[.int .i64 t165, .int .i64 t166]), (1, 30, .agg #[.int .i64 t174, .int .u64 t175]), (2, 31, .agg #[.int .i64 t167, .int .i64 t168]), (3, 32, .agg #[.int .i64 t169, .int .i64 t170]), (4, 33, .agg #[.int .i64 t176, .int .u64 t177]), (5, 34, .agg #[.int .u64 t178, .int .u64 t179, .int .u64 t180, .int .u64 t181]), (6, 12, m6_)] ∧ (w'.heap[gb171]? = some (.cells #[.int .i64 t165, .int .i64 t166] 23 (0, 0))) ∧ (w'.heap[gb172]? = some (.cells #[.int .i64 t167, .int .i64 t168] 23 (0, 0))) ∧ (w'.heap[gb173]? = some (.cells #[.int .i64 t169, .int .i64 t170] 23 (0, 0))) ∧ (Below w.heap.size w w') ∧ (b 6 = true → b 7 = false → w'.heap[gb182]? = some (.cells #[.int .u64 0, .int .u64 0, .int .u64 0, .int .u64 0] 50 (0, 0))) ∧ (b 6 = true → w.heap.size ≤ gb182) ∧ (b 6 = true → w.heap.size ≤ gb182) ∧ (b 6 = true → gb171 ≠ gb182) ∧ (b 6 = true → gb182 ≠ gb171) ∧ (b 6 = true → gb172 ≠ gb182) ∧ (b 6 = true → gb182 ≠ gb172) ∧ (b 6 = true → gb173 ≠ gb182) ∧ (b 6 = true → gb182 ≠ gb173) ∧ (b 7 = true → w'.heap[gb182]? = some (.cells #[.int .u64 t178, .int .u64 t179, .int .u64 t180, .int .u64 t181] 50 (0, 0))) ∧ (b 6 = true → (m6_ : Value) = .pointer (some ⟨gb182, 0, none⟩))) HT_.out HW_.out (by kernel_rfl) (by kernel_rfl) ?_ ?_ ?_
  ·exact ⟨0, .bool false, by simp only [putSel, Bool.false_eq_true, if_false], BK171.out, BK172.out, BK173.out, HB.out, fun h_ => absurd h_ (by decide), fun h_ => absurd h_ (by decide), fun h_ => absurd h_ (by decide), fun h_ => absurd h_ (by decide), fun h_ => absurd h_ (by decide), fun h_ => absurd h_ (by decide), fun h_ => absurd h_ (by decide), fun h_ => absurd h_ (by decide), fun h_ => absurd h_ (by decide), fun h_ => absurd h_ (by decide), fun h_ => absurd h_ (by decide)⟩
  ·skip
   clear BK171 BK172 BK173 HB
   refine steps_cons ?_ ?_
   ·rintro b a w' ⟨gb182, m6_, ha, Q_BK171, Q_BK172, Q_BK173, Q_HB, Q_BK182, Q_GW182, Q_GE182, Q_NB171_182, Q_NB182_171, Q_NB172_182, Q_NB182_172, Q_NB173_182, Q_NB182_173, Q_BK182_e7, Q_X6_⟩ hb_ hon hoff
    refine ⟨_, rfl, fun K hK => ?_⟩
    have e9 : a.tmps[9]? = some (.pointer (some ⟨gb171, 0, none⟩)) := by rw [ha]; exact (putSel_off rfl).trans rfl
    replace ha := Aside0.mk ha
    have BK171 := Aside0.mk Q_BK171
    have BK172 := Aside0.mk Q_BK172
    have BK173 := Aside0.mk Q_BK173
    have HB := Aside0.mk Q_HB
    have hc0_ : w'.cell? ⟨gb171, 0, none⟩ = some (.int .i64 t165) := (blk_cell BK171.out 0).trans rfl
    have hc1_ : w'.cell? ⟨gb171, 1, none⟩ = some (.int .i64 t166) := (blk_cell BK171.out 1).trans rfl
    refine value_ (w1 := w') (v := .agg #[.int .i64 t165, .int .i64 t166]) (by rfl) rfl ?_ ?_
    ·go_simp
     (try simp only [i64_w])
     try rfl
    refine hK.out _ _ ⟨gb182, m6_, (by rw [ha.out]; exact putSel_upk 0 hb_ rfl rfl rfl), Q_BK171, Q_BK172, Q_BK173, Q_HB, Q_BK182, Q_GW182, Q_GE182, Q_NB171_182, Q_NB182_171, Q_NB172_182, Q_NB182_172, Q_NB173_182, Q_NB182_173, fun h0_ => absurd ((hoff 7 (by kernel_rfl)).symm.trans h0_) (by decide), Q_X6_⟩
   refine steps_cons ?_ ?_
   ·rintro b a w' ⟨gb182, m6_, ha, Q_BK171, Q_BK172, Q_BK173, Q_HB, Q_BK182, Q_GW182, Q_GE182, Q_NB171_182, Q_NB182_171, Q_NB172_182, Q_NB182_172, Q_NB173_182, Q_NB182_173, Q_BK182_e7, Q_X6_⟩ hb_ hon hoff
    refine ⟨_, rfl, fun K hK => ?_⟩
    have e29 : a.tmps[29]? = some (.agg #[.int .i64 t165, .int .i64 t166]) := by rw [ha]; exact putSel_on (e := (0, 29, .agg #[.int .i64 t165, .int .i64 t166])) 0 rfl rfl (hon 0 (by kernel_rfl)) rfl
    replace ha := Aside0.mk ha
    have BK171 := Aside0.mk Q_BK171
    have BK172 := Aside0.mk Q_BK172
    have BK173 := Aside0.mk Q_BK173
    have HB := Aside0.mk Q_HB
    refine goes_ Try.func26 (by kernel_rfl) rfl #[.agg #[.int .i64 t165, .int .i64 t166]] (by rfl) rfl rfl (by first | (simp only [List.map_toArray, List.map_cons, List.map_nil, Act.eval, Array.getD_eq_getD_getElem?, Option.getD_some, e29]; done) | (simp only [List.map_toArray, List.map_cons, List.map_nil, Act.eval, Array.getD_eq_getD_getElem?, Option.getD_some, e29]; rfl)) ?_
    with_reducible refine (pred_square.calls t165 t166 t174 t175 _ A10.out).mono ?_
    rintro e w55 ⟨rfl, hb⟩
    refine ⟨_, rfl, ?_⟩
    have n0_ := u1 BK171 hb
    have n1_ := u1 BK172 hb
    have n2_ := u1 BK173 hb
    have n3_ := Aside0.mk (below_step (bw HB.out) hb)
    have z_BK182 := fun (h0_ : b 6 = true) (h1_ : b 7 = false) => (show w55.heap[gb182]? = some (.cells #[.int .u64 0, .int .u64 0, .int .u64 0, .int .u64 0] 50 (0, 0)) from by first | exact (blk_below (g := gb182) (o := .cells #[.int .u64 0, .int .u64 0, .int .u64 0, .int .u64 0] 50 (0, 0)) (bk (Q_BK182 h0_ h1_)) hb))
    clear BK171
    clear BK172
    clear BK173
    clear HB
    have BK171 := n0_
    have BK172 := n1_
    have BK173 := n2_
    have HB := n3_
    clear n0_ n1_ n2_ n3_
    (try clear hb)
    (try clear hb2)
    (try clear hk)
    (try clear hi)
    refine hK.out _ _ ⟨gb182, m6_, (by rw [ha.out]; exact putSel_upk 1 hb_ rfl rfl rfl), (bk BK171.out), (bk BK172.out), (bk BK173.out), (bw HB.out), z_BK182, Q_GW182, Q_GE182, Q_NB171_182, Q_NB182_171, Q_NB172_182, Q_NB182_172, Q_NB173_182, Q_NB182_173, fun h0_ => absurd ((hoff 7 (by kernel_rfl)).symm.trans h0_) (by decide), Q_X6_⟩
   refine steps_cons ?_ ?_
   ·rintro b a w' ⟨gb182, m6_, ha, Q_BK171, Q_BK172, Q_BK173, Q_HB, Q_BK182, Q_GW182, Q_GE182, Q_NB171_182, Q_NB182_171, Q_NB172_182, Q_NB182_172, Q_NB173_182, Q_NB182_173, Q_BK182_e7, Q_X6_⟩ hb_ hon hoff
    refine ⟨_, rfl, fun K hK => ?_⟩
    have e10 : a.tmps[10]? = some (.pointer (some ⟨gb172, 0, none⟩)) := by rw [ha]; exact (putSel_off rfl).trans rfl
    replace ha := Aside0.mk ha
    have BK171 := Aside0.mk Q_BK171
    have BK172 := Aside0.mk Q_BK172
    have BK173 := Aside0.mk Q_BK173
    have HB := Aside0.mk Q_HB
    have hc0_ : w'.cell? ⟨gb172, 0, none⟩ = some (.int .i64 t167) := (blk_cell BK172.out 0).trans rfl
    have hc1_ : w'.cell? ⟨gb172, 1, none⟩ = some (.int .i64 t168) := (blk_cell BK172.out 1).trans rfl
    refine value_ (w1 := w') (v := .agg #[.int .i64 t167, .int .i64 t168]) (by rfl) rfl ?_ ?_
    ·go_simp
     (try simp only [i64_w])
     try rfl
    refine hK.out _ _ ⟨gb182, m6_, (by rw [ha.out]; exact putSel_upk 2 hb_ rfl rfl rfl), Q_BK171, Q_BK172, Q_BK173, Q_HB, Q_BK182, Q_GW182, Q_GE182, Q_NB171_182, Q_NB182_171, Q_NB172_182, Q_NB182_172, Q_NB173_182, Q_NB182_173, fun h0_ => absurd ((hoff 7 (by kernel_rfl)).symm.trans h0_) (by decide), Q_X6_⟩
   refine steps_cons ?_ ?_
   ·rintro b a w' ⟨gb182, m6_, ha, Q_BK171, Q_BK172, Q_BK173, Q_HB, Q_BK182, Q_GW182, Q_GE182, Q_NB171_182, Q_NB182_171, Q_NB172_182, Q_NB182_172, Q_NB173_182, Q_NB182_173, Q_BK182_e7, Q_X6_⟩ hb_ hon hoff
    refine ⟨_, rfl, fun K hK => ?_⟩
    have e11 : a.tmps[11]? = some (.pointer (some ⟨gb173, 0, none⟩)) := by rw [ha]; exact (putSel_off rfl).trans rfl
    replace ha := Aside0.mk ha
    have BK171 := Aside0.mk Q_BK171
    have BK172 := Aside0.mk Q_BK172
    have BK173 := Aside0.mk Q_BK173
    have HB := Aside0.mk Q_HB
    have hc0_ : w'.cell? ⟨gb173, 0, none⟩ = some (.int .i64 t169) := (blk_cell BK173.out 0).trans rfl
    have hc1_ : w'.cell? ⟨gb173, 1, none⟩ = some (.int .i64 t170) := (blk_cell BK173.out 1).trans rfl
    refine value_ (w1 := w') (v := .agg #[.int .i64 t169, .int .i64 t170]) (by rfl) rfl ?_ ?_
    ·go_simp
     (try simp only [i64_w])
     try rfl
    refine hK.out _ _ ⟨gb182, m6_, (by rw [ha.out]; exact putSel_upk 3 hb_ rfl rfl rfl), Q_BK171, Q_BK172, Q_BK173, Q_HB, Q_BK182, Q_GW182, Q_GE182, Q_NB171_182, Q_NB182_171, Q_NB172_182, Q_NB182_172, Q_NB173_182, Q_NB182_173, fun h0_ => absurd ((hoff 7 (by kernel_rfl)).symm.trans h0_) (by decide), Q_X6_⟩
   refine steps_cons ?_ ?_
   ·rintro b a w' ⟨gb182, m6_, ha, Q_BK171, Q_BK172, Q_BK173, Q_HB, Q_BK182, Q_GW182, Q_GE182, Q_NB171_182, Q_NB182_171, Q_NB172_182, Q_NB182_172, Q_NB173_182, Q_NB182_173, Q_BK182_e7, Q_X6_⟩ hb_ hon hoff
    refine ⟨_, rfl, fun K hK => ?_⟩
    have e31 : a.tmps[31]? = some (.agg #[.int .i64 t167, .int .i64 t168]) := by rw [ha]; exact putSel_on (e := (2, 31, .agg #[.int .i64 t167, .int .i64 t168])) 2 rfl rfl (hon 2 (by kernel_rfl)) rfl
    have e32 : a.tmps[32]? = some (.agg #[.int .i64 t169, .int .i64 t170]) := by rw [ha]; exact putSel_on (e := (3, 32, .agg #[.int .i64 t169, .int .i64 t170])) 3 rfl rfl (hon 3 (by kernel_rfl)) rfl
    replace ha := Aside0.mk ha
    have BK171 := Aside0.mk Q_BK171
    have BK172 := Aside0.mk Q_BK172
    have BK173 := Aside0.mk Q_BK173
    have HB := Aside0.mk Q_HB
    refine goes_ Try.func27 (by kernel_rfl) rfl #[.agg #[.int .i64 t167, .int .i64 t168], .agg #[.int .i64 t169, .int .i64 t170]] (by rfl) rfl rfl (by first | (simp only [List.map_toArray, List.map_cons, List.map_nil, Act.eval, Array.getD_eq_getD_getElem?, Option.getD_some, e31, e32]; done) | (simp only [List.map_toArray, List.map_cons, List.map_nil, Act.eval, Array.getD_eq_getD_getElem?, Option.getD_some, e31, e32]; rfl)) ?_
    with_reducible refine (pred_across.calls t167 t168 t169 t170 t176 t177 _ A11.out).mono ?_
    rintro e w57 ⟨rfl, hb⟩
    refine ⟨_, rfl, ?_⟩
    have n0_ := u1 BK171 hb
    have n1_ := u1 BK172 hb
    have n2_ := u1 BK173 hb
    have n3_ := Aside0.mk (below_step (bw HB.out) hb)
    have z_BK182 := fun (h0_ : b 6 = true) (h1_ : b 7 = false) => (show w57.heap[gb182]? = some (.cells #[.int .u64 0, .int .u64 0, .int .u64 0, .int .u64 0] 50 (0, 0)) from by first | exact (blk_below (g := gb182) (o := .cells #[.int .u64 0, .int .u64 0, .int .u64 0, .int .u64 0] 50 (0, 0)) (bk (Q_BK182 h0_ h1_)) hb))
    clear BK171
    clear BK172
    clear BK173
    clear HB
    have BK171 := n0_
    have BK172 := n1_
    have BK173 := n2_
    have HB := n3_
    clear n0_ n1_ n2_ n3_
    (try clear hb)
    (try clear hb2)
    (try clear hk)
    (try clear hi)
    refine hK.out _ _ ⟨gb182, m6_, (by rw [ha.out]; exact putSel_upk 4 hb_ rfl rfl rfl), (bk BK171.out), (bk BK172.out), (bk BK173.out), (bw HB.out), z_BK182, Q_GW182, Q_GE182, Q_NB171_182, Q_NB182_171, Q_NB172_182, Q_NB182_172, Q_NB173_182, Q_NB182_173, fun h0_ => absurd ((hoff 7 (by kernel_rfl)).symm.trans h0_) (by decide), Q_X6_⟩
   refine steps_cons ?_ ?_
   ·rintro b a w' ⟨gb182, m6_, ha, Q_BK171, Q_BK172, Q_BK173, Q_HB, Q_BK182, Q_GW182, Q_GE182, Q_NB171_182, Q_NB182_171, Q_NB172_182, Q_NB182_172, Q_NB173_182, Q_NB182_173, Q_BK182_e7, Q_X6_⟩ hb_ hon hoff
    refine ⟨_, rfl, fun K hK => ?_⟩
    have e30 : a.tmps[30]? = some (.agg #[.int .i64 t174, .int .u64 t175]) := by rw [ha]; exact putSel_on (e := (1, 30, .agg #[.int .i64 t174, .int .u64 t175])) 1 rfl rfl (hon 1 (by kernel_rfl)) rfl
    have e33 : a.tmps[33]? = some (.agg #[.int .i64 t176, .int .u64 t177]) := by rw [ha]; exact putSel_on (e := (4, 33, .agg #[.int .i64 t176, .int .u64 t177])) 4 rfl rfl (hon 4 (by kernel_rfl)) rfl
    replace ha := Aside0.mk ha
    have BK171 := Aside0.mk Q_BK171
    have BK172 := Aside0.mk Q_BK172
    have BK173 := Aside0.mk Q_BK173
    have HB := Aside0.mk Q_HB
    refine goes_ Try.func25 (by kernel_rfl) rfl #[.agg #[.int .i64 t174, .int .u64 t175], .agg #[.int .i64 t176, .int .u64 t177]] (by rfl) rfl rfl (by first | (simp only [List.map_toArray, List.map_cons, List.map_nil, Act.eval, Array.getD_eq_getD_getElem?, Option.getD_some, e30, e33]; done) | (simp only [List.map_toArray, List.map_cons, List.map_nil, Act.eval, Array.getD_eq_getD_getElem?, Option.getD_some, e30, e33]; rfl)) ?_
    with_reducible refine (quad_Mul.calls t174 t175 t176 t177 t178 t179 t180 t181 _ A12.out).mono ?_
    rintro e w58 ⟨rfl, hb⟩
    refine ⟨_, rfl, ?_⟩
    have n0_ := u1 BK171 hb
    have n1_ := u1 BK172 hb
    have n2_ := u1 BK173 hb
    have n3_ := Aside0.mk (below_step (bw HB.out) hb)
    have z_BK182 := fun (h0_ : b 6 = true) (h1_ : b 7 = false) => (show w58.heap[gb182]? = some (.cells #[.int .u64 0, .int .u64 0, .int .u64 0, .int .u64 0] 50 (0, 0)) from by first | exact (blk_below (g := gb182) (o := .cells #[.int .u64 0, .int .u64 0, .int .u64 0, .int .u64 0] 50 (0, 0)) (bk (Q_BK182 h0_ h1_)) hb))
    clear BK171
    clear BK172
    clear BK173
    clear HB
    have BK171 := n0_
    have BK172 := n1_
    have BK173 := n2_
    have HB := n3_
    clear n0_ n1_ n2_ n3_
    (try clear hb)
    (try clear hb2)
    (try clear hk)
    (try clear hi)
    refine hK.out _ _ ⟨gb182, m6_, (by rw [ha.out]; exact putSel_upk 5 hb_ rfl rfl rfl), (bk BK171.out), (bk BK172.out), (bk BK173.out), (bw HB.out), z_BK182, Q_GW182, Q_GE182, Q_NB171_182, Q_NB182_171, Q_NB172_182, Q_NB182_172, Q_NB173_182, Q_NB182_173, fun h0_ => absurd ((hoff 7 (by kernel_rfl)).symm.trans h0_) (by decide), Q_X6_⟩
   refine steps_cons ?_ ?_
   ·rintro b a w' ⟨gb182, m6_, ha, Q_BK171, Q_BK172, Q_BK173, Q_HB, Q_BK182, Q_GW182, Q_GE182, Q_NB171_182, Q_NB182_171, Q_NB172_182, Q_NB182_172, Q_NB173_182, Q_NB182_173, Q_BK182_e7, Q_X6_⟩ hb_ hon hoff
    refine ⟨_, rfl, fun K hK => ?_⟩
    replace ha := Aside0.mk ha
    have BK171 := Aside0.mk Q_BK171
    have BK172 := Aside0.mk Q_BK172
    have BK173 := Aside0.mk Q_BK173
    have HB := Aside0.mk Q_HB
    refine box_step ?hg (N := 12) ?hd (cs := #[.int .u64 0, .int .u64 0, .int .u64 0, .int .u64 0]) (t := 50) ?hr ?_; (case hd => rfl); (case hg => rfl); (case hr => first | (go_simp; done) | (go_simp; rfl))
    intro gb182 hg w55 hbox hb
    have n0_ := u1 BK171 hb
    have n1_ := u1 BK172 hb
    have n2_ := u1 BK173 hb
    have n3_ := Aside0.mk (below_step (bw HB.out) hb)
    have n4_ := Aside0.mk (hbox)
    have n5_ := u3 hg HB
    have n6_ := u3 hg HB
    have n7_ := u4 hg BK171
    have n8_ := u5 hg BK171
    have n9_ := u4 hg BK172
    have n10_ := u5 hg BK172
    have n11_ := u4 hg BK173
    have n12_ := u5 hg BK173
    clear BK171
    clear BK172
    clear BK173
    clear HB
    have BK171 := n0_
    have BK172 := n1_
    have BK173 := n2_
    have HB := n3_
    have BK182 := n4_
    have GW182 := n5_
    have GE182 := n6_
    have NB171_182 := n7_
    have NB182_171 := n8_
    have NB172_182 := n9_
    have NB182_172 := n10_
    have NB173_182 := n11_
    have NB182_173 := n12_
    clear n0_ n1_ n2_ n3_ n4_ n5_ n6_ n7_ n8_ n9_ n10_ n11_ n12_
    clear hb hbox hg
    refine hK.out _ _ ⟨gb182, (.pointer (some ⟨gb182, 0, none⟩)), (by rw [ha.out]; exact putSel_upk 6 hb_ rfl rfl rfl), (bk BK171.out), (bk BK172.out), (bk BK173.out), (bw HB.out), fun _ _ => (bk BK182.out), fun _ => GW182.out, fun _ => GE182.out, fun _ => NB171_182.out, fun _ => NB182_171.out, fun _ => NB172_182.out, fun _ => NB182_172.out, fun _ => NB173_182.out, fun _ => NB182_173.out, fun h0_ => absurd ((hoff 7 (by kernel_rfl)).symm.trans h0_) (by decide), fun _ => rfl⟩
   refine steps_cons ?_ ?_
   ·rintro b a w' ⟨gb182, m6_, ha, Q_BK171, Q_BK172, Q_BK173, Q_HB, Q_BK182, Q_GW182, Q_GE182, Q_NB171_182, Q_NB182_171, Q_NB172_182, Q_NB182_172, Q_NB173_182, Q_NB182_173, Q_BK182_e7, Q_X6_⟩ hb_ hon hoff
    refine ⟨_, rfl, fun K hK => ?_⟩
    have e12 : a.tmps[12]? = some (m6_) := by rw [ha]; exact putSel_on (e := (6, 12, m6_)) 6 rfl rfl (hon 6 (by kernel_rfl)) rfl
    rw [Q_X6_ (hon 6 (by kernel_rfl))] at e12
    have e34 : a.tmps[34]? = some (.agg #[.int .u64 t178, .int .u64 t179, .int .u64 t180, .int .u64 t181]) := by rw [ha]; exact putSel_on (e := (5, 34, .agg #[.int .u64 t178, .int .u64 t179, .int .u64 t180, .int .u64 t181])) 5 rfl rfl (hon 5 (by kernel_rfl)) rfl
    replace ha := Aside0.mk ha
    have BK171 := Aside0.mk Q_BK171
    have BK172 := Aside0.mk Q_BK172
    have BK173 := Aside0.mk Q_BK173
    have HB := Aside0.mk Q_HB
    have BK182 := Aside0.mk (Q_BK182 (hon 6 (by kernel_rfl)) hb_)
    have GW182 := Aside0.mk (Q_GW182 (hon 6 (by kernel_rfl)))
    have GE182 := Aside0.mk (Q_GE182 (hon 6 (by kernel_rfl)))
    have NB171_182 := Aside0.mk (Q_NB171_182 (hon 6 (by kernel_rfl)))
    have NB182_171 := Aside0.mk (Q_NB182_171 (hon 6 (by kernel_rfl)))
    have NB172_182 := Aside0.mk (Q_NB172_182 (hon 6 (by kernel_rfl)))
    have NB182_172 := Aside0.mk (Q_NB182_172 (hon 6 (by kernel_rfl)))
    have NB173_182 := Aside0.mk (Q_NB173_182 (hon 6 (by kernel_rfl)))
    have NB182_173 := Aside0.mk (Q_NB182_173 (hon 6 (by kernel_rfl)))
    have hs60 : w'.cell? ⟨gb182, 0, none⟩ = some (.int .u64 0) := (blk_cell BK182.out 0).trans rfl
    have hfs60 := blk_frozen BK182.out 0
    have hns60_0 := NB171_182.out
    have hns60_1 := NB172_182.out
    have hns60_2 := NB173_182.out
    have hms60_0 := NB182_171.out
    have hms60_1 := NB182_172.out
    have hms60_2 := NB182_173.out
    have hs61 : w'.cell? ⟨gb182, 1, none⟩ = some (.int .u64 0) := (blk_cell BK182.out 1).trans rfl
    have hfs61 := blk_frozen BK182.out 1
    have hns61_0 := NB171_182.out
    have hns61_1 := NB172_182.out
    have hns61_2 := NB173_182.out
    have hms61_0 := NB182_171.out
    have hms61_1 := NB182_172.out
    have hms61_2 := NB182_173.out
    have hs62 : w'.cell? ⟨gb182, 2, none⟩ = some (.int .u64 0) := (blk_cell BK182.out 2).trans rfl
    have hfs62 := blk_frozen BK182.out 2
    have hns62_0 := NB171_182.out
    have hns62_1 := NB172_182.out
    have hns62_2 := NB173_182.out
    have hms62_0 := NB182_171.out
    have hms62_1 := NB182_172.out
    have hms62_2 := NB182_173.out
    have hs63 : w'.cell? ⟨gb182, 3, none⟩ = some (.int .u64 0) := (blk_cell BK182.out 3).trans rfl
    have hfs63 := blk_frozen BK182.out 3
    have hns63_0 := NB171_182.out
    have hns63_1 := NB172_182.out
    have hns63_2 := NB173_182.out
    have hms63_0 := NB182_171.out
    have hms63_1 := NB182_172.out
    have hms63_2 := NB182_173.out
    refine skip_ (w1 := ?_) (by rfl) rfl ?_ ?_
    rotate_left
    ·go_simp
     rfl
    refine hK.out _ _ ⟨gb182, m6_, (by rw [ha.out]; exact putSel_none (v := undef) rfl), (by (with_reducible repeat (first | refine blk_drewN ?_ _ | refine blk_drew ?_ | refine blk_alloc ?_ _)); refine blk_far ?_ NB171_182.out _; (with_reducible repeat (first | refine blk_drewN ?_ _ | refine blk_drew ?_ | refine blk_alloc ?_ _)); refine blk_far ?_ NB171_182.out _; (with_reducible repeat (first | refine blk_drewN ?_ _ | refine blk_drew ?_ | refine blk_alloc ?_ _)); refine blk_far ?_ NB171_182.out _; (with_reducible repeat (first | refine blk_drewN ?_ _ | refine blk_drew ?_ | refine blk_alloc ?_ _)); refine blk_far ?_ NB171_182.out _; (with_reducible repeat (first | refine blk_drewN ?_ _ | refine blk_drew ?_ | refine blk_alloc ?_ _)); exact BK171.out), (by (with_reducible repeat (first | refine blk_drewN ?_ _ | refine blk_drew ?_ | refine blk_alloc ?_ _)); refine blk_far ?_ NB172_182.out _; (with_reducible repeat (first | refine blk_drewN ?_ _ | refine blk_drew ?_ | refine blk_alloc ?_ _)); refine blk_far ?_ NB172_182.out _; (with_reducible repeat (first | refine blk_drewN ?_ _ | refine blk_drew ?_ | refine blk_alloc ?_ _)); refine blk_far ?_ NB172_182.out _; (with_reducible repeat (first | refine blk_drewN ?_ _ | refine blk_drew ?_ | refine blk_alloc ?_ _)); refine blk_far ?_ NB172_182.out _; (with_reducible repeat (first | refine blk_drewN ?_ _ | refine blk_drew ?_ | refine blk_alloc ?_ _)); exact BK172.out), (by (with_reducible repeat (first | refine blk_drewN ?_ _ | refine blk_drew ?_ | refine blk_alloc ?_ _)); refine blk_far ?_ NB173_182.out _; (with_reducible repeat (first | refine blk_drewN ?_ _ | refine blk_drew ?_ | refine blk_alloc ?_ _)); refine blk_far ?_ NB173_182.out _; (with_reducible repeat (first | refine blk_drewN ?_ _ | refine blk_drew ?_ | refine blk_alloc ?_ _)); refine blk_far ?_ NB173_182.out _; (with_reducible repeat (first | refine blk_drewN ?_ _ | refine blk_drew ?_ | refine blk_alloc ?_ _)); refine blk_far ?_ NB173_182.out _; (with_reducible repeat (first | refine blk_drewN ?_ _ | refine blk_drew ?_ | refine blk_alloc ?_ _)); exact BK173.out), (by repeat (first | (with_reducible first | exact HB.out | apply below_alloc | apply pw_below_drewN | apply below_drew1 | refine below_set ?_ GE171.out | refine below_set ?_ GE172.out | refine below_set ?_ GE173.out | refine below_set ?_ GE182.out) | exact HB.out)), fun _ h1_ => absurd ((up_self b 7).symm.trans h1_) (by decide), fun _ => GW182.out, fun _ => GE182.out, fun _ => NB171_182.out, fun _ => NB182_171.out, fun _ => NB172_182.out, fun _ => NB182_172.out, fun _ => NB173_182.out, fun _ => NB182_173.out, fun _ => (by (with_reducible repeat (first | refine blk_drewN ?_ _ | refine blk_drew ?_ | refine blk_alloc ?_ _)); refine blk_put (cs := #[.int .u64 t178, .int .u64 t179, .int .u64 t180, .int .u64 0]) ?_ 3 _ rfl; (with_reducible repeat (first | refine blk_drewN ?_ _ | refine blk_drew ?_ | refine blk_alloc ?_ _)); refine blk_put (cs := #[.int .u64 t178, .int .u64 t179, .int .u64 0, .int .u64 0]) ?_ 2 _ rfl; (with_reducible repeat (first | refine blk_drewN ?_ _ | refine blk_drew ?_ | refine blk_alloc ?_ _)); refine blk_put (cs := #[.int .u64 t178, .int .u64 0, .int .u64 0, .int .u64 0]) ?_ 1 _ rfl; (with_reducible repeat (first | refine blk_drewN ?_ _ | refine blk_drew ?_ | refine blk_alloc ?_ _)); refine blk_put (cs := #[.int .u64 0, .int .u64 0, .int .u64 0, .int .u64 0]) ?_ 0 _ rfl; (with_reducible repeat (first | refine blk_drewN ?_ _ | refine blk_drew ?_ | refine blk_alloc ?_ _)); exact BK182.out), Q_X6_⟩
   exact steps_nil
  rintro b a w63 hall ⟨gb182, m6_, ha, Q_BK171, Q_BK172, Q_BK173, Q_HB, Q_BK182, Q_GW182, Q_GE182, Q_NB171_182, Q_NB182_171, Q_NB172_182, Q_NB182_172, Q_NB173_182, Q_NB182_173, Q_BK182_e7, Q_X6_⟩
  clear BK171 BK172 BK173 HB
  have hb0_ := hall 0 (by kernel_rfl)
  have hb1_ := hall 1 (by kernel_rfl)
  have hb2_ := hall 2 (by kernel_rfl)
  have hb3_ := hall 3 (by kernel_rfl)
  have hb4_ := hall 4 (by kernel_rfl)
  have hb5_ := hall 5 (by kernel_rfl)
  have hb6_ := hall 6 (by kernel_rfl)
  have hb7_ := hall 7 (by kernel_rfl)
  subst ha
  obtain rfl := Q_X6_ hb6_
  simp only [putSel, hb0_, hb1_, hb2_, hb3_, hb4_, hb5_, hb6_, hb7_, if_true, Act.put, List.setIfInBounds_toArray, List.set_cons_zero, List.set_cons_succ]
  have BK171 := Aside0.mk Q_BK171
  clear Q_BK171
  have BK172 := Aside0.mk Q_BK172
  clear Q_BK172
  have BK173 := Aside0.mk Q_BK173
  clear Q_BK173
  have HB := Aside0.mk Q_HB
  clear Q_HB
  clear Q_BK182
  have GW182 := Aside0.mk (Q_GW182 hb6_)
  clear Q_GW182
  have GE182 := Aside0.mk (Q_GE182 hb6_)
  clear Q_GE182
  have NB171_182 := Aside0.mk (Q_NB171_182 hb6_)
  clear Q_NB171_182
  have NB182_171 := Aside0.mk (Q_NB182_171 hb6_)
  clear Q_NB182_171
  have NB172_182 := Aside0.mk (Q_NB172_182 hb6_)
  clear Q_NB172_182
  have NB182_172 := Aside0.mk (Q_NB182_172 hb6_)
  clear Q_NB182_172
  have NB173_182 := Aside0.mk (Q_NB173_182 hb6_)
  clear Q_NB173_182
  have NB182_173 := Aside0.mk (Q_NB182_173 hb6_)
  clear Q_NB182_173
  have BK182 := Aside0.mk (Q_BK182_e7 hb7_)
  clear Q_BK182_e7
  clear hall hb0_ hb1_ hb2_ hb3_ hb4_ hb5_ hb6_ hb7_
  try go_wp2
  have n0_ := Aside0.mk (blk_drew BK171.out)
  have n1_ := Aside0.mk (blk_drew BK172.out)
  have n2_ := Aside0.mk (blk_drew BK173.out)
  have n3_ := Aside0.mk (blk_drew BK182.out)
  have n4_ := Aside0.mk (below_drew1 HB.out)
  clear BK171
  clear BK172
  clear BK173
  clear BK182
  clear HB
  have BK171 := n0_
  have BK172 := n1_
  have BK173 := n2_
  have BK182 := n3_
  have HB := n4_
  clear n0_ n1_ n2_ n3_ n4_
  refine start_ (n := 9) (S := fun w' => w'.cell? ⟨gb182, 0, none⟩ = some (.int .u64 t178) ∧ w'.cell? ⟨gb182, 1, none⟩ = some (.int .u64 t179) ∧ w'.cell? ⟨gb182, 2, none⟩ = some (.int .u64 t180) ∧ w'.cell? ⟨gb182, 3, none⟩ = some (.int .u64 t181) ∧ w'.cell? ⟨gb172, 0, none⟩ = some (.int .i64 t167) ∧ w'.cell? ⟨gb172, 1, none⟩ = some (.int .i64 t168) ∧ w'.cell? ⟨gb173, 0, none⟩ = some (.int .i64 t169) ∧ w'.cell? ⟨gb173, 1, none⟩ = some (.int .i64 t170) ∧ w'.cell? ⟨gb171, 0, none⟩ = some (.int .i64 t165) ∧ w'.cell? ⟨gb171, 1, none⟩ = some (.int .i64 t166)) (ds := [8]) #[F_,F_,F_,F_,F_,F_,F_,F_,F_] (by kernel_rfl) rfl rfl ⟨(p4 BK182).1, (p4 BK182).2.1, (p4 BK182).2.2.1, (p4 BK182).2.2.2.1, (p2 BK172).1, (p2 BK172).2.1, (p2 BK173).1, (p2 BK173).2.1, (p2 BK171).1, (p2 BK171).2.1⟩ (fun hHeld => ?_); refine with_tabW pred_InCircle.tab5 pred_InCircle.bits5 (fun HT_ HW_ => ?_)
  generalize w63.drew = w64 at BK171 BK172 BK173 BK182 HB hHeld ⊢
  refine tA (i := 0) (N := some 35) (v := ?_) (a' := ?_) #[T_,F_,F_,F_,F_,F_,F_,F_,F_] rfl rfl HT_ HW_ (Or.inl ⟨by rfl, ?_⟩) hHeld ?_ ?_
  rotate_left
  ·rintro w' ⟨s0, s1, s2, s3, s4, s5, s6, s7, s8, s9⟩
   go_simp
   with_reducible rfl
  rotate_left
  ·simp only [Act.put, s1, s2, s3, i64_w, i32_w]
   rfl
  refine tA (i := 1) (N := some 36) (v := ?_) (a' := ?_) #[T_,T_,F_,F_,F_,F_,F_,F_,F_] rfl rfl HT_ HW_ (Or.inl ⟨by rfl, ?_⟩) hHeld ?_ ?_
  rotate_left
  ·rintro w' ⟨s0, s1, s2, s3, s4, s5, s6, s7, s8, s9⟩
   go_simp
   with_reducible rfl
  rotate_left
  ·simp only [Act.put, s1, s2, s3, i64_w, i32_w]
   rfl
  refine tA (i := 3) (N := some 38) (v := ?_) (a' := ?_) #[T_,T_,F_,T_,F_,F_,F_,F_,F_] rfl rfl HT_ HW_ (Or.inl ⟨by rfl, ?_⟩) hHeld ?_ ?_
  rotate_left
  ·rintro w' ⟨s0, s1, s2, s3, s4, s5, s6, s7, s8, s9⟩
   go_simp
   with_reducible rfl
  rotate_left
  ·simp only [Act.put, s1, s2, s3, i64_w, i32_w]
   rfl
  refine tA (i := 4) (N := some 39) (v := ?_) (a' := ?_) #[T_,T_,F_,T_,T_,F_,F_,F_,F_] rfl rfl HT_ HW_ (Or.inl ⟨by rfl, ?_⟩) hHeld ?_ ?_
  rotate_left
  ·rintro w' ⟨s0, s1, s2, s3, s4, s5, s6, s7, s8, s9⟩
   go_simp
   with_reducible rfl
  rotate_left
  ·simp only [Act.put, s1, s2, s3, i64_w, i32_w]
   rfl
  refine one_ (i := 2) (N := some 37) #[T_,T_,T_,T_,T_,F_,F_,F_,F_] rfl rfl (one_of HT_.out (by kernel_rfl)) (by decide) (fun K hK => ?_)
  refine goes_ Try.func26 (by kernel_rfl) rfl #[.agg #[.int .i64 t167, .int .i64 t168]] (by rfl) rfl rfl (by (try simp only [List.map_toArray, List.map_cons, List.map_nil]); first | done | rfl | (simp only [List.length_drop, List.length_take]; rfl)) ?_
  with_reducible refine (pred_square.calls t167 t168 t183 t184 _ A13.out).mono ?_
  rintro e w65 ⟨rfl, hb⟩
  refine ⟨_, rfl, ?_⟩
  have n0_ := u1 BK171 hb
  have n1_ := u1 BK172 hb
  have n2_ := u1 BK173 hb
  have n3_ := u1 BK182 hb
  have n4_ := Aside0.mk (below_step (bw HB.out) hb)
  clear BK171
  clear BK172
  clear BK173
  clear BK182
  clear HB
  have BK171 := n0_
  have BK172 := n1_
  have BK173 := n2_
  have BK182 := n3_
  have HB := n4_
  clear n0_ n1_ n2_ n3_ n4_
  (try clear hb)
  (try clear hb2)
  (try clear hk)
  (try clear hi)
  refine hK.out _ _ ⟨(p4 BK182).1, (p4 BK182).2.1, (p4 BK182).2.2.1, (p4 BK182).2.2.2.1, (p2 BK172).1, (p2 BK172).2.1, (p2 BK173).1, (p2 BK173).2.1, (p2 BK171).1, (p2 BK171).2.1⟩ (fun hHeld => ?_)
  clear hK K
  refine norm_ (a' := ?_) ?_ ?_
  rotate_left
  ·show Act.put _ (some 37) _ = _
   simp only [Act.put, s1, s2, s3, i64_w, i32_w]
   rfl
  refine one_ (i := 5) (N := some 40) #[T_,T_,T_,T_,T_,T_,F_,F_,F_] rfl rfl (one_of HT_.out (by kernel_rfl)) (by decide) (fun K hK => ?_)
  refine goes_ Try.func27 (by kernel_rfl) rfl #[.agg #[.int .i64 t169, .int .i64 t170], .agg #[.int .i64 t165, .int .i64 t166]] (by rfl) rfl rfl (by (try simp only [List.map_toArray, List.map_cons, List.map_nil]); first | done | rfl | (simp only [List.length_drop, List.length_take]; rfl)) ?_
  with_reducible refine (pred_across.calls t169 t170 t165 t166 t185 t186 _ A14.out).mono ?_
  rintro e w66 ⟨rfl, hb⟩
  refine ⟨_, rfl, ?_⟩
  have n0_ := u1 BK171 hb
  have n1_ := u1 BK172 hb
  have n2_ := u1 BK173 hb
  have n3_ := u1 BK182 hb
  have n4_ := Aside0.mk (below_step (bw HB.out) hb)
  clear BK171
  clear BK172
  clear BK173
  clear BK182
  clear HB
  have BK171 := n0_
  have BK172 := n1_
  have BK173 := n2_
  have BK182 := n3_
  have HB := n4_
  clear n0_ n1_ n2_ n3_ n4_
  (try clear hb)
  (try clear hb2)
  (try clear hk)
  (try clear hi)
  refine hK.out _ _ ⟨(p4 BK182).1, (p4 BK182).2.1, (p4 BK182).2.2.1, (p4 BK182).2.2.2.1, (p2 BK172).1, (p2 BK172).2.1, (p2 BK173).1, (p2 BK173).2.1, (p2 BK171).1, (p2 BK171).2.1⟩ (fun hHeld => ?_)
  clear hK K
  refine norm_ (a' := ?_) ?_ ?_
  rotate_left
  ·show Act.put _ (some 40) _ = _
   simp only [Act.put, s1, s2, s3, i64_w, i32_w]
   rfl
  refine one_ (i := 6) (N := some 41) #[T_,T_,T_,T_,T_,T_,T_,F_,F_] rfl rfl (one_of HT_.out (by kernel_rfl)) (by decide) (fun K hK => ?_)
  refine goes_ Try.func25 (by kernel_rfl) rfl #[.agg #[.int .i64 t183, .int .u64 t184], .agg #[.int .i64 t185, .int .u64 t186]] (by rfl) rfl rfl (by (try simp only [List.map_toArray, List.map_cons, List.map_nil]); first | done | rfl | (simp only [List.length_drop, List.length_take]; rfl)) ?_
  with_reducible refine (quad_Mul.calls t183 t184 t185 t186 t187 t188 t189 t190 _ A15.out).mono ?_
  rintro e w67 ⟨rfl, hb⟩
  refine ⟨_, rfl, ?_⟩
  have n0_ := u1 BK171 hb
  have n1_ := u1 BK172 hb
  have n2_ := u1 BK173 hb
  have n3_ := u1 BK182 hb
  have n4_ := Aside0.mk (below_step (bw HB.out) hb)
  clear BK171
  clear BK172
  clear BK173
  clear BK182
  clear HB
  have BK171 := n0_
  have BK172 := n1_
  have BK173 := n2_
  have BK182 := n3_
  have HB := n4_
  clear n0_ n1_ n2_ n3_ n4_
  (try clear hb)
  (try clear hb2)
  (try clear hk)
  (try clear hi)
  refine hK.out _ _ ⟨(p4 BK182).1, (p4 BK182).2.1, (p4 BK182).2.2.1, (p4 BK182).2.2.2.1, (p2 BK172).1, (p2 BK172).2.1, (p2 BK173).1, (p2 BK173).2.1, (p2 BK171).1, (p2 BK171).2.1⟩ (fun hHeld => ?_)
  clear hK K
  refine norm_ (a' := ?_) ?_ ?_
  rotate_left
  ·show Act.put _ (some 41) _ = _
   simp only [Act.put, s1, s2, s3, i64_w, i32_w]
   rfl
  refine one_ (i := 7) (N := some 42) #[T_,T_,T_,T_,T_,T_,T_,T_,F_] rfl rfl (one_of HT_.out (by kernel_rfl)) (by decide) (fun K hK => ?_)
  refine goes_ Try.func28 (by kernel_rfl) rfl #[.agg #[.int .u64 t178, .int .u64 t179, .int .u64 t180, .int .u64 t181], .agg #[.int .u64 t187, .int .u64 t188, .int .u64 t189, .int .u64 t190]] (by rfl) rfl rfl (by (try simp only [List.map_toArray, List.map_cons, List.map_nil]); first | done | rfl | (simp only [List.length_drop, List.length_take]; rfl)) ?_
  with_reducible refine (quad_Add.calls t178 t179 t180 t181 t187 t188 t189 t190 t191 t192 t193 t194 _ A16.out).mono ?_
  rintro e w68 ⟨rfl, hb⟩
  refine ⟨_, rfl, ?_⟩
  have n0_ := u1 BK171 hb
  have n1_ := u1 BK172 hb
  have n2_ := u1 BK173 hb
  have n3_ := u1 BK182 hb
  have n4_ := Aside0.mk (below_step (bw HB.out) hb)
  clear BK171
  clear BK172
  clear BK173
  clear BK182
  clear HB
  have BK171 := n0_
  have BK172 := n1_
  have BK173 := n2_
  have BK182 := n3_
  have HB := n4_
  clear n0_ n1_ n2_ n3_ n4_
  (try clear hb)
  (try clear hb2)
  (try clear hk)
  (try clear hi)
  refine hK.out _ _ ⟨(p4 BK182).1, (p4 BK182).2.1, (p4 BK182).2.2.1, (p4 BK182).2.2.2.1, (p2 BK172).1, (p2 BK172).2.1, (p2 BK173).1, (p2 BK173).2.1, (p2 BK171).1, (p2 BK171).2.1⟩ (fun hHeld => ?_)
  clear hK K
  refine norm_ (a' := ?_) ?_ ?_
  rotate_left
  ·show Act.put _ (some 42) _ = _
   simp only [Act.put, s1, s2, s3, i64_w, i32_w]
   rfl
  refine last_ (i := 8) (N := none) #[T_,T_,T_,T_,T_,T_,T_,T_,T_] rfl rfl (one_of HT_.out (by kernel_rfl)) (by decide) (fun K hK => ?_)
  have hs69 : w68.cell? ⟨gb182, 0, none⟩ = some (.int .u64 t178) := (blk_cell BK182.out 0).trans rfl
  have hfs69 := blk_frozen BK182.out 0
  have hns69_0 := NB171_182.out
  have hns69_1 := NB172_182.out
  have hns69_2 := NB173_182.out
  have hms69_0 := NB182_171.out
  have hms69_1 := NB182_172.out
  have hms69_2 := NB182_173.out
  have hs70 : w68.cell? ⟨gb182, 1, none⟩ = some (.int .u64 t179) := (blk_cell BK182.out 1).trans rfl
  have hfs70 := blk_frozen BK182.out 1
  have hns70_0 := NB171_182.out
  have hns70_1 := NB172_182.out
  have hns70_2 := NB173_182.out
  have hms70_0 := NB182_171.out
  have hms70_1 := NB182_172.out
  have hms70_2 := NB182_173.out
  have hs71 : w68.cell? ⟨gb182, 2, none⟩ = some (.int .u64 t180) := (blk_cell BK182.out 2).trans rfl
  have hfs71 := blk_frozen BK182.out 2
  have hns71_0 := NB171_182.out
  have hns71_1 := NB172_182.out
  have hns71_2 := NB173_182.out
  have hms71_0 := NB182_171.out
  have hms71_1 := NB182_172.out
  have hms71_2 := NB182_173.out
  have hs72 : w68.cell? ⟨gb182, 3, none⟩ = some (.int .u64 t181) := (blk_cell BK182.out 3).trans rfl
  have hfs72 := blk_frozen BK182.out 3
  have hns72_0 := NB171_182.out
  have hns72_1 := NB172_182.out
  have hns72_2 := NB173_182.out
  have hms72_0 := NB182_171.out
  have hms72_1 := NB182_172.out
  have hms72_2 := NB182_173.out
  refine skip_ (w1 := ?_) (by rfl) rfl ?_ ?_
  rotate_left
  ·go_simp
   rfl
  refine hK.out _ _ ?_
  clear hK K
  refine done_ (done_of HT_.out (by kernel_rfl)) ?_
  try go_wp2
  have n0_ : Aside0 (((((w68.setCell ⟨gb182, 0, none⟩ (.int .u64 t191)).setCell ⟨gb182, 1, none⟩ (.int .u64 t192)).setCell ⟨gb182, 2, none⟩ (.int .u64 t193)).setCell ⟨gb182, 3, none⟩ (.int .u64 t194)).heap[gb171]? = some (.cells #[.int .i64 t165, .int .i64 t166] 23 (0, 0))) := ⟨by (with_reducible repeat (first | refine blk_drewN ?_ _ | refine blk_drew ?_ | refine blk_alloc ?_ _)); refine blk_far ?_ NB171_182.out _; refine blk_far ?_ NB171_182.out _; refine blk_far ?_ NB171_182.out _; refine blk_far ?_ NB171_182.out _; (with_reducible repeat (first | refine blk_drewN ?_ _ | refine blk_drew ?_ | refine blk_alloc ?_ _)); exact BK171.out⟩
  have n1_ : Aside0 (((((w68.setCell ⟨gb182, 0, none⟩ (.int .u64 t191)).setCell ⟨gb182, 1, none⟩ (.int .u64 t192)).setCell ⟨gb182, 2, none⟩ (.int .u64 t193)).setCell ⟨gb182, 3, none⟩ (.int .u64 t194)).heap[gb172]? = some (.cells #[.int .i64 t167, .int .i64 t168] 23 (0, 0))) := ⟨by (with_reducible repeat (first | refine blk_drewN ?_ _ | refine blk_drew ?_ | refine blk_alloc ?_ _)); refine blk_far ?_ NB172_182.out _; refine blk_far ?_ NB172_182.out _; refine blk_far ?_ NB172_182.out _; refine blk_far ?_ NB172_182.out _; (with_reducible repeat (first | refine blk_drewN ?_ _ | refine blk_drew ?_ | refine blk_alloc ?_ _)); exact BK172.out⟩
  have n2_ : Aside0 (((((w68.setCell ⟨gb182, 0, none⟩ (.int .u64 t191)).setCell ⟨gb182, 1, none⟩ (.int .u64 t192)).setCell ⟨gb182, 2, none⟩ (.int .u64 t193)).setCell ⟨gb182, 3, none⟩ (.int .u64 t194)).heap[gb173]? = some (.cells #[.int .i64 t169, .int .i64 t170] 23 (0, 0))) := ⟨by (with_reducible repeat (first | refine blk_drewN ?_ _ | refine blk_drew ?_ | refine blk_alloc ?_ _)); refine blk_far ?_ NB173_182.out _; refine blk_far ?_ NB173_182.out _; refine blk_far ?_ NB173_182.out _; refine blk_far ?_ NB173_182.out _; (with_reducible repeat (first | refine blk_drewN ?_ _ | refine blk_drew ?_ | refine blk_alloc ?_ _)); exact BK173.out⟩
  have n3_ : Aside0 (((((w68.setCell ⟨gb182, 0, none⟩ (.int .u64 t191)).setCell ⟨gb182, 1, none⟩ (.int .u64 t192)).setCell ⟨gb182, 2, none⟩ (.int .u64 t193)).setCell ⟨gb182, 3, none⟩ (.int .u64 t194)).heap[gb182]? = some (.cells #[.int .u64 t191, .int .u64 t192, .int .u64 t193, .int .u64 t194] 50 (0, 0))) := ⟨by (with_reducible repeat (first | refine blk_drewN ?_ _ | refine blk_drew ?_ | refine blk_alloc ?_ _)); refine blk_put (cs := #[.int .u64 t191, .int .u64 t192, .int .u64 t193, .int .u64 t181]) ?_ 3 _ rfl; refine blk_put (cs := #[.int .u64 t191, .int .u64 t192, .int .u64 t180, .int .u64 t181]) ?_ 2 _ rfl; refine blk_put (cs := #[.int .u64 t191, .int .u64 t179, .int .u64 t180, .int .u64 t181]) ?_ 1 _ rfl; refine blk_put (cs := #[.int .u64 t178, .int .u64 t179, .int .u64 t180, .int .u64 t181]) ?_ 0 _ rfl; (with_reducible repeat (first | refine blk_drewN ?_ _ | refine blk_drew ?_ | refine blk_alloc ?_ _)); exact BK182.out⟩
  have n4_ : Aside0 (Below w.heap.size w ((((w68.setCell ⟨gb182, 0, none⟩ (.int .u64 t191)).setCell ⟨gb182, 1, none⟩ (.int .u64 t192)).setCell ⟨gb182, 2, none⟩ (.int .u64 t193)).setCell ⟨gb182, 3, none⟩ (.int .u64 t194))) := ⟨by repeat (first | (with_reducible first | exact HB.out | apply below_alloc | apply pw_below_drewN | apply below_drew1 | refine below_set ?_ GE171.out | refine below_set ?_ GE172.out | refine below_set ?_ GE173.out | refine below_set ?_ GE182.out) | exact HB.out)⟩
  (try clear BK171)
  (try clear BK172)
  (try clear BK173)
  (try clear BK182)
  (try clear HB)
  generalize ((((w68.setCell ⟨gb182, 0, none⟩ (.int .u64 t191)).setCell ⟨gb182, 1, none⟩ (.int .u64 t192)).setCell ⟨gb182, 2, none⟩ (.int .u64 t193)).setCell ⟨gb182, 3, none⟩ (.int .u64 t194)) = w73 at n0_ n1_ n2_ n3_ n4_ ⊢
  have BK171 := n0_
  have BK172 := n1_
  have BK173 := n2_
  have BK182 := n3_
  have HB := n4_
  clear n0_ n1_ n2_ n3_ n4_
  have n0_ := Aside0.mk (blk_drew BK171.out)
  have n1_ := Aside0.mk (blk_drew BK172.out)
  have n2_ := Aside0.mk (blk_drew BK173.out)
  have n3_ := Aside0.mk (blk_drew BK182.out)
  have n4_ := Aside0.mk (below_drew1 HB.out)
  clear BK171
  clear BK172
  clear BK173
  clear BK182
  clear HB
  have BK171 := n0_
  have BK172 := n1_
  have BK173 := n2_
  have BK182 := n3_
  have HB := n4_
  clear n0_ n1_ n2_ n3_ n4_
  refine start_ (n := 9) (S := fun w' => w'.cell? ⟨gb182, 0, none⟩ = some (.int .u64 t191) ∧ w'.cell? ⟨gb182, 1, none⟩ = some (.int .u64 t192) ∧ w'.cell? ⟨gb182, 2, none⟩ = some (.int .u64 t193) ∧ w'.cell? ⟨gb182, 3, none⟩ = some (.int .u64 t194) ∧ w'.cell? ⟨gb173, 0, none⟩ = some (.int .i64 t169) ∧ w'.cell? ⟨gb173, 1, none⟩ = some (.int .i64 t170) ∧ w'.cell? ⟨gb171, 0, none⟩ = some (.int .i64 t165) ∧ w'.cell? ⟨gb171, 1, none⟩ = some (.int .i64 t166) ∧ w'.cell? ⟨gb172, 0, none⟩ = some (.int .i64 t167) ∧ w'.cell? ⟨gb172, 1, none⟩ = some (.int .i64 t168)) (ds := [8]) #[F_,F_,F_,F_,F_,F_,F_,F_,F_] (by kernel_rfl) rfl rfl ⟨(p4 BK182).1, (p4 BK182).2.1, (p4 BK182).2.2.1, (p4 BK182).2.2.2.1, (p2 BK173).1, (p2 BK173).2.1, (p2 BK171).1, (p2 BK171).2.1, (p2 BK172).1, (p2 BK172).2.1⟩ (fun hHeld => ?_); refine with_tabW pred_InCircle.tab6 pred_InCircle.bits6 (fun HT_ HW_ => ?_)
  generalize w73.drew = w74 at BK171 BK172 BK173 BK182 HB hHeld ⊢
  refine tA (i := 0) (N := some 43) (v := ?_) (a' := ?_) #[T_,F_,F_,F_,F_,F_,F_,F_,F_] rfl rfl HT_ HW_ (Or.inl ⟨by rfl, ?_⟩) hHeld ?_ ?_
  rotate_left
  ·rintro w' ⟨s0, s1, s2, s3, s4, s5, s6, s7, s8, s9⟩
   go_simp
   with_reducible rfl
  rotate_left
  ·simp only [Act.put, s1, s2, s3, i64_w, i32_w]
   rfl
  refine tA (i := 1) (N := some 44) (v := ?_) (a' := ?_) #[T_,T_,F_,F_,F_,F_,F_,F_,F_] rfl rfl HT_ HW_ (Or.inl ⟨by rfl, ?_⟩) hHeld ?_ ?_
  rotate_left
  ·rintro w' ⟨s0, s1, s2, s3, s4, s5, s6, s7, s8, s9⟩
   go_simp
   with_reducible rfl
  rotate_left
  ·simp only [Act.put, s1, s2, s3, i64_w, i32_w]
   rfl
  refine tA (i := 3) (N := some 46) (v := ?_) (a' := ?_) #[T_,T_,F_,T_,F_,F_,F_,F_,F_] rfl rfl HT_ HW_ (Or.inl ⟨by rfl, ?_⟩) hHeld ?_ ?_
  rotate_left
  ·rintro w' ⟨s0, s1, s2, s3, s4, s5, s6, s7, s8, s9⟩
   go_simp
   with_reducible rfl
  rotate_left
  ·simp only [Act.put, s1, s2, s3, i64_w, i32_w]
   rfl
  refine tA (i := 4) (N := some 47) (v := ?_) (a' := ?_) #[T_,T_,F_,T_,T_,F_,F_,F_,F_] rfl rfl HT_ HW_ (Or.inl ⟨by rfl, ?_⟩) hHeld ?_ ?_
  rotate_left
  ·rintro w' ⟨s0, s1, s2, s3, s4, s5, s6, s7, s8, s9⟩
   go_simp
   with_reducible rfl
  rotate_left
  ·simp only [Act.put, s1, s2, s3, i64_w, i32_w]
   rfl
  refine one_ (i := 2) (N := some 45) #[T_,T_,T_,T_,T_,F_,F_,F_,F_] rfl rfl (one_of HT_.out (by kernel_rfl)) (by decide) (fun K hK => ?_)
  refine goes_ Try.func26 (by kernel_rfl) rfl #[.agg #[.int .i64 t169, .int .i64 t170]] (by rfl) rfl rfl (by (try simp only [List.map_toArray, List.map_cons, List.map_nil]); first | done | rfl | (simp only [List.length_drop, List.length_take]; rfl)) ?_
  with_reducible refine (pred_square.calls t169 t170 t195 t196 _ A17.out).mono ?_
  rintro e w75 ⟨rfl, hb⟩
  refine ⟨_, rfl, ?_⟩
  have n0_ := u1 BK171 hb
  have n1_ := u1 BK172 hb
  have n2_ := u1 BK173 hb
  have n3_ := u1 BK182 hb
  have n4_ := Aside0.mk (below_step (bw HB.out) hb)
  clear BK171
  clear BK172
  clear BK173
  clear BK182
  clear HB
  have BK171 := n0_
  have BK172 := n1_
  have BK173 := n2_
  have BK182 := n3_
  have HB := n4_
  clear n0_ n1_ n2_ n3_ n4_
  (try clear hb)
  (try clear hb2)
  (try clear hk)
  (try clear hi)
  refine hK.out _ _ ⟨(p4 BK182).1, (p4 BK182).2.1, (p4 BK182).2.2.1, (p4 BK182).2.2.2.1, (p2 BK173).1, (p2 BK173).2.1, (p2 BK171).1, (p2 BK171).2.1, (p2 BK172).1, (p2 BK172).2.1⟩ (fun hHeld => ?_)
  clear hK K
  refine norm_ (a' := ?_) ?_ ?_
  rotate_left
  ·show Act.put _ (some 45) _ = _
   simp only [Act.put, s1, s2, s3, i64_w, i32_w]
   rfl
  refine one_ (i := 5) (N := some 48) #[T_,T_,T_,T_,T_,T_,F_,F_,F_] rfl rfl (one_of HT_.out (by kernel_rfl)) (by decide) (fun K hK => ?_)
  refine goes_ Try.func27 (by kernel_rfl) rfl #[.agg #[.int .i64 t165, .int .i64 t166], .agg #[.int .i64 t167, .int .i64 t168]] (by rfl) rfl rfl (by (try simp only [List.map_toArray, List.map_cons, List.map_nil]); first | done | rfl | (simp only [List.length_drop, List.length_take]; rfl)) ?_
  with_reducible refine (pred_across.calls t165 t166 t167 t168 t197 t198 _ A18.out).mono ?_
  rintro e w76 ⟨rfl, hb⟩
  refine ⟨_, rfl, ?_⟩
  have n0_ := u1 BK171 hb
  have n1_ := u1 BK172 hb
  have n2_ := u1 BK173 hb
  have n3_ := u1 BK182 hb
  have n4_ := Aside0.mk (below_step (bw HB.out) hb)
  clear BK171
  clear BK172
  clear BK173
  clear BK182
  clear HB
  have BK171 := n0_
  have BK172 := n1_
  have BK173 := n2_
  have BK182 := n3_
  have HB := n4_
  clear n0_ n1_ n2_ n3_ n4_
  (try clear hb)
  (try clear hb2)
  (try clear hk)
  (try clear hi)
  refine hK.out _ _ ⟨(p4 BK182).1, (p4 BK182).2.1, (p4 BK182).2.2.1, (p4 BK182).2.2.2.1, (p2 BK173).1, (p2 BK173).2.1, (p2 BK171).1, (p2 BK171).2.1, (p2 BK172).1, (p2 BK172).2.1⟩ (fun hHeld => ?_)
  clear hK K
  refine norm_ (a' := ?_) ?_ ?_
  rotate_left
  ·show Act.put _ (some 48) _ = _
   simp only [Act.put, s1, s2, s3, i64_w, i32_w]
   rfl
  refine one_ (i := 6) (N := some 49) #[T_,T_,T_,T_,T_,T_,T_,F_,F_] rfl rfl (one_of HT_.out (by kernel_rfl)) (by decide) (fun K hK => ?_)
  refine goes_ Try.func25 (by kernel_rfl) rfl #[.agg #[.int .i64 t195, .int .u64 t196], .agg #[.int .i64 t197, .int .u64 t198]] (by rfl) rfl rfl (by (try simp only [List.map_toArray, List.map_cons, List.map_nil]); first | done | rfl | (simp only [List.length_drop, List.length_take]; rfl)) ?_
  with_reducible refine (quad_Mul.calls t195 t196 t197 t198 t199 t200 t201 t202 _ A19.out).mono ?_
  rintro e w77 ⟨rfl, hb⟩
  refine ⟨_, rfl, ?_⟩
  have n0_ := u1 BK171 hb
  have n1_ := u1 BK172 hb
  have n2_ := u1 BK173 hb
  have n3_ := u1 BK182 hb
  have n4_ := Aside0.mk (below_step (bw HB.out) hb)
  clear BK171
  clear BK172
  clear BK173
  clear BK182
  clear HB
  have BK171 := n0_
  have BK172 := n1_
  have BK173 := n2_
  have BK182 := n3_
  have HB := n4_
  clear n0_ n1_ n2_ n3_ n4_
  (try clear hb)
  (try clear hb2)
  (try clear hk)
  (try clear hi)
  refine hK.out _ _ ⟨(p4 BK182).1, (p4 BK182).2.1, (p4 BK182).2.2.1, (p4 BK182).2.2.2.1, (p2 BK173).1, (p2 BK173).2.1, (p2 BK171).1, (p2 BK171).2.1, (p2 BK172).1, (p2 BK172).2.1⟩ (fun hHeld => ?_)
  clear hK K
  refine norm_ (a' := ?_) ?_ ?_
  rotate_left
  ·show Act.put _ (some 49) _ = _
   simp only [Act.put, s1, s2, s3, i64_w, i32_w]
   rfl
  refine one_ (i := 7) (N := some 50) #[T_,T_,T_,T_,T_,T_,T_,T_,F_] rfl rfl (one_of HT_.out (by kernel_rfl)) (by decide) (fun K hK => ?_)
  refine goes_ Try.func28 (by kernel_rfl) rfl #[.agg #[.int .u64 t191, .int .u64 t192, .int .u64 t193, .int .u64 t194], .agg #[.int .u64 t199, .int .u64 t200, .int .u64 t201, .int .u64 t202]] (by rfl) rfl rfl (by (try simp only [List.map_toArray, List.map_cons, List.map_nil]); first | done | rfl | (simp only [List.length_drop, List.length_take]; rfl)) ?_
  with_reducible refine (quad_Add.calls t191 t192 t193 t194 t199 t200 t201 t202 t203 t204 t205 t206 _ A20.out).mono ?_
  rintro e w78 ⟨rfl, hb⟩
  refine ⟨_, rfl, ?_⟩
  have n0_ := u1 BK171 hb
  have n1_ := u1 BK172 hb
  have n2_ := u1 BK173 hb
  have n3_ := u1 BK182 hb
  have n4_ := Aside0.mk (below_step (bw HB.out) hb)
  clear BK171
  clear BK172
  clear BK173
  clear BK182
  clear HB
  have BK171 := n0_
  have BK172 := n1_
  have BK173 := n2_
  have BK182 := n3_
  have HB := n4_
  clear n0_ n1_ n2_ n3_ n4_
  (try clear hb)
  (try clear hb2)
  (try clear hk)
  (try clear hi)
  refine hK.out _ _ ⟨(p4 BK182).1, (p4 BK182).2.1, (p4 BK182).2.2.1, (p4 BK182).2.2.2.1, (p2 BK173).1, (p2 BK173).2.1, (p2 BK171).1, (p2 BK171).2.1, (p2 BK172).1, (p2 BK172).2.1⟩ (fun hHeld => ?_)
  clear hK K
  refine norm_ (a' := ?_) ?_ ?_
  rotate_left
  ·show Act.put _ (some 50) _ = _
   simp only [Act.put, s1, s2, s3, i64_w, i32_w]
   rfl
  refine last_ (i := 8) (N := none) #[T_,T_,T_,T_,T_,T_,T_,T_,T_] rfl rfl (one_of HT_.out (by kernel_rfl)) (by decide) (fun K hK => ?_)
  have hs79 : w78.cell? ⟨gb182, 0, none⟩ = some (.int .u64 t191) := (blk_cell BK182.out 0).trans rfl
  have hfs79 := blk_frozen BK182.out 0
  have hns79_0 := NB171_182.out
  have hns79_1 := NB172_182.out
  have hns79_2 := NB173_182.out
  have hms79_0 := NB182_171.out
  have hms79_1 := NB182_172.out
  have hms79_2 := NB182_173.out
  have hs80 : w78.cell? ⟨gb182, 1, none⟩ = some (.int .u64 t192) := (blk_cell BK182.out 1).trans rfl
  have hfs80 := blk_frozen BK182.out 1
  have hns80_0 := NB171_182.out
  have hns80_1 := NB172_182.out
  have hns80_2 := NB173_182.out
  have hms80_0 := NB182_171.out
  have hms80_1 := NB182_172.out
  have hms80_2 := NB182_173.out
  have hs81 : w78.cell? ⟨gb182, 2, none⟩ = some (.int .u64 t193) := (blk_cell BK182.out 2).trans rfl
  have hfs81 := blk_frozen BK182.out 2
  have hns81_0 := NB171_182.out
  have hns81_1 := NB172_182.out
  have hns81_2 := NB173_182.out
  have hms81_0 := NB182_171.out
  have hms81_1 := NB182_172.out
  have hms81_2 := NB182_173.out
  have hs82 : w78.cell? ⟨gb182, 3, none⟩ = some (.int .u64 t194) := (blk_cell BK182.out 3).trans rfl
  have hfs82 := blk_frozen BK182.out 3
  have hns82_0 := NB171_182.out
  have hns82_1 := NB172_182.out
  have hns82_2 := NB173_182.out
  have hms82_0 := NB182_171.out
  have hms82_1 := NB182_172.out
  have hms82_2 := NB182_173.out
  refine skip_ (w1 := ?_) (by rfl) rfl ?_ ?_
  rotate_left
  ·go_simp
   rfl
  refine hK.out _ _ ?_
  clear hK K
  refine done_ (done_of HT_.out (by kernel_rfl)) ?_
  have hnb83 := NB182_171.out
  have hnc83 := NB171_182.out
  have hnb84 := NB182_172.out
  have hnc84 := NB172_182.out
  have hnb85 := NB182_173.out
  have hnc85 := NB173_182.out
  obtain ⟨_, _, _, _, _, _, _, _⟩ := p4 BK182
  try go_wp2_with (first | ((with_reducible refine gate_callee (f := 29) rfl ?_); refine goesL_ (some 52) rfl rfl Try.func29 (by kernel_rfl) rfl #[.agg #[.int .u64 t203, .int .u64 t204, .int .u64 t205, .int .u64 t206]] rfl (by (try simp only [List.map_toArray, List.map_cons, List.map_nil]); first | done | rfl | (simp only [List.length_drop, List.length_take]; rfl)) ?_; (with_reducible refine (quad_Sign.calls t203 t204 t205 t206 t207 _ A21.out).mono ?_); rintro e w87 ⟨rfl, hb⟩; refine ⟨_, rfl, ?_⟩; have n0_ := Aside0.mk (blk_below (g := gb171) (o := .cells #[.int .i64 t165, .int .i64 t166] 23 (0, 0)) (by (with_reducible repeat (first | refine blk_drewN ?_ _ | refine blk_drew ?_ | refine blk_alloc ?_ _)); refine blk_far ?_ NB171_182.out _; (with_reducible repeat (first | refine blk_drewN ?_ _ | refine blk_drew ?_ | refine blk_alloc ?_ _)); refine blk_far ?_ NB171_182.out _; (with_reducible repeat (first | refine blk_drewN ?_ _ | refine blk_drew ?_ | refine blk_alloc ?_ _)); refine blk_far ?_ NB171_182.out _; (with_reducible repeat (first | refine blk_drewN ?_ _ | refine blk_drew ?_ | refine blk_alloc ?_ _)); refine blk_far ?_ NB171_182.out _; (with_reducible repeat (first | refine blk_drewN ?_ _ | refine blk_drew ?_ | refine blk_alloc ?_ _)); exact BK171.out) hb); have n1_ := Aside0.mk (blk_below (g := gb172) (o := .cells #[.int .i64 t167, .int .i64 t168] 23 (0, 0)) (by (with_reducible repeat (first | refine blk_drewN ?_ _ | refine blk_drew ?_ | refine blk_alloc ?_ _)); refine blk_far ?_ NB172_182.out _; (with_reducible repeat (first | refine blk_drewN ?_ _ | refine blk_drew ?_ | refine blk_alloc ?_ _)); refine blk_far ?_ NB172_182.out _; (with_reducible repeat (first | refine blk_drewN ?_ _ | refine blk_drew ?_ | refine blk_alloc ?_ _)); refine blk_far ?_ NB172_182.out _; (with_reducible repeat (first | refine blk_drewN ?_ _ | refine blk_drew ?_ | refine blk_alloc ?_ _)); refine blk_far ?_ NB172_182.out _; (with_reducible repeat (first | refine blk_drewN ?_ _ | refine blk_drew ?_ | refine blk_alloc ?_ _)); exact BK172.out) hb); have n2_ := Aside0.mk (blk_below (g := gb173) (o := .cells #[.int .i64 t169, .int .i64 t170] 23 (0, 0)) (by (with_reducible repeat (first | refine blk_drewN ?_ _ | refine blk_drew ?_ | refine blk_alloc ?_ _)); refine blk_far ?_ NB173_182.out _; (with_reducible repeat (first | refine blk_drewN ?_ _ | refine blk_drew ?_ | refine blk_alloc ?_ _)); refine blk_far ?_ NB173_182.out _; (with_reducible repeat (first | refine blk_drewN ?_ _ | refine blk_drew ?_ | refine blk_alloc ?_ _)); refine blk_far ?_ NB173_182.out _; (with_reducible repeat (first | refine blk_drewN ?_ _ | refine blk_drew ?_ | refine blk_alloc ?_ _)); refine blk_far ?_ NB173_182.out _; (with_reducible repeat (first | refine blk_drewN ?_ _ | refine blk_drew ?_ | refine blk_alloc ?_ _)); exact BK173.out) hb); have n3_ := Aside0.mk (blk_below (g := gb182) (o := .cells #[.int .u64 t203, .int .u64 t204, .int .u64 t205, .int .u64 t206] 50 (0, 0)) (by (with_reducible repeat (first | refine blk_drewN ?_ _ | refine blk_drew ?_ | refine blk_alloc ?_ _)); refine blk_put (cs := #[.int .u64 t203, .int .u64 t204, .int .u64 t205, .int .u64 t194]) ?_ 3 _ rfl; (with_reducible repeat (first | refine blk_drewN ?_ _ | refine blk_drew ?_ | refine blk_alloc ?_ _)); refine blk_put (cs := #[.int .u64 t203, .int .u64 t204, .int .u64 t193, .int .u64 t194]) ?_ 2 _ rfl; (with_reducible repeat (first | refine blk_drewN ?_ _ | refine blk_drew ?_ | refine blk_alloc ?_ _)); refine blk_put (cs := #[.int .u64 t203, .int .u64 t192, .int .u64 t193, .int .u64 t194]) ?_ 1 _ rfl; (with_reducible repeat (first | refine blk_drewN ?_ _ | refine blk_drew ?_ | refine blk_alloc ?_ _)); refine blk_put (cs := #[.int .u64 t191, .int .u64 t192, .int .u64 t193, .int .u64 t194]) ?_ 0 _ rfl; (with_reducible repeat (first | refine blk_drewN ?_ _ | refine blk_drew ?_ | refine blk_alloc ?_ _)); exact BK182.out) hb); have n4_ := Aside0.mk (below_step (by repeat (first | (with_reducible first | exact HB.out | apply below_alloc | apply pw_below_drewN | apply below_drew1 | refine below_set ?_ GE171.out | refine below_set ?_ GE172.out | refine below_set ?_ GE173.out | refine below_set ?_ GE182.out) | exact HB.out)) hb); clear BK171; clear BK172; clear BK173; clear BK182; clear HB; have BK171 := n0_; have BK172 := n1_; have BK173 := n2_; have BK182 := n3_; have HB := n4_; clear n0_ n1_ n2_ n3_ n4_; clear hb))
  go_ret
  exact ⟨by first | rfl | (simp [*, errW_none, errW_some] <;> rfl), bw HB.out⟩
 ·replace c6 := Bool.eq_false_iff.mpr c6
  subst c6
  rw [if_neg (show ¬ (false = true) by decide)] at H
  obtain rfl := Option.some.inj H
  go_enter Try.func8, Try.ntmps8
  go_wp2_with (first | ((with_reducible refine gate_dst (N := 4) rfl ?_); refine bx 4 #[.int .i64 a0_0, .int .i64 a0_1] 23 ?_; intro gb157 hg w88 hbox hb; have BK157 := Aside0.mk hbox; have GW157 := u3 hg HB; have GE157 := u3 hg HB; replace HB := u2 HB hb; clear hb hbox hg) | ((with_reducible refine gate_dst (N := 5) rfl ?_); refine bx 5 #[.int .i64 a1_0, .int .i64 a1_1] 23 ?_; intro gb158 hg w89 hbox hb; have BK158 := Aside0.mk hbox; have GW158 := u3 hg HB; have GE158 := u3 hg HB; have NB157_158 := u4 hg BK157; have NB158_157 := u5 hg BK157; replace BK157 := u1 BK157 hb; replace HB := u2 HB hb; clear hb hbox hg) | ((with_reducible refine gate_dst (N := 6) rfl ?_); refine bx 6 #[.int .i64 a2_0, .int .i64 a2_1] 23 ?_; intro gb159 hg w90 hbox hb; have BK159 := Aside0.mk hbox; have GW159 := u3 hg HB; have GE159 := u3 hg HB; have NB157_159 := u4 hg BK157; have NB159_157 := u5 hg BK157; have NB158_159 := u4 hg BK158; have NB159_158 := u5 hg BK158; replace BK157 := u1 BK157 hb; replace BK158 := u1 BK158 hb; replace HB := u2 HB hb; clear hb hbox hg) | ((with_reducible refine gate_dst (N := 7) rfl ?_); refine bx 7 #[.int .i64 a3_0, .int .i64 a3_1] 23 ?_; intro gb160 hg w91 hbox hb; have BK160 := Aside0.mk hbox; have GW160 := u3 hg HB; have GE160 := u3 hg HB; have NB157_160 := u4 hg BK157; have NB160_157 := u5 hg BK157; have NB158_160 := u4 hg BK158; have NB160_158 := u5 hg BK158; have NB159_160 := u4 hg BK159; have NB160_159 := u5 hg BK159; replace BK157 := u1 BK157 hb; replace BK158 := u1 BK158 hb; replace BK159 := u1 BK159 hb; replace HB := u2 HB hb; clear hb hbox hg; have hnb92 := NB157_158.out; have hnc92 := NB158_157.out; have hnb93 := NB157_159.out; have hnc93 := NB159_157.out; have hnb94 := NB157_160.out; have hnc94 := NB160_157.out; obtain ⟨_, _, _, _⟩ := p2 BK157; have hnb96 := NB158_159.out; have hnc96 := NB159_158.out; have hnb97 := NB158_160.out; have hnc97 := NB160_158.out; obtain ⟨_, _, _, _⟩ := p2 BK158; have hnb99 := NB159_160.out; have hnc99 := NB160_159.out; obtain ⟨_, _, _, _⟩ := p2 BK159; obtain ⟨_, _, _, _⟩ := p2 BK160) | ((with_reducible refine gate_dst (N := 17) rfl ?_); refine Kd.R_lit k23 _ 23 ?hg (N := 17) ?hd (xs := ([(⟨a0_0, a0_1⟩ : S23), (⟨a1_0, a1_1⟩ : S23), (⟨a2_0, a2_1⟩ : S23), (⟨a3_0, a3_1⟩ : S23)] : List (S23))) (inner := [.int .i64 a0_0, .int .i64 a0_1, .int .i64 a1_0, .int .i64 a1_1, .int .i64 a2_0, .int .i64 a2_1, .int .i64 a3_0, .int .i64 a3_1]) (ok := fun _ => True) (okp := fun _ => True) ?hr ?hp (fun _ hk => hk) trivial (Below.refl _ _) (Nat.le_refl _) (by simp) ?_; (case hd => rfl); (case hg => rfl); (case hr => first | (go_simp; done) | (go_simp; rfl)); (case hp => exact (Reps.c2 (show Kd.M k23 _ _ _ (⟨a0_0, a0_1⟩ : S23) [.int .i64 a0_0, .int .i64 a0_1] from (k23_mkM _ _ _ (⟨a0_0, a0_1⟩ : S23) )) (Reps.c2 (show Kd.M k23 _ _ _ (⟨a1_0, a1_1⟩ : S23) [.int .i64 a1_0, .int .i64 a1_1] from (k23_mkM _ _ _ (⟨a1_0, a1_1⟩ : S23) )) (Reps.c2 (show Kd.M k23 _ _ _ (⟨a2_0, a2_1⟩ : S23) [.int .i64 a2_0, .int .i64 a2_1] from (k23_mkM _ _ _ (⟨a2_0, a2_1⟩ : S23) )) (Reps.c2 (show Kd.M k23 _ _ _ (⟨a3_0, a3_1⟩ : S23) [.int .i64 a3_0, .int .i64 a3_1] from (k23_mkM _ _ _ (⟨a3_0, a3_1⟩ : S23) )) (Reps.none _ _)))))); intro v162 w102 ho103 hb hg_ hnew_; clear hg_ hnew_; (first | rw [← Ny161.out] at ho103 | (simp only [Int.reduceToNat] at ho103; rw [← Ny161.out] at ho103)); have n0_ := Aside0.mk (Kd.R_lower (Kd.R_newB (Kd.R_newB (Kd.R_newB (Kd.R_newB ho103 (bk BK157.out)) (bk BK158.out)) (bk BK159.out)) (bk BK160.out)) (below_size (bw HB.out))); have n1_ := u1 BK157 hb; have n2_ := u1 BK158 hb; have n3_ := u1 BK159 hb; have n4_ := u1 BK160 hb; have n5_ := u2 HB hb; clear BK157; clear BK158; clear BK159; clear BK160; clear HB; have HO163 := n0_; have BK157 := n1_; have BK158 := n2_; have BK159 := n3_; have BK160 := n4_; have HB := n5_; clear n0_ n1_ n2_ n3_ n4_ n5_; clear hb ho103; obtain ⟨Ao104, co104, eo104⟩ := Kd.R_slice HO163.out; subst eo104) | ((with_reducible refine gate_callee (f := 23) rfl ?_); refine gL (some 18) Try.func23 #[.slice Ao104 y161.length co104] rfl ?_; (with_reducible refine (pred_can.calls k _ _ y161 false _ ?side1 ?side2 A5.out).mono ?_); (case side1 => repeat (first | exact (Kd.R_reads' HO163.out).2.2 | (with_reducible refine Kd.C_alloc ?_ _) | (with_reducible refine Kd.C_drewN ?_ _) | (with_reducible refine Kd.C_drew ?_))); (case side2 => exact (Kd.R_reads' HO163.out).2.1); rintro e w105 ⟨rfl, hb⟩; refine ⟨_, rfl, ?_⟩; have n0_ := Aside0.mk (Kd.R_below (by (with_reducible repeat (first | apply Kd.R_alloc | apply Kd.R_drewN | apply Kd.R_drew)); exact HO163.out) hb); have n1_ := u1 BK157 hb; have n2_ := u1 BK158 hb; have n3_ := u1 BK159 hb; have n4_ := u1 BK160 hb; have n5_ := u2 HB hb; clear HO163; clear BK157; clear BK158; clear BK159; clear BK160; clear HB; have HO163 := n0_; have BK157 := n1_; have BK158 := n2_; have BK159 := n3_; have BK160 := n4_; have HB := n5_; clear n0_ n1_ n2_ n3_ n4_ n5_; clear hb))
  go_ret
  exact ⟨by first | rfl | (simp [*, errW_none, errW_some] <;> rfl), bw HB.out⟩
end Go.Proofs.Ytmeckkckjikjiaa.F
end
section
namespace Go.Proofs.Ytmeckkckjikjiaa.F
open RowKit YtmeckkckjikjiaaW.PrintWords YtmeckkckjikjiaaW.PrintLast YtmeckkckjikjiaaW.PrintMore
set_option linter.unusedVariables false
set_option linter.unusedSimpArgs false
def zelligelaw07_lives.f (k : Nat)  : Option (Bool) := (pred_InCircle.f k 0 0 1 0 1 1 0 1).bind fun t378 => (if t378 = 0 then ((pred_Orient.f k 0 0 1 0 1 1).bind fun t379 => (if t379 = 1 then ((pred_Where.f k 0 0 1 0 1 1 0 1).bind fun t380 => (some (t380 == (-1)))) else (some false))) else (some false))
theorem zelligelaw07_lives.mono : ∀ k, LeO (zelligelaw07_lives.f k ) (zelligelaw07_lives.f (k + 1) ) := by
 intro  k
 unfold zelligelaw07_lives.f
 repeat' first
   | (with_reducible exact pred_InCircle.mono _ _ _ _ _ _ _ _ _)
   | (with_reducible exact pred_Orient.mono _ _ _ _ _ _ _)
   | (with_reducible exact pred_Where.mono _ _ _ _ _ _ _ _ _)
   | (with_reducible exact LeO.refl _)
   | (with_reducible exact LeO.none _)
   | (with_reducible refine LeO.ite ?_ ?_)
   | (with_reducible refine LeO.bind ?_ (fun _ => ?_))
   | exact pred_InCircle.mono _ _ _ _ _ _ _ _ _
   | exact pred_Orient.mono _ _ _ _ _ _ _
   | exact pred_Where.mono _ _ _ _ _ _ _ _ _
   | exact LeO.none _
   | refine LeO.ite ?_ ?_
   | refine LeO.bind ?_ (fun _ => ?_)
set_option maxHeartbeats 8000000 in
set_option maxRecDepth 100000 in
theorem zelligelaw07_lives.calls (k : Nat)  (r : Bool) (w : World) (h : zelligelaw07_lives.f k  = some r) :
  Calls Try.prog 10 #[] w fun e w' => e = .returned (.bool r) ∧ Below w.heap.size w w' := by
 have hu23 := Try.underlying23
 have HB := Aside0.mk (Below.refl w.heap.size w)
 have H : ((pred_InCircle.f k 0 0 1 0 1 1 0 1).bind fun t378 => (if t378 = 0 then ((pred_Orient.f k 0 0 1 0 1 1).bind fun t379 => (if t379 = 1 then ((pred_Where.f k 0 0 1 0 1 1 0 1).bind fun t380 => (some (t380 == (-1)))) else (some false))) else (some false))) = some r := h
 clear h
 replace H := Option.bind_eq_some_iff.mp H
 obtain ⟨t378, A10, H⟩ := H
 try dsimp only at H
 have A1 := Aside0.mk A10
 clear A10
 by_cases c2 : t378 = 0
 ·rw [if_pos c2] at H
  have c2b0 : (t378 == 0) = true := beq_iff_eq.mpr c2
  have c2b1 : (t378 != 0) = false := bne_eq_false_iff_eq.mpr c2
  clear c2
  replace H := Option.bind_eq_some_iff.mp H
  obtain ⟨t379, A30, H⟩ := H
  try dsimp only at H
  have A3 := Aside0.mk A30
  clear A30
  by_cases c4 : t379 = 1
  ·rw [if_pos c4] at H
   have c4b0 : (t379 == 1) = true := beq_iff_eq.mpr c4
   have c4b1 : (t379 != 1) = false := bne_eq_false_iff_eq.mpr c4
   clear c4
   replace H := Option.bind_eq_some_iff.mp H
   obtain ⟨t380, A50, H⟩ := H
   try dsimp only at H
   have A5 := Aside0.mk A50
   clear A50
   obtain rfl := Option.some.inj H
   go_enter Try.func10, Try.ntmps10
   go_wp2_with (first | ((with_reducible refine gate_dst (N := 1) rfl ?_); refine box_event ?hg (N := 1) ?hd (cs := #[.int .i64 0, .int .i64 0]) (t := 23) ?hr ?_; (case hd => rfl); (case hg => rfl); (case hr => first | (go_simp; done) | (go_simp; rfl)); intro gb374 hg w6 hbox hb; have BK374 := Aside0.mk hbox; have GW374 := u3 hg HB; have GE374 := u3 hg HB; replace HB := u2 HB hb; clear hb hbox hg) | ((with_reducible refine gate_dst (N := 2) rfl ?_); refine box_event ?hg (N := 2) ?hd (cs := #[.int .i64 0, .int .i64 0]) (t := 23) ?hr ?_; (case hd => rfl); (case hg => rfl); (case hr => first | (go_simp; done) | (go_simp; rfl)); intro gb375 hg w7 hbox hb; have n0_ := u1 BK374 hb; have n1_ := Aside0.mk (below_step (by repeat (first | (with_reducible first | exact HB.out | apply below_alloc | apply pw_below_drewN | apply below_drew1 | refine below_set ?_ GE374.out) | exact HB.out)) hb); have n2_ := Aside0.mk hbox; have n3_ := Aside0.mk ((by rw [hg]; exact (below_size (by repeat (first | (with_reducible first | exact HB.out | apply below_alloc | apply pw_below_drewN | apply below_drew1 | refine below_set ?_ GE374.out) | exact HB.out))) : w.heap.size ≤ gb375)); have n4_ := Aside0.mk ((by rw [hg]; exact (below_size (by repeat (first | (with_reducible first | exact HB.out | apply below_alloc | apply pw_below_drewN | apply below_drew1 | refine below_set ?_ GE374.out) | exact HB.out))) : w.heap.size ≤ gb375)); have n5_ := u4 hg BK374; have n6_ := u5 hg BK374; clear BK374; clear HB; have BK374 := n0_; have HB := n1_; have BK375 := n2_; have GW375 := n3_; have GE375 := n4_; have NB374_375 := n5_; have NB375_374 := n6_; clear n0_ n1_ n2_ n3_ n4_ n5_ n6_; clear hb hbox hg) | ((with_reducible refine gate_dst (N := 3) rfl ?_); refine box_event ?hg (N := 3) ?hd (cs := #[.int .i64 0, .int .i64 0]) (t := 23) ?hr ?_; (case hd => rfl); (case hg => rfl); (case hr => first | (go_simp; done) | (go_simp; rfl)); intro gb376 hg w8 hbox hb; have n0_ := u1 BK374 hb; have n1_ := u1 BK375 hb; have n2_ := Aside0.mk (below_step (by repeat (first | (with_reducible first | exact HB.out | apply below_alloc | apply pw_below_drewN | apply below_drew1 | refine below_set ?_ GE374.out | refine below_set ?_ GE375.out) | exact HB.out)) hb); have n3_ := Aside0.mk hbox; have n4_ := Aside0.mk ((by rw [hg]; exact (below_size (by repeat (first | (with_reducible first | exact HB.out | apply below_alloc | apply pw_below_drewN | apply below_drew1 | refine below_set ?_ GE374.out | refine below_set ?_ GE375.out) | exact HB.out))) : w.heap.size ≤ gb376)); have n5_ := Aside0.mk ((by rw [hg]; exact (below_size (by repeat (first | (with_reducible first | exact HB.out | apply below_alloc | apply pw_below_drewN | apply below_drew1 | refine below_set ?_ GE374.out | refine below_set ?_ GE375.out) | exact HB.out))) : w.heap.size ≤ gb376)); have n6_ := u4 hg BK374; have n7_ := u5 hg BK374; have n8_ := u4 hg BK375; have n9_ := u5 hg BK375; clear BK374; clear BK375; clear HB; have BK374 := n0_; have BK375 := n1_; have HB := n2_; have BK376 := n3_; have GW376 := n4_; have GE376 := n5_; have NB374_376 := n6_; have NB376_374 := n7_; have NB375_376 := n8_; have NB376_375 := n9_; clear n0_ n1_ n2_ n3_ n4_ n5_ n6_ n7_ n8_ n9_; clear hb hbox hg) | ((with_reducible refine gate_dst (N := 4) rfl ?_); refine box_event ?hg (N := 4) ?hd (cs := #[.int .i64 0, .int .i64 0]) (t := 23) ?hr ?_; (case hd => rfl); (case hg => rfl); (case hr => first | (go_simp; done) | (go_simp; rfl)); intro gb377 hg w9 hbox hb; have n0_ := u1 BK374 hb; have n1_ := u1 BK375 hb; have n2_ := u1 BK376 hb; have n3_ := Aside0.mk (below_step (by repeat (first | (with_reducible first | exact HB.out | apply below_alloc | apply pw_below_drewN | apply below_drew1 | refine below_set ?_ GE374.out | refine below_set ?_ GE375.out | refine below_set ?_ GE376.out) | exact HB.out)) hb); have n4_ := Aside0.mk hbox; have n5_ := Aside0.mk ((by rw [hg]; exact (below_size (by repeat (first | (with_reducible first | exact HB.out | apply below_alloc | apply pw_below_drewN | apply below_drew1 | refine below_set ?_ GE374.out | refine below_set ?_ GE375.out | refine below_set ?_ GE376.out) | exact HB.out))) : w.heap.size ≤ gb377)); have n6_ := Aside0.mk ((by rw [hg]; exact (below_size (by repeat (first | (with_reducible first | exact HB.out | apply below_alloc | apply pw_below_drewN | apply below_drew1 | refine below_set ?_ GE374.out | refine below_set ?_ GE375.out | refine below_set ?_ GE376.out) | exact HB.out))) : w.heap.size ≤ gb377)); have n7_ := u4 hg BK374; have n8_ := u5 hg BK374; have n9_ := u4 hg BK375; have n10_ := u5 hg BK375; have n11_ := u4 hg BK376; have n12_ := u5 hg BK376; clear BK374; clear BK375; clear BK376; clear HB; have BK374 := n0_; have BK375 := n1_; have BK376 := n2_; have HB := n3_; have BK377 := n4_; have GW377 := n5_; have GE377 := n6_; have NB374_377 := n7_; have NB377_374 := n8_; have NB375_377 := n9_; have NB377_375 := n10_; have NB376_377 := n11_; have NB377_376 := n12_; clear n0_ n1_ n2_ n3_ n4_ n5_ n6_ n7_ n8_ n9_ n10_ n11_ n12_; clear hb hbox hg; have hnb10 := NB374_375.out; have hnc10 := NB375_374.out; have hnb11 := NB374_376.out; have hnc11 := NB376_374.out; have hnb12 := NB374_377.out; have hnc12 := NB377_374.out; obtain ⟨_, _, _, _⟩ := p2 BK374; have hnb14 := NB375_376.out; have hnc14 := NB376_375.out; have hnb15 := NB375_377.out; have hnc15 := NB377_375.out; obtain ⟨_, _, _, _⟩ := p2 BK375; have hnb17 := NB376_377.out; have hnc17 := NB377_376.out; obtain ⟨_, _, _, _⟩ := p2 BK376; obtain ⟨_, _, _, _⟩ := p2 BK377) | ((with_reducible refine gate_callee (f := 8) rfl ?_); refine goesL_ (some 13) rfl rfl Try.func8 (by kernel_rfl) rfl #[.agg #[.int .i64 0, .int .i64 0], .agg #[.int .i64 1, .int .i64 0], .agg #[.int .i64 1, .int .i64 1], .agg #[.int .i64 0, .int .i64 1]] rfl (by (try simp only [List.map_toArray, List.map_cons, List.map_nil]); first | done | rfl | (simp only [List.length_drop, List.length_take]; rfl)) ?_; (with_reducible refine (pred_InCircle.calls k 0 0 1 0 1 1 0 1 t378 _ A1.out).mono ?_); rintro e w20 ⟨rfl, hb⟩; refine ⟨_, rfl, ?_⟩; have n0_ := Aside0.mk (blk_below (g := gb374) (o := .cells #[.int .i64 0, .int .i64 0] 23 (0, 0)) (by (with_reducible repeat (first | refine blk_drewN ?_ _ | refine blk_drew ?_ | refine blk_alloc ?_ _)); refine blk_far ?_ NB374_377.out _; (with_reducible repeat (first | refine blk_drewN ?_ _ | refine blk_drew ?_ | refine blk_alloc ?_ _)); refine blk_far ?_ NB374_377.out _; (with_reducible repeat (first | refine blk_drewN ?_ _ | refine blk_drew ?_ | refine blk_alloc ?_ _)); refine blk_far ?_ NB374_376.out _; (with_reducible repeat (first | refine blk_drewN ?_ _ | refine blk_drew ?_ | refine blk_alloc ?_ _)); refine blk_far ?_ NB374_376.out _; (with_reducible repeat (first | refine blk_drewN ?_ _ | refine blk_drew ?_ | refine blk_alloc ?_ _)); refine blk_far ?_ NB374_375.out _; (with_reducible repeat (first | refine blk_drewN ?_ _ | refine blk_drew ?_ | refine blk_alloc ?_ _)); refine blk_far ?_ NB374_375.out _; (with_reducible repeat (first | refine blk_drewN ?_ _ | refine blk_drew ?_ | refine blk_alloc ?_ _)); refine blk_put (cs := #[.int .i64 0, .int .i64 0]) ?_ 1 _ rfl; (with_reducible repeat (first | refine blk_drewN ?_ _ | refine blk_drew ?_ | refine blk_alloc ?_ _)); refine blk_put (cs := #[.int .i64 0, .int .i64 0]) ?_ 0 _ rfl; (with_reducible repeat (first | refine blk_drewN ?_ _ | refine blk_drew ?_ | refine blk_alloc ?_ _)); exact BK374.out) hb); have n1_ := Aside0.mk (blk_below (g := gb375) (o := .cells #[.int .i64 1, .int .i64 0] 23 (0, 0)) (by (with_reducible repeat (first | refine blk_drewN ?_ _ | refine blk_drew ?_ | refine blk_alloc ?_ _)); refine blk_far ?_ NB375_377.out _; (with_reducible repeat (first | refine blk_drewN ?_ _ | refine blk_drew ?_ | refine blk_alloc ?_ _)); refine blk_far ?_ NB375_377.out _; (with_reducible repeat (first | refine blk_drewN ?_ _ | refine blk_drew ?_ | refine blk_alloc ?_ _)); refine blk_far ?_ NB375_376.out _; (with_reducible repeat (first | refine blk_drewN ?_ _ | refine blk_drew ?_ | refine blk_alloc ?_ _)); refine blk_far ?_ NB375_376.out _; (with_reducible repeat (first | refine blk_drewN ?_ _ | refine blk_drew ?_ | refine blk_alloc ?_ _)); refine blk_put (cs := #[.int .i64 1, .int .i64 0]) ?_ 1 _ rfl; (with_reducible repeat (first | refine blk_drewN ?_ _ | refine blk_drew ?_ | refine blk_alloc ?_ _)); refine blk_put (cs := #[.int .i64 0, .int .i64 0]) ?_ 0 _ rfl; (with_reducible repeat (first | refine blk_drewN ?_ _ | refine blk_drew ?_ | refine blk_alloc ?_ _)); refine blk_far ?_ NB375_374.out _; (with_reducible repeat (first | refine blk_drewN ?_ _ | refine blk_drew ?_ | refine blk_alloc ?_ _)); refine blk_far ?_ NB375_374.out _; (with_reducible repeat (first | refine blk_drewN ?_ _ | refine blk_drew ?_ | refine blk_alloc ?_ _)); exact BK375.out) hb); have n2_ := Aside0.mk (blk_below (g := gb376) (o := .cells #[.int .i64 1, .int .i64 1] 23 (0, 0)) (by (with_reducible repeat (first | refine blk_drewN ?_ _ | refine blk_drew ?_ | refine blk_alloc ?_ _)); refine blk_far ?_ NB376_377.out _; (with_reducible repeat (first | refine blk_drewN ?_ _ | refine blk_drew ?_ | refine blk_alloc ?_ _)); refine blk_far ?_ NB376_377.out _; (with_reducible repeat (first | refine blk_drewN ?_ _ | refine blk_drew ?_ | refine blk_alloc ?_ _)); refine blk_put (cs := #[.int .i64 1, .int .i64 0]) ?_ 1 _ rfl; (with_reducible repeat (first | refine blk_drewN ?_ _ | refine blk_drew ?_ | refine blk_alloc ?_ _)); refine blk_put (cs := #[.int .i64 0, .int .i64 0]) ?_ 0 _ rfl; (with_reducible repeat (first | refine blk_drewN ?_ _ | refine blk_drew ?_ | refine blk_alloc ?_ _)); refine blk_far ?_ NB376_375.out _; (with_reducible repeat (first | refine blk_drewN ?_ _ | refine blk_drew ?_ | refine blk_alloc ?_ _)); refine blk_far ?_ NB376_375.out _; (with_reducible repeat (first | refine blk_drewN ?_ _ | refine blk_drew ?_ | refine blk_alloc ?_ _)); refine blk_far ?_ NB376_374.out _; (with_reducible repeat (first | refine blk_drewN ?_ _ | refine blk_drew ?_ | refine blk_alloc ?_ _)); refine blk_far ?_ NB376_374.out _; (with_reducible repeat (first | refine blk_drewN ?_ _ | refine blk_drew ?_ | refine blk_alloc ?_ _)); exact BK376.out) hb); have n3_ := Aside0.mk (blk_below (g := gb377) (o := .cells #[.int .i64 0, .int .i64 1] 23 (0, 0)) (by (with_reducible repeat (first | refine blk_drewN ?_ _ | refine blk_drew ?_ | refine blk_alloc ?_ _)); refine blk_put (cs := #[.int .i64 0, .int .i64 0]) ?_ 1 _ rfl; (with_reducible repeat (first | refine blk_drewN ?_ _ | refine blk_drew ?_ | refine blk_alloc ?_ _)); refine blk_put (cs := #[.int .i64 0, .int .i64 0]) ?_ 0 _ rfl; (with_reducible repeat (first | refine blk_drewN ?_ _ | refine blk_drew ?_ | refine blk_alloc ?_ _)); refine blk_far ?_ NB377_376.out _; (with_reducible repeat (first | refine blk_drewN ?_ _ | refine blk_drew ?_ | refine blk_alloc ?_ _)); refine blk_far ?_ NB377_376.out _; (with_reducible repeat (first | refine blk_drewN ?_ _ | refine blk_drew ?_ | refine blk_alloc ?_ _)); refine blk_far ?_ NB377_375.out _; (with_reducible repeat (first | refine blk_drewN ?_ _ | refine blk_drew ?_ | refine blk_alloc ?_ _)); refine blk_far ?_ NB377_375.out _; (with_reducible repeat (first | refine blk_drewN ?_ _ | refine blk_drew ?_ | refine blk_alloc ?_ _)); refine blk_far ?_ NB377_374.out _; (with_reducible repeat (first | refine blk_drewN ?_ _ | refine blk_drew ?_ | refine blk_alloc ?_ _)); refine blk_far ?_ NB377_374.out _; (with_reducible repeat (first | refine blk_drewN ?_ _ | refine blk_drew ?_ | refine blk_alloc ?_ _)); exact BK377.out) hb); have n4_ := Aside0.mk (below_step (by repeat (first | (with_reducible first | exact HB.out | apply below_alloc | apply pw_below_drewN | apply below_drew1 | refine below_set ?_ GE374.out | refine below_set ?_ GE375.out | refine below_set ?_ GE376.out | refine below_set ?_ GE377.out) | exact HB.out)) hb); clear BK374; clear BK375; clear BK376; clear BK377; clear HB; have BK374 := n0_; have BK375 := n1_; have BK376 := n2_; have BK377 := n3_; have HB := n4_; clear n0_ n1_ n2_ n3_ n4_; clear hb; obtain ⟨_, _, _, _⟩ := p2 BK374; obtain ⟨_, _, _, _⟩ := p2 BK375; obtain ⟨_, _, _, _⟩ := p2 BK376) | (go_at_call 14; (with_reducible refine (pred_Orient.calls k 0 0 1 0 1 1 t379 _ A3.out).mono ?_); rintro e w24 ⟨rfl, hb⟩; have n0_ := u1 BK374 hb; have n1_ := u1 BK375 hb; have n2_ := u1 BK376 hb; have n3_ := u1 BK377 hb; have n4_ := Aside0.mk (below_step (by repeat (first | (with_reducible first | exact HB.out | apply below_alloc | apply pw_below_drewN | apply below_drew1 | refine below_set ?_ GE374.out | refine below_set ?_ GE375.out | refine below_set ?_ GE376.out | refine below_set ?_ GE377.out) | exact HB.out)) hb); clear BK374; clear BK375; clear BK376; clear BK377; clear HB; have BK374 := n0_; have BK375 := n1_; have BK376 := n2_; have BK377 := n3_; have HB := n4_; clear n0_ n1_ n2_ n3_ n4_; clear hb; obtain ⟨_, _, _, _⟩ := p2 BK374; obtain ⟨_, _, _, _⟩ := p2 BK375; obtain ⟨_, _, _, _⟩ := p2 BK376; obtain ⟨_, _, _, _⟩ := p2 BK377) | (go_at_call 12; (with_reducible refine (pred_Where.calls k 0 0 1 0 1 1 0 1 t380 _ A5.out).mono ?_); rintro e w29 ⟨rfl, hb⟩; have n0_ := u1 BK374 hb; have n1_ := u1 BK375 hb; have n2_ := u1 BK376 hb; have n3_ := u1 BK377 hb; have n4_ := Aside0.mk (below_step (by repeat (first | (with_reducible first | exact HB.out | apply below_alloc | apply pw_below_drewN | apply below_drew1 | refine below_set ?_ GE374.out | refine below_set ?_ GE375.out | refine below_set ?_ GE376.out | refine below_set ?_ GE377.out) | exact HB.out)) hb); clear BK374; clear BK375; clear BK376; clear BK377; clear HB; have BK374 := n0_; have BK375 := n1_; have BK376 := n2_; have BK377 := n3_; have HB := n4_; clear n0_ n1_ n2_ n3_ n4_; clear hb))
   go_ret
   exact ⟨by first | rfl | (simp [*, errW_none, errW_some] <;> rfl), bw HB.out⟩
  ·rw [if_neg c4] at H
   have c4b0 : (t379 == 1) = false := beq_eq_false_iff_ne.mpr c4
   have c4b1 : (t379 != 1) = true := bne_iff_ne.mpr c4
   obtain rfl := Option.some.inj H
   go_enter Try.func10, Try.ntmps10
   go_wp2_with (first | ((with_reducible refine gate_dst (N := 1) rfl ?_); refine box_event ?hg (N := 1) ?hd (cs := #[.int .i64 0, .int .i64 0]) (t := 23) ?hr ?_; (case hd => rfl); (case hg => rfl); (case hr => first | (go_simp; done) | (go_simp; rfl)); intro gb374 hg w30 hbox hb; have BK374 := Aside0.mk hbox; have GW374 := u3 hg HB; have GE374 := u3 hg HB; replace HB := u2 HB hb; clear hb hbox hg) | ((with_reducible refine gate_dst (N := 2) rfl ?_); refine box_event ?hg (N := 2) ?hd (cs := #[.int .i64 0, .int .i64 0]) (t := 23) ?hr ?_; (case hd => rfl); (case hg => rfl); (case hr => first | (go_simp; done) | (go_simp; rfl)); intro gb375 hg w31 hbox hb; have n0_ := u1 BK374 hb; have n1_ := Aside0.mk (below_step (by repeat (first | (with_reducible first | exact HB.out | apply below_alloc | apply pw_below_drewN | apply below_drew1 | refine below_set ?_ GE374.out) | exact HB.out)) hb); have n2_ := Aside0.mk hbox; have n3_ := Aside0.mk ((by rw [hg]; exact (below_size (by repeat (first | (with_reducible first | exact HB.out | apply below_alloc | apply pw_below_drewN | apply below_drew1 | refine below_set ?_ GE374.out) | exact HB.out))) : w.heap.size ≤ gb375)); have n4_ := Aside0.mk ((by rw [hg]; exact (below_size (by repeat (first | (with_reducible first | exact HB.out | apply below_alloc | apply pw_below_drewN | apply below_drew1 | refine below_set ?_ GE374.out) | exact HB.out))) : w.heap.size ≤ gb375)); have n5_ := u4 hg BK374; have n6_ := u5 hg BK374; clear BK374; clear HB; have BK374 := n0_; have HB := n1_; have BK375 := n2_; have GW375 := n3_; have GE375 := n4_; have NB374_375 := n5_; have NB375_374 := n6_; clear n0_ n1_ n2_ n3_ n4_ n5_ n6_; clear hb hbox hg) | ((with_reducible refine gate_dst (N := 3) rfl ?_); refine box_event ?hg (N := 3) ?hd (cs := #[.int .i64 0, .int .i64 0]) (t := 23) ?hr ?_; (case hd => rfl); (case hg => rfl); (case hr => first | (go_simp; done) | (go_simp; rfl)); intro gb376 hg w32 hbox hb; have n0_ := u1 BK374 hb; have n1_ := u1 BK375 hb; have n2_ := Aside0.mk (below_step (by repeat (first | (with_reducible first | exact HB.out | apply below_alloc | apply pw_below_drewN | apply below_drew1 | refine below_set ?_ GE374.out | refine below_set ?_ GE375.out) | exact HB.out)) hb); have n3_ := Aside0.mk hbox; have n4_ := Aside0.mk ((by rw [hg]; exact (below_size (by repeat (first | (with_reducible first | exact HB.out | apply below_alloc | apply pw_below_drewN | apply below_drew1 | refine below_set ?_ GE374.out | refine below_set ?_ GE375.out) | exact HB.out))) : w.heap.size ≤ gb376)); have n5_ := Aside0.mk ((by rw [hg]; exact (below_size (by repeat (first | (with_reducible first | exact HB.out | apply below_alloc | apply pw_below_drewN | apply below_drew1 | refine below_set ?_ GE374.out | refine below_set ?_ GE375.out) | exact HB.out))) : w.heap.size ≤ gb376)); have n6_ := u4 hg BK374; have n7_ := u5 hg BK374; have n8_ := u4 hg BK375; have n9_ := u5 hg BK375; clear BK374; clear BK375; clear HB; have BK374 := n0_; have BK375 := n1_; have HB := n2_; have BK376 := n3_; have GW376 := n4_; have GE376 := n5_; have NB374_376 := n6_; have NB376_374 := n7_; have NB375_376 := n8_; have NB376_375 := n9_; clear n0_ n1_ n2_ n3_ n4_ n5_ n6_ n7_ n8_ n9_; clear hb hbox hg) | ((with_reducible refine gate_dst (N := 4) rfl ?_); refine box_event ?hg (N := 4) ?hd (cs := #[.int .i64 0, .int .i64 0]) (t := 23) ?hr ?_; (case hd => rfl); (case hg => rfl); (case hr => first | (go_simp; done) | (go_simp; rfl)); intro gb377 hg w33 hbox hb; have n0_ := u1 BK374 hb; have n1_ := u1 BK375 hb; have n2_ := u1 BK376 hb; have n3_ := Aside0.mk (below_step (by repeat (first | (with_reducible first | exact HB.out | apply below_alloc | apply pw_below_drewN | apply below_drew1 | refine below_set ?_ GE374.out | refine below_set ?_ GE375.out | refine below_set ?_ GE376.out) | exact HB.out)) hb); have n4_ := Aside0.mk hbox; have n5_ := Aside0.mk ((by rw [hg]; exact (below_size (by repeat (first | (with_reducible first | exact HB.out | apply below_alloc | apply pw_below_drewN | apply below_drew1 | refine below_set ?_ GE374.out | refine below_set ?_ GE375.out | refine below_set ?_ GE376.out) | exact HB.out))) : w.heap.size ≤ gb377)); have n6_ := Aside0.mk ((by rw [hg]; exact (below_size (by repeat (first | (with_reducible first | exact HB.out | apply below_alloc | apply pw_below_drewN | apply below_drew1 | refine below_set ?_ GE374.out | refine below_set ?_ GE375.out | refine below_set ?_ GE376.out) | exact HB.out))) : w.heap.size ≤ gb377)); have n7_ := u4 hg BK374; have n8_ := u5 hg BK374; have n9_ := u4 hg BK375; have n10_ := u5 hg BK375; have n11_ := u4 hg BK376; have n12_ := u5 hg BK376; clear BK374; clear BK375; clear BK376; clear HB; have BK374 := n0_; have BK375 := n1_; have BK376 := n2_; have HB := n3_; have BK377 := n4_; have GW377 := n5_; have GE377 := n6_; have NB374_377 := n7_; have NB377_374 := n8_; have NB375_377 := n9_; have NB377_375 := n10_; have NB376_377 := n11_; have NB377_376 := n12_; clear n0_ n1_ n2_ n3_ n4_ n5_ n6_ n7_ n8_ n9_ n10_ n11_ n12_; clear hb hbox hg; have hnb34 := NB374_375.out; have hnc34 := NB375_374.out; have hnb35 := NB374_376.out; have hnc35 := NB376_374.out; have hnb36 := NB374_377.out; have hnc36 := NB377_374.out; obtain ⟨_, _, _, _⟩ := p2 BK374; have hnb38 := NB375_376.out; have hnc38 := NB376_375.out; have hnb39 := NB375_377.out; have hnc39 := NB377_375.out; obtain ⟨_, _, _, _⟩ := p2 BK375; have hnb41 := NB376_377.out; have hnc41 := NB377_376.out; obtain ⟨_, _, _, _⟩ := p2 BK376; obtain ⟨_, _, _, _⟩ := p2 BK377) | ((with_reducible refine gate_callee (f := 8) rfl ?_); refine goesL_ (some 13) rfl rfl Try.func8 (by kernel_rfl) rfl #[.agg #[.int .i64 0, .int .i64 0], .agg #[.int .i64 1, .int .i64 0], .agg #[.int .i64 1, .int .i64 1], .agg #[.int .i64 0, .int .i64 1]] rfl (by (try simp only [List.map_toArray, List.map_cons, List.map_nil]); first | done | rfl | (simp only [List.length_drop, List.length_take]; rfl)) ?_; (with_reducible refine (pred_InCircle.calls k 0 0 1 0 1 1 0 1 t378 _ A1.out).mono ?_); rintro e w44 ⟨rfl, hb⟩; refine ⟨_, rfl, ?_⟩; have n0_ := Aside0.mk (blk_below (g := gb374) (o := .cells #[.int .i64 0, .int .i64 0] 23 (0, 0)) (by (with_reducible repeat (first | refine blk_drewN ?_ _ | refine blk_drew ?_ | refine blk_alloc ?_ _)); refine blk_far ?_ NB374_377.out _; (with_reducible repeat (first | refine blk_drewN ?_ _ | refine blk_drew ?_ | refine blk_alloc ?_ _)); refine blk_far ?_ NB374_377.out _; (with_reducible repeat (first | refine blk_drewN ?_ _ | refine blk_drew ?_ | refine blk_alloc ?_ _)); refine blk_far ?_ NB374_376.out _; (with_reducible repeat (first | refine blk_drewN ?_ _ | refine blk_drew ?_ | refine blk_alloc ?_ _)); refine blk_far ?_ NB374_376.out _; (with_reducible repeat (first | refine blk_drewN ?_ _ | refine blk_drew ?_ | refine blk_alloc ?_ _)); refine blk_far ?_ NB374_375.out _; (with_reducible repeat (first | refine blk_drewN ?_ _ | refine blk_drew ?_ | refine blk_alloc ?_ _)); refine blk_far ?_ NB374_375.out _; (with_reducible repeat (first | refine blk_drewN ?_ _ | refine blk_drew ?_ | refine blk_alloc ?_ _)); refine blk_put (cs := #[.int .i64 0, .int .i64 0]) ?_ 1 _ rfl; (with_reducible repeat (first | refine blk_drewN ?_ _ | refine blk_drew ?_ | refine blk_alloc ?_ _)); refine blk_put (cs := #[.int .i64 0, .int .i64 0]) ?_ 0 _ rfl; (with_reducible repeat (first | refine blk_drewN ?_ _ | refine blk_drew ?_ | refine blk_alloc ?_ _)); exact BK374.out) hb); have n1_ := Aside0.mk (blk_below (g := gb375) (o := .cells #[.int .i64 1, .int .i64 0] 23 (0, 0)) (by (with_reducible repeat (first | refine blk_drewN ?_ _ | refine blk_drew ?_ | refine blk_alloc ?_ _)); refine blk_far ?_ NB375_377.out _; (with_reducible repeat (first | refine blk_drewN ?_ _ | refine blk_drew ?_ | refine blk_alloc ?_ _)); refine blk_far ?_ NB375_377.out _; (with_reducible repeat (first | refine blk_drewN ?_ _ | refine blk_drew ?_ | refine blk_alloc ?_ _)); refine blk_far ?_ NB375_376.out _; (with_reducible repeat (first | refine blk_drewN ?_ _ | refine blk_drew ?_ | refine blk_alloc ?_ _)); refine blk_far ?_ NB375_376.out _; (with_reducible repeat (first | refine blk_drewN ?_ _ | refine blk_drew ?_ | refine blk_alloc ?_ _)); refine blk_put (cs := #[.int .i64 1, .int .i64 0]) ?_ 1 _ rfl; (with_reducible repeat (first | refine blk_drewN ?_ _ | refine blk_drew ?_ | refine blk_alloc ?_ _)); refine blk_put (cs := #[.int .i64 0, .int .i64 0]) ?_ 0 _ rfl; (with_reducible repeat (first | refine blk_drewN ?_ _ | refine blk_drew ?_ | refine blk_alloc ?_ _)); refine blk_far ?_ NB375_374.out _; (with_reducible repeat (first | refine blk_drewN ?_ _ | refine blk_drew ?_ | refine blk_alloc ?_ _)); refine blk_far ?_ NB375_374.out _; (with_reducible repeat (first | refine blk_drewN ?_ _ | refine blk_drew ?_ | refine blk_alloc ?_ _)); exact BK375.out) hb); have n2_ := Aside0.mk (blk_below (g := gb376) (o := .cells #[.int .i64 1, .int .i64 1] 23 (0, 0)) (by (with_reducible repeat (first | refine blk_drewN ?_ _ | refine blk_drew ?_ | refine blk_alloc ?_ _)); refine blk_far ?_ NB376_377.out _; (with_reducible repeat (first | refine blk_drewN ?_ _ | refine blk_drew ?_ | refine blk_alloc ?_ _)); refine blk_far ?_ NB376_377.out _; (with_reducible repeat (first | refine blk_drewN ?_ _ | refine blk_drew ?_ | refine blk_alloc ?_ _)); refine blk_put (cs := #[.int .i64 1, .int .i64 0]) ?_ 1 _ rfl; (with_reducible repeat (first | refine blk_drewN ?_ _ | refine blk_drew ?_ | refine blk_alloc ?_ _)); refine blk_put (cs := #[.int .i64 0, .int .i64 0]) ?_ 0 _ rfl; (with_reducible repeat (first | refine blk_drewN ?_ _ | refine blk_drew ?_ | refine blk_alloc ?_ _)); refine blk_far ?_ NB376_375.out _; (with_reducible repeat (first | refine blk_drewN ?_ _ | refine blk_drew ?_ | refine blk_alloc ?_ _)); refine blk_far ?_ NB376_375.out _; (with_reducible repeat (first | refine blk_drewN ?_ _ | refine blk_drew ?_ | refine blk_alloc ?_ _)); refine blk_far ?_ NB376_374.out _; (with_reducible repeat (first | refine blk_drewN ?_ _ | refine blk_drew ?_ | refine blk_alloc ?_ _)); refine blk_far ?_ NB376_374.out _; (with_reducible repeat (first | refine blk_drewN ?_ _ | refine blk_drew ?_ | refine blk_alloc ?_ _)); exact BK376.out) hb); have n3_ := Aside0.mk (blk_below (g := gb377) (o := .cells #[.int .i64 0, .int .i64 1] 23 (0, 0)) (by (with_reducible repeat (first | refine blk_drewN ?_ _ | refine blk_drew ?_ | refine blk_alloc ?_ _)); refine blk_put (cs := #[.int .i64 0, .int .i64 0]) ?_ 1 _ rfl; (with_reducible repeat (first | refine blk_drewN ?_ _ | refine blk_drew ?_ | refine blk_alloc ?_ _)); refine blk_put (cs := #[.int .i64 0, .int .i64 0]) ?_ 0 _ rfl; (with_reducible repeat (first | refine blk_drewN ?_ _ | refine blk_drew ?_ | refine blk_alloc ?_ _)); refine blk_far ?_ NB377_376.out _; (with_reducible repeat (first | refine blk_drewN ?_ _ | refine blk_drew ?_ | refine blk_alloc ?_ _)); refine blk_far ?_ NB377_376.out _; (with_reducible repeat (first | refine blk_drewN ?_ _ | refine blk_drew ?_ | refine blk_alloc ?_ _)); refine blk_far ?_ NB377_375.out _; (with_reducible repeat (first | refine blk_drewN ?_ _ | refine blk_drew ?_ | refine blk_alloc ?_ _)); refine blk_far ?_ NB377_375.out _; (with_reducible repeat (first | refine blk_drewN ?_ _ | refine blk_drew ?_ | refine blk_alloc ?_ _)); refine blk_far ?_ NB377_374.out _; (with_reducible repeat (first | refine blk_drewN ?_ _ | refine blk_drew ?_ | refine blk_alloc ?_ _)); refine blk_far ?_ NB377_374.out _; (with_reducible repeat (first | refine blk_drewN ?_ _ | refine blk_drew ?_ | refine blk_alloc ?_ _)); exact BK377.out) hb); have n4_ := Aside0.mk (below_step (by repeat (first | (with_reducible first | exact HB.out | apply below_alloc | apply pw_below_drewN | apply below_drew1 | refine below_set ?_ GE374.out | refine below_set ?_ GE375.out | refine below_set ?_ GE376.out | refine below_set ?_ GE377.out) | exact HB.out)) hb); clear BK374; clear BK375; clear BK376; clear BK377; clear HB; have BK374 := n0_; have BK375 := n1_; have BK376 := n2_; have BK377 := n3_; have HB := n4_; clear n0_ n1_ n2_ n3_ n4_; clear hb; obtain ⟨_, _, _, _⟩ := p2 BK374; obtain ⟨_, _, _, _⟩ := p2 BK375; obtain ⟨_, _, _, _⟩ := p2 BK376) | (go_at_call 14; (with_reducible refine (pred_Orient.calls k 0 0 1 0 1 1 t379 _ A3.out).mono ?_); rintro e w48 ⟨rfl, hb⟩; have n0_ := u1 BK374 hb; have n1_ := u1 BK375 hb; have n2_ := u1 BK376 hb; have n3_ := u1 BK377 hb; have n4_ := Aside0.mk (below_step (by repeat (first | (with_reducible first | exact HB.out | apply below_alloc | apply pw_below_drewN | apply below_drew1 | refine below_set ?_ GE374.out | refine below_set ?_ GE375.out | refine below_set ?_ GE376.out | refine below_set ?_ GE377.out) | exact HB.out)) hb); clear BK374; clear BK375; clear BK376; clear BK377; clear HB; have BK374 := n0_; have BK375 := n1_; have BK376 := n2_; have BK377 := n3_; have HB := n4_; clear n0_ n1_ n2_ n3_ n4_; clear hb))
   go_ret
   exact ⟨by first | rfl | (simp [*, errW_none, errW_some] <;> rfl), bw HB.out⟩
 ·rw [if_neg c2] at H
  have c2b0 : (t378 == 0) = false := beq_eq_false_iff_ne.mpr c2
  have c2b1 : (t378 != 0) = true := bne_iff_ne.mpr c2
  obtain rfl := Option.some.inj H
  go_enter Try.func10, Try.ntmps10
  go_wp2_with (first | ((with_reducible refine gate_dst (N := 1) rfl ?_); refine box_event ?hg (N := 1) ?hd (cs := #[.int .i64 0, .int .i64 0]) (t := 23) ?hr ?_; (case hd => rfl); (case hg => rfl); (case hr => first | (go_simp; done) | (go_simp; rfl)); intro gb374 hg w49 hbox hb; have BK374 := Aside0.mk hbox; have GW374 := u3 hg HB; have GE374 := u3 hg HB; replace HB := u2 HB hb; clear hb hbox hg) | ((with_reducible refine gate_dst (N := 2) rfl ?_); refine box_event ?hg (N := 2) ?hd (cs := #[.int .i64 0, .int .i64 0]) (t := 23) ?hr ?_; (case hd => rfl); (case hg => rfl); (case hr => first | (go_simp; done) | (go_simp; rfl)); intro gb375 hg w50 hbox hb; have n0_ := u1 BK374 hb; have n1_ := Aside0.mk (below_step (by repeat (first | (with_reducible first | exact HB.out | apply below_alloc | apply pw_below_drewN | apply below_drew1 | refine below_set ?_ GE374.out) | exact HB.out)) hb); have n2_ := Aside0.mk hbox; have n3_ := Aside0.mk ((by rw [hg]; exact (below_size (by repeat (first | (with_reducible first | exact HB.out | apply below_alloc | apply pw_below_drewN | apply below_drew1 | refine below_set ?_ GE374.out) | exact HB.out))) : w.heap.size ≤ gb375)); have n4_ := Aside0.mk ((by rw [hg]; exact (below_size (by repeat (first | (with_reducible first | exact HB.out | apply below_alloc | apply pw_below_drewN | apply below_drew1 | refine below_set ?_ GE374.out) | exact HB.out))) : w.heap.size ≤ gb375)); have n5_ := u4 hg BK374; have n6_ := u5 hg BK374; clear BK374; clear HB; have BK374 := n0_; have HB := n1_; have BK375 := n2_; have GW375 := n3_; have GE375 := n4_; have NB374_375 := n5_; have NB375_374 := n6_; clear n0_ n1_ n2_ n3_ n4_ n5_ n6_; clear hb hbox hg) | ((with_reducible refine gate_dst (N := 3) rfl ?_); refine box_event ?hg (N := 3) ?hd (cs := #[.int .i64 0, .int .i64 0]) (t := 23) ?hr ?_; (case hd => rfl); (case hg => rfl); (case hr => first | (go_simp; done) | (go_simp; rfl)); intro gb376 hg w51 hbox hb; have n0_ := u1 BK374 hb; have n1_ := u1 BK375 hb; have n2_ := Aside0.mk (below_step (by repeat (first | (with_reducible first | exact HB.out | apply below_alloc | apply pw_below_drewN | apply below_drew1 | refine below_set ?_ GE374.out | refine below_set ?_ GE375.out) | exact HB.out)) hb); have n3_ := Aside0.mk hbox; have n4_ := Aside0.mk ((by rw [hg]; exact (below_size (by repeat (first | (with_reducible first | exact HB.out | apply below_alloc | apply pw_below_drewN | apply below_drew1 | refine below_set ?_ GE374.out | refine below_set ?_ GE375.out) | exact HB.out))) : w.heap.size ≤ gb376)); have n5_ := Aside0.mk ((by rw [hg]; exact (below_size (by repeat (first | (with_reducible first | exact HB.out | apply below_alloc | apply pw_below_drewN | apply below_drew1 | refine below_set ?_ GE374.out | refine below_set ?_ GE375.out) | exact HB.out))) : w.heap.size ≤ gb376)); have n6_ := u4 hg BK374; have n7_ := u5 hg BK374; have n8_ := u4 hg BK375; have n9_ := u5 hg BK375; clear BK374; clear BK375; clear HB; have BK374 := n0_; have BK375 := n1_; have HB := n2_; have BK376 := n3_; have GW376 := n4_; have GE376 := n5_; have NB374_376 := n6_; have NB376_374 := n7_; have NB375_376 := n8_; have NB376_375 := n9_; clear n0_ n1_ n2_ n3_ n4_ n5_ n6_ n7_ n8_ n9_; clear hb hbox hg) | ((with_reducible refine gate_dst (N := 4) rfl ?_); refine box_event ?hg (N := 4) ?hd (cs := #[.int .i64 0, .int .i64 0]) (t := 23) ?hr ?_; (case hd => rfl); (case hg => rfl); (case hr => first | (go_simp; done) | (go_simp; rfl)); intro gb377 hg w52 hbox hb; have n0_ := u1 BK374 hb; have n1_ := u1 BK375 hb; have n2_ := u1 BK376 hb; have n3_ := Aside0.mk (below_step (by repeat (first | (with_reducible first | exact HB.out | apply below_alloc | apply pw_below_drewN | apply below_drew1 | refine below_set ?_ GE374.out | refine below_set ?_ GE375.out | refine below_set ?_ GE376.out) | exact HB.out)) hb); have n4_ := Aside0.mk hbox; have n5_ := Aside0.mk ((by rw [hg]; exact (below_size (by repeat (first | (with_reducible first | exact HB.out | apply below_alloc | apply pw_below_drewN | apply below_drew1 | refine below_set ?_ GE374.out | refine below_set ?_ GE375.out | refine below_set ?_ GE376.out) | exact HB.out))) : w.heap.size ≤ gb377)); have n6_ := Aside0.mk ((by rw [hg]; exact (below_size (by repeat (first | (with_reducible first | exact HB.out | apply below_alloc | apply pw_below_drewN | apply below_drew1 | refine below_set ?_ GE374.out | refine below_set ?_ GE375.out | refine below_set ?_ GE376.out) | exact HB.out))) : w.heap.size ≤ gb377)); have n7_ := u4 hg BK374; have n8_ := u5 hg BK374; have n9_ := u4 hg BK375; have n10_ := u5 hg BK375; have n11_ := u4 hg BK376; have n12_ := u5 hg BK376; clear BK374; clear BK375; clear BK376; clear HB; have BK374 := n0_; have BK375 := n1_; have BK376 := n2_; have HB := n3_; have BK377 := n4_; have GW377 := n5_; have GE377 := n6_; have NB374_377 := n7_; have NB377_374 := n8_; have NB375_377 := n9_; have NB377_375 := n10_; have NB376_377 := n11_; have NB377_376 := n12_; clear n0_ n1_ n2_ n3_ n4_ n5_ n6_ n7_ n8_ n9_ n10_ n11_ n12_; clear hb hbox hg; have hnb53 := NB374_375.out; have hnc53 := NB375_374.out; have hnb54 := NB374_376.out; have hnc54 := NB376_374.out; have hnb55 := NB374_377.out; have hnc55 := NB377_374.out; obtain ⟨_, _, _, _⟩ := p2 BK374; have hnb57 := NB375_376.out; have hnc57 := NB376_375.out; have hnb58 := NB375_377.out; have hnc58 := NB377_375.out; obtain ⟨_, _, _, _⟩ := p2 BK375; have hnb60 := NB376_377.out; have hnc60 := NB377_376.out; obtain ⟨_, _, _, _⟩ := p2 BK376; obtain ⟨_, _, _, _⟩ := p2 BK377) | ((with_reducible refine gate_callee (f := 8) rfl ?_); refine goesL_ (some 13) rfl rfl Try.func8 (by kernel_rfl) rfl #[.agg #[.int .i64 0, .int .i64 0], .agg #[.int .i64 1, .int .i64 0], .agg #[.int .i64 1, .int .i64 1], .agg #[.int .i64 0, .int .i64 1]] rfl (by (try simp only [List.map_toArray, List.map_cons, List.map_nil]); first | done | rfl | (simp only [List.length_drop, List.length_take]; rfl)) ?_; (with_reducible refine (pred_InCircle.calls k 0 0 1 0 1 1 0 1 t378 _ A1.out).mono ?_); rintro e w63 ⟨rfl, hb⟩; refine ⟨_, rfl, ?_⟩; have n0_ := Aside0.mk (blk_below (g := gb374) (o := .cells #[.int .i64 0, .int .i64 0] 23 (0, 0)) (by (with_reducible repeat (first | refine blk_drewN ?_ _ | refine blk_drew ?_ | refine blk_alloc ?_ _)); refine blk_far ?_ NB374_377.out _; (with_reducible repeat (first | refine blk_drewN ?_ _ | refine blk_drew ?_ | refine blk_alloc ?_ _)); refine blk_far ?_ NB374_377.out _; (with_reducible repeat (first | refine blk_drewN ?_ _ | refine blk_drew ?_ | refine blk_alloc ?_ _)); refine blk_far ?_ NB374_376.out _; (with_reducible repeat (first | refine blk_drewN ?_ _ | refine blk_drew ?_ | refine blk_alloc ?_ _)); refine blk_far ?_ NB374_376.out _; (with_reducible repeat (first | refine blk_drewN ?_ _ | refine blk_drew ?_ | refine blk_alloc ?_ _)); refine blk_far ?_ NB374_375.out _; (with_reducible repeat (first | refine blk_drewN ?_ _ | refine blk_drew ?_ | refine blk_alloc ?_ _)); refine blk_far ?_ NB374_375.out _; (with_reducible repeat (first | refine blk_drewN ?_ _ | refine blk_drew ?_ | refine blk_alloc ?_ _)); refine blk_put (cs := #[.int .i64 0, .int .i64 0]) ?_ 1 _ rfl; (with_reducible repeat (first | refine blk_drewN ?_ _ | refine blk_drew ?_ | refine blk_alloc ?_ _)); refine blk_put (cs := #[.int .i64 0, .int .i64 0]) ?_ 0 _ rfl; (with_reducible repeat (first | refine blk_drewN ?_ _ | refine blk_drew ?_ | refine blk_alloc ?_ _)); exact BK374.out) hb); have n1_ := Aside0.mk (blk_below (g := gb375) (o := .cells #[.int .i64 1, .int .i64 0] 23 (0, 0)) (by (with_reducible repeat (first | refine blk_drewN ?_ _ | refine blk_drew ?_ | refine blk_alloc ?_ _)); refine blk_far ?_ NB375_377.out _; (with_reducible repeat (first | refine blk_drewN ?_ _ | refine blk_drew ?_ | refine blk_alloc ?_ _)); refine blk_far ?_ NB375_377.out _; (with_reducible repeat (first | refine blk_drewN ?_ _ | refine blk_drew ?_ | refine blk_alloc ?_ _)); refine blk_far ?_ NB375_376.out _; (with_reducible repeat (first | refine blk_drewN ?_ _ | refine blk_drew ?_ | refine blk_alloc ?_ _)); refine blk_far ?_ NB375_376.out _; (with_reducible repeat (first | refine blk_drewN ?_ _ | refine blk_drew ?_ | refine blk_alloc ?_ _)); refine blk_put (cs := #[.int .i64 1, .int .i64 0]) ?_ 1 _ rfl; (with_reducible repeat (first | refine blk_drewN ?_ _ | refine blk_drew ?_ | refine blk_alloc ?_ _)); refine blk_put (cs := #[.int .i64 0, .int .i64 0]) ?_ 0 _ rfl; (with_reducible repeat (first | refine blk_drewN ?_ _ | refine blk_drew ?_ | refine blk_alloc ?_ _)); refine blk_far ?_ NB375_374.out _; (with_reducible repeat (first | refine blk_drewN ?_ _ | refine blk_drew ?_ | refine blk_alloc ?_ _)); refine blk_far ?_ NB375_374.out _; (with_reducible repeat (first | refine blk_drewN ?_ _ | refine blk_drew ?_ | refine blk_alloc ?_ _)); exact BK375.out) hb); have n2_ := Aside0.mk (blk_below (g := gb376) (o := .cells #[.int .i64 1, .int .i64 1] 23 (0, 0)) (by (with_reducible repeat (first | refine blk_drewN ?_ _ | refine blk_drew ?_ | refine blk_alloc ?_ _)); refine blk_far ?_ NB376_377.out _; (with_reducible repeat (first | refine blk_drewN ?_ _ | refine blk_drew ?_ | refine blk_alloc ?_ _)); refine blk_far ?_ NB376_377.out _; (with_reducible repeat (first | refine blk_drewN ?_ _ | refine blk_drew ?_ | refine blk_alloc ?_ _)); refine blk_put (cs := #[.int .i64 1, .int .i64 0]) ?_ 1 _ rfl; (with_reducible repeat (first | refine blk_drewN ?_ _ | refine blk_drew ?_ | refine blk_alloc ?_ _)); refine blk_put (cs := #[.int .i64 0, .int .i64 0]) ?_ 0 _ rfl; (with_reducible repeat (first | refine blk_drewN ?_ _ | refine blk_drew ?_ | refine blk_alloc ?_ _)); refine blk_far ?_ NB376_375.out _; (with_reducible repeat (first | refine blk_drewN ?_ _ | refine blk_drew ?_ | refine blk_alloc ?_ _)); refine blk_far ?_ NB376_375.out _; (with_reducible repeat (first | refine blk_drewN ?_ _ | refine blk_drew ?_ | refine blk_alloc ?_ _)); refine blk_far ?_ NB376_374.out _; (with_reducible repeat (first | refine blk_drewN ?_ _ | refine blk_drew ?_ | refine blk_alloc ?_ _)); refine blk_far ?_ NB376_374.out _; (with_reducible repeat (first | refine blk_drewN ?_ _ | refine blk_drew ?_ | refine blk_alloc ?_ _)); exact BK376.out) hb); have n3_ := Aside0.mk (blk_below (g := gb377) (o := .cells #[.int .i64 0, .int .i64 1] 23 (0, 0)) (by (with_reducible repeat (first | refine blk_drewN ?_ _ | refine blk_drew ?_ | refine blk_alloc ?_ _)); refine blk_put (cs := #[.int .i64 0, .int .i64 0]) ?_ 1 _ rfl; (with_reducible repeat (first | refine blk_drewN ?_ _ | refine blk_drew ?_ | refine blk_alloc ?_ _)); refine blk_put (cs := #[.int .i64 0, .int .i64 0]) ?_ 0 _ rfl; (with_reducible repeat (first | refine blk_drewN ?_ _ | refine blk_drew ?_ | refine blk_alloc ?_ _)); refine blk_far ?_ NB377_376.out _; (with_reducible repeat (first | refine blk_drewN ?_ _ | refine blk_drew ?_ | refine blk_alloc ?_ _)); refine blk_far ?_ NB377_376.out _; (with_reducible repeat (first | refine blk_drewN ?_ _ | refine blk_drew ?_ | refine blk_alloc ?_ _)); refine blk_far ?_ NB377_375.out _; (with_reducible repeat (first | refine blk_drewN ?_ _ | refine blk_drew ?_ | refine blk_alloc ?_ _)); refine blk_far ?_ NB377_375.out _; (with_reducible repeat (first | refine blk_drewN ?_ _ | refine blk_drew ?_ | refine blk_alloc ?_ _)); refine blk_far ?_ NB377_374.out _; (with_reducible repeat (first | refine blk_drewN ?_ _ | refine blk_drew ?_ | refine blk_alloc ?_ _)); refine blk_far ?_ NB377_374.out _; (with_reducible repeat (first | refine blk_drewN ?_ _ | refine blk_drew ?_ | refine blk_alloc ?_ _)); exact BK377.out) hb); have n4_ := Aside0.mk (below_step (by repeat (first | (with_reducible first | exact HB.out | apply below_alloc | apply pw_below_drewN | apply below_drew1 | refine below_set ?_ GE374.out | refine below_set ?_ GE375.out | refine below_set ?_ GE376.out | refine below_set ?_ GE377.out) | exact HB.out)) hb); clear BK374; clear BK375; clear BK376; clear BK377; clear HB; have BK374 := n0_; have BK375 := n1_; have BK376 := n2_; have BK377 := n3_; have HB := n4_; clear n0_ n1_ n2_ n3_ n4_; clear hb))
  go_ret
  exact ⟨by first | rfl | (simp [*, errW_none, errW_some] <;> rfl), bw HB.out⟩
end Go.Proofs.Ytmeckkckjikjiaa.F
end
section
namespace Go.Proofs.Ytmeckkckjikjiaa.Pd
open Go RowKit YtmeckkckjikjiaaW.PrintWords Ytmeckkckjikjiaa.F Ytmeckkckjikjiaa.Wd Ytmeckkckjikjiaa.Pm
set_option linter.unusedVariables false
theorem q256 (n : Int) : qv (q0 n) (q1 n) (q2 n) (q3 n) = n % 115792089237316195423570985008687907853269984665640564039457584007913129639936 := by unfold qv q0 q1 q2 q3; omega
theorem qcong {n m : Int} (h : n % 115792089237316195423570985008687907853269984665640564039457584007913129639936 = m % 115792089237316195423570985008687907853269984665640564039457584007913129639936) : qq4 n = qq4 m := by
 have e : n = m + 115792089237316195423570985008687907853269984665640564039457584007913129639936 * (n / 115792089237316195423570985008687907853269984665640564039457584007913129639936 - m / 115792089237316195423570985008687907853269984665640564039457584007913129639936) := by omega
 generalize n / 115792089237316195423570985008687907853269984665640564039457584007913129639936 - m / 115792089237316195423570985008687907853269984665640564039457584007913129639936 = t at e
 subst e
 clear h
 unfold qq4 q0 q1 q2 q3
 have d1 : (m + 115792089237316195423570985008687907853269984665640564039457584007913129639936 * t) / 18446744073709551616 = m / 18446744073709551616 + 6277101735386680763835789423207666416102355444464034512896 * t := by omega
 have d2 : (m / 18446744073709551616 + 6277101735386680763835789423207666416102355444464034512896 * t) / 18446744073709551616 = m / 18446744073709551616 / 18446744073709551616 + 340282366920938463463374607431768211456 * t := by omega
 have d3 : (m / 18446744073709551616 / 18446744073709551616 + 340282366920938463463374607431768211456 * t) / 18446744073709551616 = m / 18446744073709551616 / 18446744073709551616 / 18446744073709551616 + 18446744073709551616 * t := by omega
 rw [d1, d2, d3]
 have c0 : (m + 115792089237316195423570985008687907853269984665640564039457584007913129639936 * t) % 18446744073709551616 = m % 18446744073709551616 := by omega
 have c1 : (m / 18446744073709551616 + 6277101735386680763835789423207666416102355444464034512896 * t) % 18446744073709551616 = m / 18446744073709551616 % 18446744073709551616 := by omega
 have c2 : (m / 18446744073709551616 / 18446744073709551616 + 340282366920938463463374607431768211456 * t) % 18446744073709551616 = m / 18446744073709551616 / 18446744073709551616 % 18446744073709551616 := by omega
 have c3 : (m / 18446744073709551616 / 18446744073709551616 / 18446744073709551616 + 18446744073709551616 * t) % 18446744073709551616 = m / 18446744073709551616 / 18446744073709551616 / 18446744073709551616 % 18446744073709551616 := by omega
 rw [c0, c1, c2, c3]
theorem qmul_w {n m : Int} {B C : Nat} (h : Am n B) (h' : Am m C) (hB : B ≤ 170141183460469231731687303715884105727) (hC : C ≤ 170141183460469231731687303715884105727) : quad_Mul.f (whi n) (wlo n) (whi m) (wlo m) = some (qq4 (n * m)) := by
 unfold quad_Mul.f
 rw [if_pos ⟨wok_of _, wok_of _⟩, am_w h hB, am_w h' hC]
theorem qadd_w (n m : Int) : quad_Add.f (q0 n) (q1 n) (q2 n) (q3 n) (q0 m) (q1 m) (q2 m) (q3 m) = some (qq4 (n + m)) := by
 unfold quad_Add.f
 rw [if_pos ⟨q_ok _, q_ok _⟩, qcong (m := n + m) (by rw [q256, q256]; omega)]
theorem qsign_w {n : Int} {B : Nat} (h : Am n B) (hB : B < 57896044618658097711785492504343953926634992332820282019728792003956564819968) : quad_Sign.f (q0 n) (q1 n) (q2 n) (q3 n) = some n.sign := by
 unfold quad_Sign.f
 rw [if_pos (q_ok n)]
 have b := h.le
 have e := q256 n
 obtain ⟨⟨a0, a1⟩, ⟨b0, b1⟩, ⟨c0, c1⟩, ⟨d0, d1⟩⟩ := q_ok n
 generalize q0 n = x0 at *; generalize q1 n = x1 at *; generalize q2 n = x2 at *; generalize q3 n = x3 at *
 unfold qv at e
 congr 1
 by_cases k : 9223372036854775808 ≤ x3
 ·rw [if_pos k, Int.sign_eq_neg_one_of_neg (by omega)]
 ·rw [if_neg k]
  by_cases z : x0 = 0 ∧ x1 = 0 ∧ x2 = 0 ∧ x3 = 0
  ·rw [if_pos z, show n = 0 by omega]; rfl
  ·rw [if_neg z, Int.sign_eq_one_of_pos (by omega)]
def icS (a0 a1 b0 b1 c0 c1 d0 d1 : Int) : Int := if CoP a0 a1 ∧ CoP b0 b1 ∧ CoP c0 c1 ∧ CoP d0 d1 then (dt a0 a1 b0 b1 c0 c1 d0 d1).sign else 0
theorem InCircle_f (a0 a1 b0 b1 c0 c1 d0 d1 : Int) {k : Nat} (hk : 2000 ≤ k) : pred_InCircle.f k a0 a1 b0 b1 c0 c1 d0 d1 = some (icS a0 a1 b0 b1 c0 c1 d0 d1) := by
 unfold pred_InCircle.f icS
 rw [can4 _ _ _ _ _ _ _ _ hk, Option.bind_some]
 by_cases h : CoP a0 a1 ∧ CoP b0 b1 ∧ CoP c0 c1 ∧ CoP d0 d1
 ·obtain ⟨ha, hb, hc, hd⟩ := h
  have u0 := ha.1.way hd.1; have u1 := ha.2.way hd.2
  have v0 := hb.1.way hd.1; have v1 := hb.2.way hd.2
  have t0 := hc.1.way hd.1; have t1 := hc.2.way hd.2
  have m1 := qmul_w (square_am u0 u1) (cross_am v0 v1 t0 t1) (by omega) (by omega)
  have m2 := qmul_w (square_am v0 v1) (cross_am t0 t1 u0 u1) (by omega) (by omega)
  have m3 := qmul_w (square_am t0 t1) (cross_am u0 u1 v0 v1) (by omega) (by omega)
  unfold qq4 at m1 m2 m3
  have A1 := qadd_w (((a0 - d0) * (a0 - d0) + (a1 - d1) * (a1 - d1)) * ((b0 - d0) * (c1 - d1) - (b1 - d1) * (c0 - d0))) (((b0 - d0) * (b0 - d0) + (b1 - d1) * (b1 - d1)) * ((c0 - d0) * (a1 - d1) - (c1 - d1) * (a0 - d0)))
  have A2 := qadd_w (((a0 - d0) * (a0 - d0) + (a1 - d1) * (a1 - d1)) * ((b0 - d0) * (c1 - d1) - (b1 - d1) * (c0 - d0)) + ((b0 - d0) * (b0 - d0) + (b1 - d1) * (b1 - d1)) * ((c0 - d0) * (a1 - d1) - (c1 - d1) * (a0 - d0))) (((c0 - d0) * (c0 - d0) + (c1 - d1) * (c1 - d1)) * ((a0 - d0) * (b1 - d1) - (a1 - d1) * (b0 - d0)))
  unfold qq4 at A1 A2
  have S := qsign_w (dt_am ha.1 ha.2 hb.1 hb.2 hc.1 hc.2 hd.1 hd.2) (by omega)
  unfold dt at S
  rw [if_pos (decide_eq_true ⟨ha, hb, hc, hd⟩), way_f hd ha, Option.bind_some, way_f hd hb, Option.bind_some, way_f hd hc, Option.bind_some, square_f u0 u1, Option.bind_some, across_f v0 v1 t0 t1, Option.bind_some, m1, Option.bind_some, square_f v0 v1, Option.bind_some, across_f t0 t1 u0 u1, Option.bind_some, m2, Option.bind_some, A1, Option.bind_some,
   square_f t0 t1, Option.bind_some, across_f u0 u1 v0 v1, Option.bind_some, m3, Option.bind_some, A2, Option.bind_some, S, Option.bind_some, if_pos ⟨ha, hb, hc, hd⟩]
  rfl
 ·rw [if_neg (by rw [decide_eq_true_eq]; exact h), if_neg h]
theorem lives_true {k : Nat} (hk : 2000 ≤ k) : zelligelaw07_lives.f k = some true := by
 unfold zelligelaw07_lives.f
 rw [InCircle_f _ _ _ _ _ _ _ _ hk, Option.bind_some, Orient_f _ _ _ _ _ _ hk, Option.bind_some, Where_f _ _ _ _ _ _ _ _ hk, Option.bind_some]
 decide +kernel
end Go.Proofs.Ytmeckkckjikjiaa.Pd
end
section
namespace Go.Proofs.Ytmeckkckjikjiaa.D8
open Go RowKit YtmeckkckjikjiaaW.PrintWords
theorem w64 {x : Int} (h : -9223372036854775808 ≤ x) (h' : x ≤ 9223372036854775807) : wrap64 x = x := by unfold wrap64; omega
def val : List Int → Int
 | [] => 0
 | d :: l => d + 256 * val l
def Dg (l : List Int) : Prop := ∀ d, d ∈ l → 0 ≤ d ∧ d < 256
def Cn (l : List Int) : Prop := Dg l ∧ (l = [] ∨ l.getD (l.length - 1) 0 ≠ 0)
def P : Nat → Int
 | 0 => 1
 | k + 1 => 256 * P k
theorem P_pos (k : Nat) : 1 ≤ P k := by
 induction k with
 | zero => simp [P]
 | succ k ih => simp only [P]; omega
theorem P_add (a b : Nat) : P (a + b) = P a * P b := by
 induction b with
 | zero => simp [P]
 | succ b ih => rw [show a + (b + 1) = (a + b) + 1 from rfl, P, ih, P]; grind
theorem P_mono {a b : Nat} (h : a ≤ b) : P a ≤ P b := by
 obtain ⟨c, rfl⟩ : ∃ c, b = a + c := ⟨b - a, by omega⟩
 rw [P_add]
 have h1 := P_pos a
 have h2 := P_pos c
 have : P a * 1 ≤ P a * P c := Int.mul_le_mul_of_nonneg_left h2 (by omega)
 omega
theorem Dg_nil : Dg [] := fun d h => by cases h
theorem Dg_cons {d : Int} {l : List Int} : Dg (d :: l) ↔ (0 ≤ d ∧ d < 256) ∧ Dg l := by simp [Dg]
theorem Dg_app {a b : List Int} : Dg (a ++ b) ↔ Dg a ∧ Dg b := by
 constructor
 ·intro h
  exact ⟨fun d hd => h d (List.mem_append_left _ hd), fun d hd => h d (List.mem_append_right _ hd)⟩
 ·rintro ⟨h1, h2⟩ d hd
  rcases List.mem_append.1 hd with hd | hd
  ·exact h1 d hd
  ·exact h2 d hd
theorem Dg_one {d : Int} (h : 0 ≤ d) (h' : d < 256) : Dg [d] := fun x hx => by
 rw [List.mem_singleton.1 hx]; exact ⟨h, h'⟩
theorem Dg_take {l : List Int} (h : Dg l) (n : Nat) : Dg (l.take n) := fun d hd => h d (List.mem_of_mem_take hd)
theorem Dg_drop {l : List Int} (h : Dg l) (n : Nat) : Dg (l.drop n) := fun d hd => h d (List.mem_of_mem_drop hd)
theorem Dg_get {l : List Int} (h : Dg l) (n : Nat) : 0 ≤ l.getD n 0 ∧ l.getD n 0 < 256 := by
 rw [List.getD_eq_getElem?_getD]
 cases e : l[n]? with
 | none => simp
 | some x => simpa using h x (List.mem_of_getElem? e)
theorem val_app (a b : List Int) : val (a ++ b) = val a + P a.length * val b := by
 induction a with
 | nil => simp [val, P]
 | cons d a ih => simp only [List.cons_append, val, ih, List.length_cons, P]; grind
theorem val_snoc (a : List Int) (d : Int) : val (a ++ [d]) = val a + P a.length * d := by
 rw [val_app]; simp [val]
theorem val_nonneg {l : List Int} (h : Dg l) : 0 ≤ val l := by
 induction l with
 | nil => simp [val]
 | cons d l ih =>
  have := (Dg_cons.1 h)
  have := ih this.2
  simp only [val]; omega
theorem val_lt {l : List Int} (h : Dg l) : val l < P l.length := by
 induction l with
 | nil => simp [val, P]
 | cons d l ih =>
  have := (Dg_cons.1 h)
  have := ih this.2
  simp only [val, List.length_cons, P]; omega
theorem val_zero_of {l : List Int} (h : ∀ d, d ∈ l → d = 0) : val l = 0 := by
 induction l with
 | nil => rfl
 | cons d l ih =>
  simp only [val]
  rw [ih (fun x hx => h x (List.mem_cons_of_mem _ hx)), h d List.mem_cons_self]; rfl
theorem val_drop {l : List Int} {i : Nat} (h : i < l.length) : val (l.drop i) = l.getD i 0 + 256 * val (l.drop (i + 1)) := by
 rw [List.drop_eq_getElem_cons h, val]
 simp [List.getD_eq_getElem?_getD, List.getElem?_eq_getElem h]
theorem val_drop_all {l : List Int} {i : Nat} (h : l.length ≤ i) : val (l.drop i) = 0 := by
 rw [List.drop_eq_nil_of_le h]; rfl
theorem val_take_drop (l : List Int) (i : Nat) (h : i ≤ l.length) : val l = val (l.take i) + P i * val (l.drop i) := by
 have := val_app (l.take i) (l.drop i)
 rw [List.take_append_drop, List.length_take, Nat.min_eq_left h] at this
 exact this
theorem take_succ' {l : List Int} {i : Nat} (h : i < l.length) : l.take (i + 1) = l.take i ++ [l.getD i 0] := by
 rw [List.take_succ_eq_append_getElem h]
 simp [List.getD_eq_getElem?_getD, List.getElem?_eq_getElem h]
theorem Cn_nil : Cn [] := ⟨Dg_nil, .inl rfl⟩
theorem Cn_low {l : List Int} (h : Cn l) (hn : l ≠ []) : P (l.length - 1) ≤ val l := by
 obtain ⟨h1, h2 | h2⟩ := h
 ·exact absurd h2 hn
 ·have hl : 0 < l.length := List.length_pos_iff.2 hn
  have e := val_take_drop l (l.length - 1) (by omega)
  have e2 := val_drop (l := l) (i := l.length - 1) (by omega)
  rw [val_drop_all (i := l.length - 1 + 1) (by omega)] at e2
  have hg := Dg_get h1 (l.length - 1)
  have h0 := val_nonneg (Dg_take h1 (l.length - 1))
  have hp := P_pos (l.length - 1)
  have : P (l.length - 1) * 1 ≤ P (l.length - 1) * val (l.drop (l.length - 1)) := Int.mul_le_mul_of_nonneg_left (by omega) (by omega)
  omega
theorem Cn_zero {l : List Int} (h : Cn l) (h0 : val l = 0) : l = [] := by
 by_cases hn : l = []
 ·exact hn
 ·have := Cn_low h hn
  have := P_pos (l.length - 1)
  omega
theorem Cn_tail {d : Int} {l : List Int} (h : Cn (d :: l)) : Cn l := by
 refine ⟨(Dg_cons.1 h.1).2, ?_⟩
 rcases l with _ | ⟨e, l⟩
 ·exact .inl rfl
 ·refine .inr ?_
  rcases h.2 with h2 | h2
  ·cases h2
  ·simpa using h2
theorem Cn_one {a b : List Int} (ha : Cn a) (hb : Cn b) (h : val a = val b) : a = b := by
 induction a generalizing b with
 | nil => exact (Cn_zero hb (by rw [← h]; rfl)).symm
 | cons d a ih =>
  rcases b with _ | ⟨e, b⟩
  ·exact Cn_zero ha (by rw [h]; rfl)
  ·simp only [val] at h
   have h1 := (Dg_cons.1 ha.1).1
   have h2 := (Dg_cons.1 hb.1).1
   have hd : d = e := by omega
   subst hd
   rw [ih (Cn_tail ha) (Cn_tail hb) (by omega)]
theorem Cn_longer {a b : List Int} (ha : Dg a) (hb : Cn b) (h : a.length < b.length) : val a < val b := by
 have h1 := val_lt ha
 have h2 := Cn_low hb (by intro e; rw [e] at h; simp at h)
 have h3 := P_mono (a := a.length) (b := b.length - 1) (by omega)
 omega
end Go.Proofs.Ytmeckkckjikjiaa.D8
end
section
namespace Go.Proofs.Ytmeckkckjikjiaa.F
open RowKit YtmeckkckjikjiaaW.PrintWords YtmeckkckjikjiaaW.PrintLast YtmeckkckjikjiaaW.PrintMore
set_option linter.unusedVariables false
set_option linter.unusedSimpArgs false
def zelligeref01_Add.l0 : Nat → List Int → List Int → List Int → Int → Int → Option (List Int)
 | 0, _, _, _, _, _ => none
 | k + 1, x0, x1, x5, x6, x7 => if x7 < (x0.length : Int) then (if 0 ≤ x7 then (if x7 < (x1.length : Int) then (if x7 < (x5.length : Int) then (zelligeref01_Add.l0 k x0 x1 (x5.set (x7 : Int).toNat (Int.tmod (wrap64 ((wrap64 (x6 + (rd x0 x7))) + (rd x1 x7))) 256)) (wrap64 (Int.tdiv (wrap64 ((wrap64 (x6 + (rd x0 x7))) + (rd x1 x7))) 256)) (wrap64 (x7 + 1))) else (none)) else (none)) else (none)) else (some x5)
def zelligeref01_Add.f (k : Nat) (l0 : List Int) (l1 : List Int) : Option (List Int) := if 0 ≤ (l0.length : Int) then (if ((l0.length : Int) : Int).toNat ≤ 35184372088832 then (zelligeref01_Add.l0 k l0 l1 (List.replicate ((l0.length : Int) : Int).toNat 0) 0 0) else (none)) else (none)
theorem zelligeref01_Add.mono_l : ∀ k, (∀ y0 y1 y2 y3 y4, LeO (zelligeref01_Add.l0 k y0 y1 y2 y3 y4) (zelligeref01_Add.l0 (k + 1) y0 y1 y2 y3 y4))
 | 0 => fun _ _ _ _ _ r h => by simp [zelligeref01_Add.l0] at h
 | k + 1 => by
  have ih0 := zelligeref01_Add.mono_l k
  ·intro y0 y1 y2 y3 y4
   unfold zelligeref01_Add.l0
   repeat' first
   | (with_reducible exact ih0 _ _ _ _ _)
   | (with_reducible exact LeO.refl _)
   | (with_reducible exact LeO.none _)
   | (with_reducible refine LeO.ite ?_ ?_)
   | (with_reducible refine LeO.bind ?_ (fun _ => ?_))
   | exact ih0 _ _ _ _ _
   | exact LeO.none _
   | refine LeO.ite ?_ ?_
   | refine LeO.bind ?_ (fun _ => ?_)
theorem zelligeref01_Add.mono : ∀ a0 a1 k, LeO (zelligeref01_Add.f k a0 a1) (zelligeref01_Add.f (k + 1) a0 a1) := by
 intro a0 a1 k
 have ih0 := zelligeref01_Add.mono_l k
 unfold zelligeref01_Add.f
 repeat' first
   | (with_reducible exact ih0 _ _ _ _ _)
   | (with_reducible exact LeO.refl _)
   | (with_reducible exact LeO.none _)
   | (with_reducible refine LeO.ite ?_ ?_)
   | (with_reducible refine LeO.bind ?_ (fun _ => ?_))
   | exact ih0 _ _ _ _ _
   | exact LeO.none _
   | refine LeO.ite ?_ ?_
   | refine LeO.bind ?_ (fun _ => ?_)
set_option maxHeartbeats 8000000 in
set_option maxRecDepth 100000 in
theorem zelligeref01_Add.calls (k : Nat) (A0 : Option Addr) (c0 : Nat) (l0 : List Int) (A1 : Option Addr) (c1 : Nat) (l1 : List Int) (r : List Int) (w : World) (hr0 : Kd.C (Kd.int .i64) w A0 l0.length l0) (hc0 : l0.length ≤ c0) (hr1 : Kd.C (Kd.int .i64) w A1 l1.length l1) (hc1 : l1.length ≤ c1) (h : zelligeref01_Add.f k l0 l1 = some r) :
  Calls Try.prog 72 #[.slice A0 l0.length c0, .slice A1 l1.length c1] w fun e w' => ∃ v0_ : Value, e = .returned (v0_) ∧ Kd.R (Kd.int .i64) 3 w' w.heap.size (fun _ => True) v0_ r ∧ Below w.heap.size w w' := by
 have HR0 := Aside0.mk hr0
 have HC0 := Aside0.mk hc0
 clear hr0 hc0
 have HR1 := Aside0.mk hr1
 have HC1 := Aside0.mk hc1
 clear hr1 hc1
 have HB := Aside0.mk (Below.refl w.heap.size w)
 have H : (if 0 ≤ (l0.length : Int) then (if ((l0.length : Int) : Int).toNat ≤ 35184372088832 then (zelligeref01_Add.l0 k l0 l1 (List.replicate ((l0.length : Int) : Int).toNat 0) 0 0) else (none)) else (none)) = some r := h
 clear h
 by_cases c3 : 0 ≤ (l0.length : Int)
 ·rw [if_pos c3] at H
  have c3b0 := eq_true c3
  have c3b1 : decide (0 ≤ (l0.length : Int)) = true := decide_eq_true c3
  clear c3
  by_cases c4 : ((l0.length : Int) : Int).toNat ≤ 35184372088832
  ·rw [if_pos c4] at H
   have c4b0 := eq_true c4
   have c4b1 : decide (((l0.length : Int) : Int).toNat ≤ 35184372088832) = true := decide_eq_true c4
   clear c4
   obtain ⟨y524, hy524⟩ : ∃ y_ : List Int, y_ = (List.replicate ((l0.length : Int) : Int).toNat 0) := ⟨_, rfl⟩
   replace H : (zelligeref01_Add.l0 k l0 l1 y524 0 0) = some r := by first | (rw [hy524]; with_reducible exact H) | (have H2_ := (Option.bind_some _ _).symm.trans H; rw [hy524]; with_reducible exact H2_) | (have H2_ := (Option.bind_some _ _).symm.trans H; with_reducible exact H2_) | with_reducible exact H | (rw [hy524]; exact H) | exact H
   have Ny524 := Aside0.mk hy524
   clear hy524
   have H' := Aside0.mk H
   clear H
   go_enter Try.func72, Try.ntmps72
   go_wp2_with (first | ((with_reducible refine gate_dst (N := 10) rfl ?_); refine Kd.R_make (Kd.int .i64) _ 3 rfl (N := 10) rfl 30 _ _ rfl (l0.length : Int) rfl rfl Try.underlying30 (.int .i64 0) 8 info3 rfl (by decide) (by omega) 0 (ok := fun _ => True) (okp := fun _ => True) rfl (fun _ hk => hk) trivial (of_decide_eq_true (by first | (with_reducible assumption) | assumption)) (Nat.le_trans (Nat.mul_le_mul_right _ (of_decide_eq_true (by first | (with_reducible assumption) | assumption) : (l0.length : Int).toNat ≤ 35184372088832)) (by omega)) (Below.refl _ _) (Nat.le_refl _) ?_; intro v525 w5 ho6 hb hg_ hnew_; clear hg_ hnew_; (first | rw [← Ny524.out] at ho6 | (simp only [Int.reduceToNat] at ho6; rw [← Ny524.out] at ho6)); have n0_ := Aside0.mk (Kd.R_lower ho6 (below_size (bw HB.out))); have n1_ := u2 HB hb; clear HB; have HO526 := n0_; have HB := n1_; clear n0_ n1_; clear hb ho6))
   repeat (go_quiet (first | ((with_reducible refine gate_dst (N := 10) rfl ?_); refine Kd.R_make (Kd.int .i64) _ 3 rfl (N := 10) rfl 30 _ _ rfl (l0.length : Int) rfl rfl Try.underlying30 (.int .i64 0) 8 info3 rfl (by decide) (by omega) 0 (ok := fun _ => True) (okp := fun _ => True) rfl (fun _ hk => hk) trivial (of_decide_eq_true (by first | (with_reducible assumption) | assumption)) (Nat.le_trans (Nat.mul_le_mul_right _ (of_decide_eq_true (by first | (with_reducible assumption) | assumption) : (l0.length : Int).toNat ≤ 35184372088832)) (by omega)) (Below.refl _ _) (Nat.le_refl _) ?_; intro v525 w5 ho6 hb hg_ hnew_; clear hg_ hnew_; (first | rw [← Ny524.out] at ho6 | (simp only [Int.reduceToNat] at ho6; rw [← Ny524.out] at ho6)); have n0_ := Aside0.mk (Kd.R_lower ho6 (below_size (bw HB.out))); have n1_ := u2 HB hb; clear HB; have HO526 := n0_; have HB := n1_; clear n0_ n1_; clear hb ho6)); try go_wp2_with (first | ((with_reducible refine gate_dst (N := 10) rfl ?_); refine Kd.R_make (Kd.int .i64) _ 3 rfl (N := 10) rfl 30 _ _ rfl (l0.length : Int) rfl rfl Try.underlying30 (.int .i64 0) 8 info3 rfl (by decide) (by omega) 0 (ok := fun _ => True) (okp := fun _ => True) rfl (fun _ hk => hk) trivial (of_decide_eq_true (by first | (with_reducible assumption) | assumption)) (Nat.le_trans (Nat.mul_le_mul_right _ (of_decide_eq_true (by first | (with_reducible assumption) | assumption) : (l0.length : Int).toNat ≤ 35184372088832)) (by omega)) (Below.refl _ _) (Nat.le_refl _) ?_; intro v525 w5 ho6 hb hg_ hnew_; clear hg_ hnew_; (first | rw [← Ny524.out] at ho6 | (simp only [Int.reduceToNat] at ho6; rw [← Ny524.out] at ho6)); have n0_ := Aside0.mk (Kd.R_lower ho6 (below_size (bw HB.out))); have n1_ := u2 HB hb; clear HB; have HO526 := n0_; have HB := n1_; clear n0_ n1_; clear hb ho6)))
   go_loopg [6, 7] k (fun kq v6 v7 w' => ∃ (x5_1 : List Int) (x6_1 : Int) (x7_1 : Int), v6 = .int .i64 x6_1 ∧ v7 = .int .i64 x7_1 ∧ Aside0 (zelligeref01_Add.l0 kq l0 l1 x5_1 x6_1 x7_1 = some r) ∧ Aside0 (kq ≤ k) ∧ Aside0 (Kd.R (Kd.int .i64) 3 w' w.heap.size (fun _ => True) v525 x5_1) ∧ Aside0 (Below w.heap.size w w'))
   case atStart => exact ⟨(y524), (0), (0), (by first | rfl | (simp; done) | (simp [*]; done)), (by first | rfl | (simp; done) | (simp [*]; done)), H', ⟨Nat.le_refl _⟩, ⟨by (with_reducible repeat (first | apply Kd.R_alloc | apply Kd.R_drewN | apply Kd.R_drew)); exact HO526.out⟩, ⟨bw HB.out⟩⟩
   case round =>
    clear H'
    try clear c1
    try clear p2
    try clear c3
    try clear c3b0
    try clear c3b1
    try clear c4
    try clear c4b0
    try clear c4b1
    obtain ⟨x5_1, x6_1, x7_1, rfl, rfl, HA, HK1, HO_5, HB⟩ := hrel
    cases gk with
    | zero => exact absurd HA.out (by simp [zelligeref01_Add.l0])
    | succ k1 =>
     have H := HA.out
     clear HA
     simp only [zelligeref01_Add.l0] at H
     by_cases c7 : x7_1 < (l0.length : Int)
     ·rw [if_pos c7] at H
      have c7b0 : decide (x7_1 < (l0.length : Int)) = true := decide_eq_true c7
      clear c7
      by_cases c8 : 0 ≤ x7_1
      ·rw [if_pos c8] at H
       have c8b0 : decide (0 ≤ x7_1) = true := decide_eq_true c8
       clear c8
       by_cases c9 : x7_1 < (l1.length : Int)
       ·rw [if_pos c9] at H
        have c9b0 : decide (x7_1 < (l1.length : Int)) = true := decide_eq_true c9
        clear c9
        by_cases c10 : x7_1 < (x5_1.length : Int)
        ·rw [if_pos c10] at H
         have c10b0 : decide (x7_1 < (x5_1.length : Int)) = true := decide_eq_true c10
         clear c10
         obtain ⟨y529, hy529⟩ : ∃ y_ : List Int, y_ = (x5_1.set (x7_1 : Int).toNat (Int.tmod (wrap64 ((wrap64 (x6_1 + (rd l0 x7_1))) + (rd l1 x7_1))) 256)) := ⟨_, rfl⟩
         replace H : (zelligeref01_Add.l0 k1 l0 l1 y529 (wrap64 (Int.tdiv (wrap64 ((wrap64 (x6_1 + (rd l0 x7_1))) + (rd l1 x7_1))) 256)) (wrap64 (x7_1 + 1))) = some r := by first | (rw [hy529]; with_reducible exact H) | (have H2_ := (Option.bind_some _ _).symm.trans H; rw [hy529]; with_reducible exact H2_) | (have H2_ := (Option.bind_some _ _).symm.trans H; with_reducible exact H2_) | with_reducible exact H | (rw [hy529]; exact H) | exact H
         have Ny529 := Aside0.mk hy529
         clear hy529
         have H' := Aside0.mk H
         clear H
         have p527 : 0 ≤ (x7_1 : Int) := dt_
         have q527 : x7_1 < (l0.length : Int) := dt_
         obtain ⟨ad527, e527, hx527_0⟩ := Kd.at_int HR0.out x7_1 p527 q527
         cases e527
         replace hx527_0 := (HB.out.cell (World.block_lt_of_cell? w _ hx527_0)).trans hx527_0
         replace p527 := eq_true p527
         replace q527 := eq_true q527
         have p528 : 0 ≤ (x7_1 : Int) := dt_
         have q528 : x7_1 < (l1.length : Int) := dt_
         obtain ⟨ad528, e528, hx528_0⟩ := Kd.at_int HR1.out x7_1 p528 q528
         cases e528
         replace hx528_0 := (HB.out.cell (World.block_lt_of_cell? w _ hx528_0)).trans hx528_0
         replace p528 := eq_true p528
         replace q528 := eq_true q528
         have p11 : 0 ≤ (x7_1 : Int) := dt_
         have q11 : (x7_1 : Int) < ((x5_1.length : Int) : Int) := dt_
         obtain ⟨go11, co11, eo11, gb11, gl11, cl11, HG11⟩ := Kd.R_form HO_5.out (by omega)
         (first | cases eo11 | (injection eo11 with ea_ en_ ec_; (first | subst ea_ | (injection ea_ with ea_; subst ea_)); subst ec_; clear en_))
         have GB11 := Aside0.mk gb11
         have GG11 := Aside0.mk HG11
         clear gb11 gl11 HG11
         obtain ⟨hx11_0, hf11_0⟩ := Kd.R_celln 0 HO_5.out (x7_1 : Int) p11 q11
         replace p11 := eq_true p11
         replace q11 := eq_true q11
         have HP12 := Kd.R_putg HO_5.out (x7_1 : Int) (Int.tmod (wrap64 ((wrap64 (x6_1 + (rd l0 x7_1))) + (rd l1 x7_1))) 256)
         go_wp2_with (first | ((with_reducible refine gate_store (t := 3) (p := 32) rfl ?_); (try (rw [drewN_self wr]; generalize hq_ : World.drewN wr _ = wr; have n0_ := Aside0.mk (Kd.R_at hq_ HO_5.out); have n1_ := Aside0.mk (below_at hq_ HB.out); clear hq_ HO_5 HB; have HO_5 := n0_; have HB := n1_; clear n0_ n1_; (try (obtain ⟨hxHP12_, hfHP12_⟩ := Kd.R_celln 0 HO_5.out (x7_1 : Int) (of_eq_true (by assumption)) (of_eq_true (by assumption)))); (try (have HP12 := Kd.R_putg HO_5.out (x7_1 : Int) (Int.tmod (wrap64 ((wrap64 (x6_1 + (rd l0 x7_1))) + (rd l1 x7_1))) 256))))); refine store_event (t := 3) (p := 32) (v := ?vo_w13) (w1 := (wr.setCell ⟨go11, (x7_1 : Int).toNat, none⟩ (.int .i64 (Int.tmod (wrap64 ((wrap64 (x6_1 + (rd l0 x7_1))) + (rd l1 x7_1))) 256)))) ?hg ?ho ?hn ?hr ?_; (case ho => rfl); (case hg => rfl); (case hn => rfl); (case hr => first | (go_simp; done) | (go_simp; rfl)); intro w13 hw; have hg : wr.grownBy w13 (some go11) := (by rw [hw]; exact HP12.2); have hp_ : Kd.R (Kd.int .i64) 3 w13 w.heap.size (fun _ => True) (.slice (some ⟨go11, 0, none⟩) x5_1.length co11) y529 := (by rw [hw, Ny529.out]; exact HP12.1); clear HP12; have n0_ := Aside0.mk (hp_); have n1_ := Aside0.mk ((by rw [hw]; exact below_set (HB.out) GB11.out : Below w.heap.size w w13)); clear HO_5; clear HB; have HO_5 := n0_; have HB := n1_; clear n0_ n1_; clear hg hw hp_))
         repeat (go_quiet (first | ((with_reducible refine gate_store (t := 3) (p := 32) rfl ?_); (try (rw [drewN_self wr]; generalize hq_ : World.drewN wr _ = wr; have n0_ := Aside0.mk (Kd.R_at hq_ HO_5.out); have n1_ := Aside0.mk (below_at hq_ HB.out); clear hq_ HO_5 HB; have HO_5 := n0_; have HB := n1_; clear n0_ n1_; (try (obtain ⟨hxHP12_, hfHP12_⟩ := Kd.R_celln 0 HO_5.out (x7_1 : Int) (of_eq_true (by assumption)) (of_eq_true (by assumption)))); (try (have HP12 := Kd.R_putg HO_5.out (x7_1 : Int) (Int.tmod (wrap64 ((wrap64 (x6_1 + (rd l0 x7_1))) + (rd l1 x7_1))) 256))))); refine store_event (t := 3) (p := 32) (v := ?vo_w13) (w1 := (wr.setCell ⟨go11, (x7_1 : Int).toNat, none⟩ (.int .i64 (Int.tmod (wrap64 ((wrap64 (x6_1 + (rd l0 x7_1))) + (rd l1 x7_1))) 256)))) ?hg ?ho ?hn ?hr ?_; (case ho => rfl); (case hg => rfl); (case hn => rfl); (case hr => first | (go_simp; done) | (go_simp; rfl)); intro w13 hw; have hg : wr.grownBy w13 (some go11) := (by rw [hw]; exact HP12.2); have hp_ : Kd.R (Kd.int .i64) 3 w13 w.heap.size (fun _ => True) (.slice (some ⟨go11, 0, none⟩) x5_1.length co11) y529 := (by rw [hw, Ny529.out]; exact HP12.1); clear HP12; have n0_ := Aside0.mk (hp_); have n1_ := Aside0.mk ((by rw [hw]; exact below_set (HB.out) GB11.out : Below w.heap.size w w13)); clear HO_5; clear HB; have HO_5 := n0_; have HB := n1_; clear n0_ n1_; clear hg hw hp_)); try go_wp2_with (first | ((with_reducible refine gate_store (t := 3) (p := 32) rfl ?_); (try (rw [drewN_self wr]; generalize hq_ : World.drewN wr _ = wr; have n0_ := Aside0.mk (Kd.R_at hq_ HO_5.out); have n1_ := Aside0.mk (below_at hq_ HB.out); clear hq_ HO_5 HB; have HO_5 := n0_; have HB := n1_; clear n0_ n1_; (try (obtain ⟨hxHP12_, hfHP12_⟩ := Kd.R_celln 0 HO_5.out (x7_1 : Int) (of_eq_true (by assumption)) (of_eq_true (by assumption)))); (try (have HP12 := Kd.R_putg HO_5.out (x7_1 : Int) (Int.tmod (wrap64 ((wrap64 (x6_1 + (rd l0 x7_1))) + (rd l1 x7_1))) 256))))); refine store_event (t := 3) (p := 32) (v := ?vo_w13) (w1 := (wr.setCell ⟨go11, (x7_1 : Int).toNat, none⟩ (.int .i64 (Int.tmod (wrap64 ((wrap64 (x6_1 + (rd l0 x7_1))) + (rd l1 x7_1))) 256)))) ?hg ?ho ?hn ?hr ?_; (case ho => rfl); (case hg => rfl); (case hn => rfl); (case hr => first | (go_simp; done) | (go_simp; rfl)); intro w13 hw; have hg : wr.grownBy w13 (some go11) := (by rw [hw]; exact HP12.2); have hp_ : Kd.R (Kd.int .i64) 3 w13 w.heap.size (fun _ => True) (.slice (some ⟨go11, 0, none⟩) x5_1.length co11) y529 := (by rw [hw, Ny529.out]; exact HP12.1); clear HP12; have n0_ := Aside0.mk (hp_); have n1_ := Aside0.mk ((by rw [hw]; exact below_set (HB.out) GB11.out : Below w.heap.size w w13)); clear HO_5; clear HB; have HO_5 := n0_; have HB := n1_; clear n0_ n1_; clear hg hw hp_)))
         go_roundg k1
         case measure => have := HK1.out; omega
         case rel => exact ⟨(y529), (wrap64 (Int.tdiv (wrap64 ((wrap64 (x6_1 + (rd l0 x7_1))) + (rd l1 x7_1))) 256)), (wrap64 (x7_1 + 1)), (by first | rfl | (simp; done) | (simp [*]; done)), (by first | rfl | (simp; done) | (simp [*]; done)), H', ⟨by have := HK1.out; omega⟩, ⟨by (with_reducible repeat (first | apply Kd.R_alloc | apply Kd.R_drewN | apply Kd.R_drew)); exact HO_5.out⟩, ⟨bw HB.out⟩⟩
        ·rw [if_neg c10] at H
         exact absurd H (by simp)
       ·rw [if_neg c9] at H
        exact absurd H (by simp)
      ·rw [if_neg c8] at H
       exact absurd H (by simp)
     ·rw [if_neg c7] at H
      have c7b0 : decide (x7_1 < (l0.length : Int)) = false := decide_eq_false c7
      clear c7
      obtain rfl := Option.some.inj H
      go_wp2
      repeat (go_quiet (fail); try go_wp2)
      go_ret
      exact ⟨_, by first | rfl | (simp [*, errW_none, errW_some] <;> rfl), by (with_reducible repeat (first | apply Kd.R_alloc | apply Kd.R_drewN | apply Kd.R_drew)); exact HO_5.out, bw HB.out⟩
  ·rw [if_neg c4] at H
   exact absurd H (by simp)
 ·rw [if_neg c3] at H
  exact absurd H (by simp)
end Go.Proofs.Ytmeckkckjikjiaa.F
end
section
namespace Go.Proofs.Ytmeckkckjikjiaa.F
open RowKit YtmeckkckjikjiaaW.PrintWords YtmeckkckjikjiaaW.PrintLast YtmeckkckjikjiaaW.PrintMore
set_option linter.unusedVariables false
set_option linter.unusedSimpArgs false
def zelligeref01_Neg.l0 : Nat → List Int → List Int → List Int → Int → Option (List Int)
 | 0, _, _, _, _ => none
 | k + 1, x0, x3, x4, x5 => if x5 < (x0.length : Int) then (if 0 ≤ x5 then (if x5 < (x3.length : Int) then (zelligeref01_Neg.l0 k x0 (x3.set (x5 : Int).toNat (wrap64 (255 - (rd x0 x5)))) x4 (wrap64 (x5 + 1))) else (none)) else (none)) else (if 0 < (x4.length : Int) then ((zelligeref01_Add.f k x3 (x4.set (0 : Int).toNat 1)).bind fun t539 => (some t539)) else (none))
def zelligeref01_Neg.f (k : Nat) (l0 : List Int) : Option (List Int) := if 0 ≤ (l0.length : Int) then (if ((l0.length : Int) : Int).toNat ≤ 35184372088832 then (zelligeref01_Neg.l0 k l0 (List.replicate ((l0.length : Int) : Int).toNat 0) (List.replicate ((l0.length : Int) : Int).toNat 0) 0) else (none)) else (none)
theorem zelligeref01_Neg.mono_l : ∀ k, (∀ y0 y1 y2 y3, LeO (zelligeref01_Neg.l0 k y0 y1 y2 y3) (zelligeref01_Neg.l0 (k + 1) y0 y1 y2 y3))
 | 0 => fun _ _ _ _ r h => by simp [zelligeref01_Neg.l0] at h
 | k + 1 => by
  have ih0 := zelligeref01_Neg.mono_l k
  ·intro y0 y1 y2 y3
   unfold zelligeref01_Neg.l0
   repeat' first
   | (with_reducible exact ih0 _ _ _ _)
   | (with_reducible exact zelligeref01_Add.mono _ _ _)
   | (with_reducible exact LeO.refl _)
   | (with_reducible exact LeO.none _)
   | (with_reducible refine LeO.ite ?_ ?_)
   | (with_reducible refine LeO.bind ?_ (fun _ => ?_))
   | exact ih0 _ _ _ _
   | exact zelligeref01_Add.mono _ _ _
   | exact LeO.none _
   | refine LeO.ite ?_ ?_
   | refine LeO.bind ?_ (fun _ => ?_)
theorem zelligeref01_Neg.mono : ∀ a0 k, LeO (zelligeref01_Neg.f k a0) (zelligeref01_Neg.f (k + 1) a0) := by
 intro a0 k
 have ih0 := zelligeref01_Neg.mono_l k
 unfold zelligeref01_Neg.f
 repeat' first
   | (with_reducible exact ih0 _ _ _ _)
   | (with_reducible exact zelligeref01_Add.mono _ _ _)
   | (with_reducible exact LeO.refl _)
   | (with_reducible exact LeO.none _)
   | (with_reducible refine LeO.ite ?_ ?_)
   | (with_reducible refine LeO.bind ?_ (fun _ => ?_))
   | exact ih0 _ _ _ _
   | exact zelligeref01_Add.mono _ _ _
   | exact LeO.none _
   | refine LeO.ite ?_ ?_
   | refine LeO.bind ?_ (fun _ => ?_)
def zelligeref01_Neg.T1 : Bool × List (List Nat × List Nat) := (true, [([], []), ([0], [0]), ([1, 1], [1]), ([], []), ([3], [3]), ([4, 4], [4]), ([2, 0, 1, 2], [2]), ([5, 6, 0, 1, 2, 3, 4, 5, 6], [5])])
def zelligeref01_Neg.B1 : List Nat := [0, 1, 3, 0, 8, 24, 7, 127]
theorem zelligeref01_Neg.tab1 : rtab .any (opsOf Try.f63 1) = zelligeref01_Neg.T1 := by kernel_rfl
theorem zelligeref01_Neg.bits1 : waitsOk zelligeref01_Neg.T1.2 zelligeref01_Neg.B1 = true := by kernel_rfl
set_option maxHeartbeats 8000000 in
set_option maxRecDepth 100000 in
theorem zelligeref01_Neg.calls (k : Nat) (A0 : Option Addr) (c0 : Nat) (l0 : List Int) (r : List Int) (w : World) (hr0 : Kd.C (Kd.int .i64) w A0 l0.length l0) (hc0 : l0.length ≤ c0) (h : zelligeref01_Neg.f k l0 = some r) :
  Calls Try.prog 63 #[.slice A0 l0.length c0] w fun e w' => ∃ v0_ : Value, e = .returned (v0_) ∧ Kd.R (Kd.int .i64) 3 w' w.heap.size (fun _ => True) v0_ r ∧ Below w.heap.size w w' := by
 have HR0 := Aside0.mk hr0
 have HC0 := Aside0.mk hc0
 clear hr0 hc0
 have HB := Aside0.mk (Below.refl w.heap.size w)
 have H : (if 0 ≤ (l0.length : Int) then (if ((l0.length : Int) : Int).toNat ≤ 35184372088832 then (zelligeref01_Neg.l0 k l0 (List.replicate ((l0.length : Int) : Int).toNat 0) (List.replicate ((l0.length : Int) : Int).toNat 0) 0) else (none)) else (none)) = some r := h
 clear h
 by_cases c2 : 0 ≤ (l0.length : Int)
 ·rw [if_pos c2] at H
  have c2b0 := eq_true c2
  have c2b1 : decide (0 ≤ (l0.length : Int)) = true := decide_eq_true c2
  clear c2
  by_cases c3 : ((l0.length : Int) : Int).toNat ≤ 35184372088832
  ·rw [if_pos c3] at H
   have c3b0 := eq_true c3
   have c3b1 : decide (((l0.length : Int) : Int).toNat ≤ 35184372088832) = true := decide_eq_true c3
   clear c3
   obtain ⟨y530, hy530⟩ : ∃ y_ : List Int, y_ = (List.replicate ((l0.length : Int) : Int).toNat 0) := ⟨_, rfl⟩
   replace H : (zelligeref01_Neg.l0 k l0 y530 (List.replicate ((l0.length : Int) : Int).toNat 0) 0) = some r := by first | (rw [hy530]; with_reducible exact H) | (have H2_ := (Option.bind_some _ _).symm.trans H; rw [hy530]; with_reducible exact H2_) | (have H2_ := (Option.bind_some _ _).symm.trans H; with_reducible exact H2_) | with_reducible exact H | (rw [hy530]; exact H) | exact H
   have Ny530 := Aside0.mk hy530
   clear hy530
   obtain ⟨y533, hy533⟩ : ∃ y_ : List Int, y_ = (List.replicate ((l0.length : Int) : Int).toNat 0) := ⟨_, rfl⟩
   replace H : (zelligeref01_Neg.l0 k l0 y530 y533 0) = some r := by first | (rw [hy533]; with_reducible exact H) | (have H2_ := (Option.bind_some _ _).symm.trans H; rw [hy533]; with_reducible exact H2_) | (have H2_ := (Option.bind_some _ _).symm.trans H; with_reducible exact H2_) | with_reducible exact H | (rw [hy533]; exact H) | exact H
   have Ny533 := Aside0.mk hy533
   clear hy533
   have H' := Aside0.mk H
   clear H
   go_enter Try.func63, Try.ntmps63
   try go_wp2
   have n0_ := Aside0.mk (below_drew1 HB.out)
   clear HB
   have HB := n0_
   clear n0_
   refine start_ (n := 8) (S := fun w' => True) (ds := []) #[F_,F_,F_,F_,F_,F_,F_,F_] (by kernel_rfl) rfl rfl trivial (fun hHeld => ?_); refine with_tabW zelligeref01_Neg.tab1 zelligeref01_Neg.bits1 (fun HT_ HW_ => ?_)
   generalize w.drew = w4 at HB hHeld ⊢
   refine pA (i := 0) (N := some 6) (v := ?_) (a' := ?_) #[T_,F_,F_,F_,F_,F_,F_,F_] rfl rfl HT_ (Or.inl ⟨by rfl, ?_⟩) ?_ ?_
   rotate_left
   ·intro w'
    go_simp
    with_reducible rfl
   rotate_left
   ·simp only [Act.put, s1, s2, s3, i64_w, i32_w]
    rfl
   refine pA (i := 1) (N := some 7) (v := ?_) (a' := ?_) #[T_,T_,F_,F_,F_,F_,F_,F_] rfl rfl HT_ (Or.inl ⟨by rfl, ?_⟩) ?_ ?_
   rotate_left
   ·intro w'
    go_simp
    with_reducible rfl
   rotate_left
   ·simp only [Act.put, s1, s2, s3, i64_w, i32_w]
    rfl
   refine pA (i := 3) (N := some 9) (v := ?_) (a' := ?_) #[T_,T_,F_,T_,F_,F_,F_,F_] rfl rfl HT_ (Or.inl ⟨by rfl, ?_⟩) ?_ ?_
   rotate_left
   ·intro w'
    go_simp
    with_reducible rfl
   rotate_left
   ·simp only [Act.put, s1, s2, s3, i64_w, i32_w]
    rfl
   refine pA (i := 4) (N := some 10) (v := ?_) (a' := ?_) #[T_,T_,F_,T_,T_,F_,F_,F_] rfl rfl HT_ (Or.inl ⟨by rfl, ?_⟩) ?_ ?_
   rotate_left
   ·intro w'
    go_simp
    with_reducible rfl
   rotate_left
   ·simp only [Act.put, s1, s2, s3, i64_w, i32_w]
    rfl
   refine join_ (σ := Value × Value) 1 #[T_,T_,T_,T_,T_,T_,T_,F_] (fun s_ => [(8, s_.1), (11, s_.2), (3, s_.1)]) (fun s_ w' => (Kd.R (Kd.int .i64) 3 w' w.heap.size (fun k_ => some k_ ≠ (s_.2 : Value).ownBlock) s_.1 y530) ∧ (Kd.R (Kd.int .i64) 3 w' w.heap.size (fun k_ => some k_ ≠ (s_.1 : Value).ownBlock) s_.2 y533) ∧ (Below w.heap.size w w')) ?_ ?_
   rotate_left
   ·intro hCont
    refine two_ (i := 2) (j := 5) (Ni := some 8) (Nj := some 11) #[T_,T_,T_,T_,T_,F_,F_,F_] #[T_,T_,F_,T_,T_,T_,F_,F_] rfl rfl rfl rfl (two_of HT_.out (by kernel_rfl)) (by decide) (by decide) (fun K hK => ?_) (fun K hK => ?_)
    ·skip
     refine Kd.R_make_step (Kd.int .i64) _ 3 (by rfl) (N := 8) rfl 30 _ _ rfl (l0.length : Int) rfl rfl Try.underlying30 (.int .i64 0) 8 info3 rfl (by decide) (by omega) 0 (ok := fun _ => True) (okp := fun _ => True) rfl (fun _ hk => hk) trivial (of_decide_eq_true (by first | (with_reducible assumption) | assumption)) (Nat.le_trans (Nat.mul_le_mul_right _ (of_decide_eq_true (by first | (with_reducible assumption) | assumption) : (l0.length : Int).toNat ≤ 35184372088832)) (by omega)) (Below.refl _ _) (Nat.le_refl _) ?_
     intro v531 w5 ho6 hb hg_ hnew_
     clear hg_ hnew_
     (first | rw [← Ny530.out] at ho6 | (simp only [Int.reduceToNat] at ho6; rw [← Ny530.out] at ho6))
     have n0_ := Aside0.mk (Kd.R_lower ho6 (below_size (bw HB.out)))
     have n1_ := Aside0.mk (below_step (bw HB.out) hb)
     clear HB
     have HO532 := n0_
     have HB := n1_
     clear n0_ n1_
     clear hb ho6
     refine hK.out _ _ trivial (fun hHeld => ?_)
     clear hK K
     refine norm_ (a' := ?_) ?_ ?_
     rotate_left
     ·show Act.put _ (some 8) _ = _
      simp only [Act.put, s1, s2, s3, i64_w, i32_w]
      rfl
     refine pA (i := 6) (N := some 3) (v := ?_) (a' := ?_) #[T_,T_,T_,T_,T_,F_,T_,F_] rfl rfl HT_ (Or.inl ⟨by rfl, ?_⟩) ?_ ?_
     rotate_left
     ·intro w'
      go_simp
      with_reducible rfl
     rotate_left
     ·simp only [Act.put, s1, s2, s3, i64_w, i32_w]
      rfl
     refine one_ (i := 5) (N := some 11) #[T_,T_,T_,T_,T_,T_,T_,F_] rfl rfl (one_of HT_.out (by kernel_rfl)) (by decide) (fun K hK => ?_)
     refine Kd.R_make_step (Kd.int .i64) _ 3 (by rfl) (N := 11) rfl 30 _ _ rfl (l0.length : Int) rfl rfl Try.underlying30 (.int .i64 0) 8 info3 rfl (by decide) (by omega) 0 (ok := fun _ => True) (okp := fun _ => True) rfl (fun _ hk => hk) trivial (of_decide_eq_true (by first | (with_reducible assumption) | assumption)) (Nat.le_trans (Nat.mul_le_mul_right _ (of_decide_eq_true (by first | (with_reducible assumption) | assumption) : (l0.length : Int).toNat ≤ 35184372088832)) (by omega)) (Below.refl _ _) (Nat.le_refl _) ?_
     intro v534 w7 ho8 hb hg_ hnew_
     clear hg_ hnew_
     (first | rw [← Ny533.out] at ho8 | (simp only [Int.reduceToNat] at ho8; rw [← Ny533.out] at ho8))
     have n0_ := Aside0.mk (Kd.R_elder' (by (with_reducible repeat (first | apply Kd.R_alloc | apply Kd.R_drewN | apply Kd.R_drew)); exact HO532.out) (Kd.R_base ho8) hb)
     have n1_ := Aside0.mk (Kd.R_lower (Kd.R_new' ho8 (Kd.R_lt (by (with_reducible repeat (first | apply Kd.R_alloc | apply Kd.R_drewN | apply Kd.R_drew)); exact HO532.out))) (below_size (bw HB.out)))
     have n2_ := Aside0.mk (below_step (bw HB.out) hb)
     clear HO532
     clear HB
     have HO532 := n0_
     have HO535 := n1_
     have HB := n2_
     clear n0_ n1_ n2_
     clear hb ho8
     refine hK.out _ _ trivial (fun hHeld => ?_)
     clear hK K
     refine norm_ (a' := ?_) ?_ ?_
     rotate_left
     ·show Act.put _ (some 11) _ = _
      simp only [Act.put, s1, s2, s3, i64_w, i32_w]
      rfl
     exact norm_ (by simp only [putAll, Act.put, s1, s2, s3]) (hCont (v531, v534) _ ⟨(by (with_reducible repeat (first | apply Kd.R_alloc | apply Kd.R_drewN | apply Kd.R_drew)); exact Kd.R_mono HO532.out (fun _ hk => hk.2)), (by (with_reducible repeat (first | apply Kd.R_alloc | apply Kd.R_drewN | apply Kd.R_drew)); exact Kd.R_mono HO535.out (fun _ hk => hk.2)), (bw HB.out)⟩)
    ·skip
     refine Kd.R_make_step (Kd.int .i64) _ 3 (by rfl) (N := 11) rfl 30 _ _ rfl (l0.length : Int) rfl rfl Try.underlying30 (.int .i64 0) 8 info3 rfl (by decide) (by omega) 0 (ok := fun _ => True) (okp := fun _ => True) rfl (fun _ hk => hk) trivial (of_decide_eq_true (by first | (with_reducible assumption) | assumption)) (Nat.le_trans (Nat.mul_le_mul_right _ (of_decide_eq_true (by first | (with_reducible assumption) | assumption) : (l0.length : Int).toNat ≤ 35184372088832)) (by omega)) (Below.refl _ _) (Nat.le_refl _) ?_
     intro v534 w5 ho6 hb hg_ hnew_
     clear hg_ hnew_
     (first | rw [← Ny533.out] at ho6 | (simp only [Int.reduceToNat] at ho6; rw [← Ny533.out] at ho6))
     have n0_ := Aside0.mk (Kd.R_lower ho6 (below_size (bw HB.out)))
     have n1_ := Aside0.mk (below_step (bw HB.out) hb)
     clear HB
     have HO535 := n0_
     have HB := n1_
     clear n0_ n1_
     clear hb ho6
     refine hK.out _ _ trivial (fun hHeld => ?_)
     clear hK K
     refine norm_ (a' := ?_) ?_ ?_
     rotate_left
     ·show Act.put _ (some 11) _ = _
      simp only [Act.put, s1, s2, s3, i64_w, i32_w]
      rfl
     refine one_ (i := 2) (N := some 8) #[T_,T_,T_,T_,T_,T_,F_,F_] rfl rfl (one_of HT_.out (by kernel_rfl)) (by decide) (fun K hK => ?_)
     refine Kd.R_make_step (Kd.int .i64) _ 3 (by rfl) (N := 8) rfl 30 _ _ rfl (l0.length : Int) rfl rfl Try.underlying30 (.int .i64 0) 8 info3 rfl (by decide) (by omega) 0 (ok := fun _ => True) (okp := fun _ => True) rfl (fun _ hk => hk) trivial (of_decide_eq_true (by first | (with_reducible assumption) | assumption)) (Nat.le_trans (Nat.mul_le_mul_right _ (of_decide_eq_true (by first | (with_reducible assumption) | assumption) : (l0.length : Int).toNat ≤ 35184372088832)) (by omega)) (Below.refl _ _) (Nat.le_refl _) ?_
     intro v531 w7 ho8 hb hg_ hnew_
     clear hg_ hnew_
     (first | rw [← Ny530.out] at ho8 | (simp only [Int.reduceToNat] at ho8; rw [← Ny530.out] at ho8))
     have n0_ := Aside0.mk (Kd.R_elder' (by (with_reducible repeat (first | apply Kd.R_alloc | apply Kd.R_drewN | apply Kd.R_drew)); exact HO535.out) (Kd.R_base ho8) hb)
     have n1_ := Aside0.mk (Kd.R_lower (Kd.R_new' ho8 (Kd.R_lt (by (with_reducible repeat (first | apply Kd.R_alloc | apply Kd.R_drewN | apply Kd.R_drew)); exact HO535.out))) (below_size (bw HB.out)))
     have n2_ := Aside0.mk (below_step (bw HB.out) hb)
     clear HO535
     clear HB
     have HO535 := n0_
     have HO532 := n1_
     have HB := n2_
     clear n0_ n1_ n2_
     clear hb ho8
     refine hK.out _ _ trivial (fun hHeld => ?_)
     clear hK K
     refine norm_ (a' := ?_) ?_ ?_
     rotate_left
     ·show Act.put _ (some 8) _ = _
      simp only [Act.put, s1, s2, s3, i64_w, i32_w]
      rfl
     refine pA (i := 6) (N := some 3) (v := ?_) (a' := ?_) #[T_,T_,T_,T_,T_,T_,T_,F_] rfl rfl HT_ (Or.inl ⟨by rfl, ?_⟩) ?_ ?_
     rotate_left
     ·intro w'
      go_simp
      with_reducible rfl
     rotate_left
     ·simp only [Act.put, s1, s2, s3, i64_w, i32_w]
      rfl
     exact norm_ (by simp only [putAll, Act.put, s1, s2, s3]) (hCont (v531, v534) _ ⟨(by (with_reducible repeat (first | apply Kd.R_alloc | apply Kd.R_drewN | apply Kd.R_drew)); exact Kd.R_mono HO532.out (fun _ hk => hk.2)), (by (with_reducible repeat (first | apply Kd.R_alloc | apply Kd.R_drewN | apply Kd.R_drew)); exact Kd.R_mono HO535.out (fun _ hk => hk.2)), (bw HB.out)⟩)
   rintro ⟨v531, v534⟩ w9 ⟨h0_, h1_, h2_⟩
   have n0_ : Aside0 (Kd.R (Kd.int .i64) 3 w9 w.heap.size (fun k_ => some k_ ≠ (v534 : Value).ownBlock) v531 y530) := ⟨h0_⟩
   have n1_ : Aside0 (Kd.R (Kd.int .i64) 3 w9 w.heap.size (fun k_ => some k_ ≠ (v531 : Value).ownBlock) v534 y533) := ⟨h1_⟩
   have n2_ : Aside0 (Below w.heap.size w w9) := ⟨h2_⟩
   clear HB
   clear h0_ h1_ h2_
   have HO532 := n0_
   have HO535 := n1_
   have HB := n2_
   clear n0_ n1_ n2_
   have hHeld := trivial
   refine norm_ (a' := ?_) ?_ ?_
   rotate_left
   ·simp only [putAll, Act.put, s1, s2, s3]
    rfl
   refine pA (i := 7) (N := some 4) (v := ?_) (a' := ?_) #[T_,T_,T_,T_,T_,T_,T_,T_] rfl rfl HT_ (Or.inl ⟨by rfl, ?_⟩) ?_ ?_
   rotate_left
   ·intro w'
    go_simp
    with_reducible rfl
   rotate_left
   ·simp only [Act.put, s1, s2, s3, i64_w, i32_w]
    rfl
   refine done_ (done_of HT_.out (by kernel_rfl)) ?_
   try go_wp2
   go_loopg [5] k (fun kq v5 w' => ∃ (x3_1 : List Int) (x5_1 : Int), v5 = .int .i64 x5_1 ∧ Aside0 (zelligeref01_Neg.l0 kq l0 x3_1 y533 x5_1 = some r) ∧ Aside0 (kq ≤ k) ∧ Aside0 (Kd.R (Kd.int .i64) 3 w' w.heap.size (fun k_ => some k_ ≠ (v534 : Value).ownBlock) v531 x3_1) ∧ Aside0 (Kd.R (Kd.int .i64) 3 w' w.heap.size (fun k_ => some k_ ≠ (v531 : Value).ownBlock) v534 y533) ∧ Aside0 (Below w.heap.size w w'))
   case atStart => exact ⟨(y530), (0), (by first | rfl | (simp; done) | (simp [*]; done)), H', ⟨Nat.le_refl _⟩, ⟨by (with_reducible repeat (first | apply Kd.R_alloc | apply Kd.R_drewN | apply Kd.R_drew)); exact HO532.out⟩, ⟨by (with_reducible repeat (first | apply Kd.R_alloc | apply Kd.R_drewN | apply Kd.R_drew)); exact HO535.out⟩, ⟨bw HB.out⟩⟩
   case round =>
    clear H'
    try clear c2
    try clear c2b0
    try clear c2b1
    try clear p2
    try clear c3
    try clear c3b0
    try clear c3b1
    try clear c6
    obtain ⟨x3_1, x5_1, rfl, HA, HK1, HO_3, HO_4, HB⟩ := hrel
    cases gk with
    | zero => exact absurd HA.out (by simp [zelligeref01_Neg.l0])
    | succ k1 =>
     have H := HA.out
     clear HA
     simp only [zelligeref01_Neg.l0] at H
     by_cases c10 : x5_1 < (l0.length : Int)
     ·rw [if_pos c10] at H
      have c10b0 : decide (x5_1 < (l0.length : Int)) = true := decide_eq_true c10
      clear c10
      by_cases c11 : 0 ≤ x5_1
      ·rw [if_pos c11] at H
       have c11b0 : decide (0 ≤ x5_1) = true := decide_eq_true c11
       clear c11
       by_cases c12 : x5_1 < (x3_1.length : Int)
       ·rw [if_pos c12] at H
        have c12b0 : decide (x5_1 < (x3_1.length : Int)) = true := decide_eq_true c12
        clear c12
        obtain ⟨y537, hy537⟩ : ∃ y_ : List Int, y_ = (x3_1.set (x5_1 : Int).toNat (wrap64 (255 - (rd l0 x5_1)))) := ⟨_, rfl⟩
        replace H : (zelligeref01_Neg.l0 k1 l0 y537 y533 (wrap64 (x5_1 + 1))) = some r := by first | (rw [hy537]; with_reducible exact H) | (have H2_ := (Option.bind_some _ _).symm.trans H; rw [hy537]; with_reducible exact H2_) | (have H2_ := (Option.bind_some _ _).symm.trans H; with_reducible exact H2_) | with_reducible exact H | (rw [hy537]; exact H) | exact H
        have Ny537 := Aside0.mk hy537
        clear hy537
        have H' := Aside0.mk H
        clear H
        have p536 : 0 ≤ (x5_1 : Int) := dt_
        have q536 : x5_1 < (l0.length : Int) := dt_
        obtain ⟨ad536, e536, hx536_0⟩ := Kd.at_int HR0.out x5_1 p536 q536
        cases e536
        replace hx536_0 := (HB.out.cell (World.block_lt_of_cell? w _ hx536_0)).trans hx536_0
        replace p536 := eq_true p536
        replace q536 := eq_true q536
        have p13 : 0 ≤ (x5_1 : Int) := dt_
        have q13 : (x5_1 : Int) < ((x3_1.length : Int) : Int) := dt_
        obtain ⟨go13, co13, eo13, gb13, gl13, cl13, HG13⟩ := Kd.R_form HO_3.out (by omega)
        (first | cases eo13 | (injection eo13 with ea_ en_ ec_; (first | subst ea_ | (injection ea_ with ea_; subst ea_)); subst ec_; clear en_))
        have GB13 := Aside0.mk gb13
        have GG13 := Aside0.mk HG13
        clear gb13 gl13 HG13
        obtain ⟨hx13_0, hf13_0⟩ := Kd.R_celln 0 HO_3.out (x5_1 : Int) p13 q13
        replace p13 := eq_true p13
        replace q13 := eq_true q13
        have HP14 := Kd.R_putg HO_3.out (x5_1 : Int) (wrap64 (255 - (rd l0 x5_1)))
        go_wp2_with (first | ((with_reducible refine gate_store (t := 3) (p := 25) rfl ?_); refine store_event (t := 3) (p := 25) (v := ?vo_w15) (w1 := (wr.setCell ⟨go13, (x5_1 : Int).toNat, none⟩ (.int .i64 (wrap64 (255 - (rd l0 x5_1)))))) ?hg ?ho ?hn ?hr ?_; (case ho => rfl); (case hg => rfl); (case hn => rfl); (case hr => first | (go_simp; done) | (go_simp; rfl)); intro w15 hw; have hg : wr.grownBy w15 (some go13) := (by rw [hw]; exact HP14.2); have hp_ : Kd.R (Kd.int .i64) 3 w15 w.heap.size (fun k_ => some k_ ≠ (v534 : Value).ownBlock) (.slice (some ⟨go13, 0, none⟩) x3_1.length co13) y537 := (by rw [hw, Ny537.out]; exact HP14.1); clear HP14; have n0_ := Aside0.mk (hp_); have n1_ := Aside0.mk (Kd.R_after (v := (.slice (some ⟨go13, 0, none⟩) x3_1.length co13)) (v1 := (.slice (some ⟨go13, 0, none⟩) x3_1.length co13)) (ok := (fun _ => True)) (by (with_reducible repeat (first | apply Kd.R_alloc | apply Kd.R_drewN | apply Kd.R_drew)); exact Kd.R_mono HO_4.out (fun _ hk => ⟨trivial, hk⟩)) hg (.inl rfl)); have n2_ := Aside0.mk ((by rw [hw]; exact below_set (HB.out) GB13.out : Below w.heap.size w w15)); clear HO_3; clear HO_4; clear HB; have HO_3 := n0_; have HO_4 := n1_; have HB := n2_; clear n0_ n1_ n2_; clear hg hw hp_))
        go_roundg k1
        case measure => have := HK1.out; omega
        case rel => exact ⟨(y537), (wrap64 (x5_1 + 1)), (by first | rfl | (simp; done) | (simp [*]; done)), H', ⟨by have := HK1.out; omega⟩, ⟨by (with_reducible repeat (first | apply Kd.R_alloc | apply Kd.R_drewN | apply Kd.R_drew)); exact HO_3.out⟩, ⟨by (with_reducible repeat (first | apply Kd.R_alloc | apply Kd.R_drewN | apply Kd.R_drew)); exact Kd.R_mono HO_4.out (fun _ hk => hk.2)⟩, ⟨bw HB.out⟩⟩
       ·rw [if_neg c12] at H
        exact absurd H (by simp)
      ·rw [if_neg c11] at H
       exact absurd H (by simp)
     ·rw [if_neg c10] at H
      have c10b0 : decide (x5_1 < (l0.length : Int)) = false := decide_eq_false c10
      clear c10
      by_cases c16 : 0 < (y533.length : Int)
      ·rw [if_pos c16] at H
       have c16b0 : decide (0 < (y533.length : Int)) = true := decide_eq_true c16
       have c16b1 : decide (0 < y533.length) = true := decide_eq_true (by omega)
       clear c16
       obtain ⟨y538, hy538⟩ : ∃ y_ : List Int, y_ = (y533.set (0 : Int).toNat 1) := ⟨_, rfl⟩
       replace H : ((zelligeref01_Add.f k1 x3_1 y538).bind fun t539 => (some t539)) = some r := by first | (rw [hy538]; with_reducible exact H) | (have H2_ := (Option.bind_some _ _).symm.trans H; rw [hy538]; with_reducible exact H2_) | (have H2_ := (Option.bind_some _ _).symm.trans H; with_reducible exact H2_) | with_reducible exact H | (rw [hy538]; exact H) | exact H
       have Ny538 := Aside0.mk hy538
       clear hy538
       replace H := Option.bind_eq_some_iff.mp H
       obtain ⟨t539, A180, H⟩ := H
       try dsimp only at H
       have A18 := Aside0.mk A180
       clear A180
       obtain rfl := Option.some.inj H
       have p17 : 0 ≤ (0 : Int) := (by omega)
       have q17 : (0 : Int) < ((y533.length : Int) : Int) := dt_
       have qi17 : (0 < y533.length) = True := eq_true (by omega)
       obtain ⟨go17, co17, eo17, gb17, gl17, cl17, HG17⟩ := Kd.R_form HO_4.out (by omega)
       (first | cases eo17 | (injection eo17 with ea_ en_ ec_; (first | subst ea_ | (injection ea_ with ea_; subst ea_)); subst ec_; clear en_))
       have GB17 := Aside0.mk gb17
       have GG17 := Aside0.mk HG17
       clear gb17 gl17 HG17
       obtain ⟨hx17_0, hf17_0⟩ := Kd.R_celln 0 HO_4.out (0 : Int) p17 q17
       (try rw [show ((0 : Int)).toNat = 0 from rfl] at hx17_0)
       (try simp only [Nat.reduceMul, Nat.zero_mul, Nat.zero_add, Nat.reduceAdd] at hx17_0)
       (try rw [show ((0 : Int)).toNat = 0 from rfl] at hf17_0)
       (try simp only [Nat.reduceMul, Nat.zero_mul, Nat.zero_add, Nat.reduceAdd] at hf17_0)
       replace p17 := eq_true p17
       replace q17 := eq_true q17
       have HP19 := Kd.R_putg HO_4.out (0 : Int) 1
       go_wp2_with (first | ((with_reducible refine gate_store (t := 3) (p := 27) rfl ?_); refine store_event (t := 3) (p := 27) (v := ?vo_w20) (w1 := (wr.setCell ⟨go17, (0 : Int).toNat, none⟩ (.int .i64 1))) ?hg ?ho ?hn ?hr ?_; (case ho => rfl); (case hg => rfl); (case hn => rfl); (case hr => first | (go_simp; done) | (go_simp; rfl)); intro w20 hw; have hg : wr.grownBy w20 (some go17) := (by rw [hw]; exact HP19.2); have hp_ : Kd.R (Kd.int .i64) 3 w20 w.heap.size (fun k_ => some k_ ≠ (v531 : Value).ownBlock) (.slice (some ⟨go17, 0, none⟩) y533.length co17) y538 := (by rw [hw, Ny538.out]; exact HP19.1); clear HP19; have n0_ := Aside0.mk (Kd.R_after (v := (.slice (some ⟨go17, 0, none⟩) y533.length co17)) (v1 := (.slice (some ⟨go17, 0, none⟩) y533.length co17)) (ok := (fun _ => True)) (by (with_reducible repeat (first | apply Kd.R_alloc | apply Kd.R_drewN | apply Kd.R_drew)); exact Kd.R_mono HO_3.out (fun _ hk => ⟨trivial, hk⟩)) hg (.inl rfl)); have n1_ := Aside0.mk (hp_); have n2_ := Aside0.mk ((by rw [hw]; exact below_set (HB.out) GB17.out : Below w.heap.size w w20)); clear HO_3; clear HO_4; clear HB; have HO_3 := n0_; have HO_4 := n1_; have HB := n2_; clear n0_ n1_ n2_; clear hg hw hp_; obtain ⟨Ao21, co21, eo21⟩ := Kd.R_slice HO_3.out; subst eo21) | ((with_reducible refine gate_callee (f := 72) rfl ?_); refine goesL_ (some 30) rfl rfl Try.func72 (by kernel_rfl) rfl #[.slice Ao21 x3_1.length co21, .slice (some ⟨go17, 0, none⟩) y538.length co17] rfl (by (try simp only [List.map_toArray, List.map_cons, List.map_nil]); first | done | (rw [show y538.length = y533.length from (Kd.R_reads' HO_4.out).1.symm] <;> rfl) | rfl | (simp only [List.length_drop, List.length_take]; rfl)) ?_; (with_reducible refine (zelligeref01_Add.calls k1 _ _ x3_1 _ _ y538 t539 _ ?side1 ?side2 ?side3 ?side4 A18.out).mono ?_); (case side1 => repeat (first | exact (Kd.R_reads' HO_3.out).2.2 | (with_reducible refine Kd.C_alloc ?_ _) | (with_reducible refine Kd.C_drewN ?_ _) | (with_reducible refine Kd.C_drew ?_))); (case side2 => exact (Kd.R_reads' HO_3.out).2.1); (case side3 => repeat (first | exact (Kd.R_reads' HO_4.out).2.2 | (with_reducible refine Kd.C_alloc ?_ _) | (with_reducible refine Kd.C_drewN ?_ _) | (with_reducible refine Kd.C_drew ?_))); (case side4 => rw [show y538.length = y533.length from (Kd.R_reads' HO_4.out).1.symm]; exact (Kd.R_reads' HO_4.out).2.1); rintro e w22 ⟨v540, rfl, ho0, hb⟩; refine ⟨_, rfl, ?_⟩; have n0_ := Aside0.mk (Kd.R_elder' (by (with_reducible repeat (first | apply Kd.R_alloc | apply Kd.R_drewN | apply Kd.R_drew)); exact HO_3.out) (Kd.R_base ho0) hb); have n1_ := Aside0.mk (Kd.R_elder' (by (with_reducible repeat (first | apply Kd.R_alloc | apply Kd.R_drewN | apply Kd.R_drew)); exact HO_4.out) (Kd.R_base ho0) hb); have n2_ := Aside0.mk (Kd.R_lower (Kd.R_new' (Kd.R_new' ho0 (Kd.R_lt (by (with_reducible repeat (first | apply Kd.R_alloc | apply Kd.R_drewN | apply Kd.R_drew)); exact HO_3.out))) (Kd.R_lt (by (with_reducible repeat (first | apply Kd.R_alloc | apply Kd.R_drewN | apply Kd.R_drew)); exact HO_4.out))) (below_size (bw HB.out))); have n3_ := u2 HB hb; clear HO_3; clear HO_4; clear HB; have HO_3 := n0_; have HO_4 := n1_; have HO541 := n2_; have HB := n3_; clear n0_ n1_ n2_ n3_; (try clear hb); (try clear hb2); (try clear hk); (try clear hi); (try clear ho0)))
       go_ret
       exact ⟨_, by first | rfl | (simp [*, errW_none, errW_some] <;> rfl), by (with_reducible repeat (first | apply Kd.R_alloc | apply Kd.R_drewN | apply Kd.R_drew)); exact Kd.R_mono HO541.out (fun _ hk => trivial), bw HB.out⟩
      ·rw [if_neg c16] at H
       exact absurd H (by simp)
  ·rw [if_neg c3] at H
   exact absurd H (by simp)
 ·rw [if_neg c2] at H
  exact absurd H (by simp)
end Go.Proofs.Ytmeckkckjikjiaa.F
end
section
namespace Go.Proofs.Ytmeckkckjikjiaa.F
open RowKit YtmeckkckjikjiaaW.PrintWords YtmeckkckjikjiaaW.PrintLast YtmeckkckjikjiaaW.PrintMore
set_option linter.unusedVariables false
set_option linter.unusedSimpArgs false
def zelligeref01_Below.f (l0 : List Int) : Option (Bool) := if 0 ≤ (wrap64 ((l0.length : Int) - 1)) then (if (wrap64 ((l0.length : Int) - 1)) < (l0.length : Int) then (some (decide ((rd l0 (wrap64 ((l0.length : Int) - 1))) ≥ 128))) else (none)) else (none)
set_option maxHeartbeats 8000000 in
set_option maxRecDepth 100000 in
theorem zelligeref01_Below.calls (A0 : Option Addr) (c0 : Nat) (l0 : List Int) (r : Bool) (w : World) (hr0 : Kd.C (Kd.int .i64) w A0 l0.length l0) (hc0 : l0.length ≤ c0) (h : zelligeref01_Below.f l0 = some r) :
  Calls Try.prog 62 #[.slice A0 l0.length c0] w fun e w' => e = .returned (.bool r) ∧ Drawn0 w w' := by
 have HR0 := Aside0.mk hr0
 have HC0 := Aside0.mk hc0
 clear hr0 hc0
 have H : (if 0 ≤ (wrap64 ((l0.length : Int) - 1)) then (if (wrap64 ((l0.length : Int) - 1)) < (l0.length : Int) then (some (decide ((rd l0 (wrap64 ((l0.length : Int) - 1))) ≥ 128))) else (none)) else (none)) = some r := h
 clear h
 obtain ⟨ji2, hji2⟩ : ∃ j_ : Int, (wrap64 ((l0.length : Int) - 1)) = j_ := ⟨_, rfl⟩
 replace H : (if 0 ≤ (ji2) then (if (ji2) < (l0.length : Int) then (some (decide ((rd l0 (ji2)) ≥ 128))) else (none)) else (none)) = some r := by first | (rw [hji2] at H; exact H) | (simp only [hji2] at H ⊢; exact H)
 have hji2w : (IntKind.i64.wrap ((l0.length : Int) - 1)) = ji2 := (i64_w _).trans hji2
 by_cases c3 : 0 ≤ (ji2)
 ·rw [if_pos c3] at H
  have c3b0 : decide (0 ≤ (ji2)) = true := decide_eq_true c3
  clear c3
  by_cases c4 : (ji2) < (l0.length : Int)
  ·rw [if_pos c4] at H
   have c4b0 : decide ((ji2) < (l0.length : Int)) = true := decide_eq_true c4
   clear c4
   obtain rfl := Option.some.inj H
   have p523 : 0 ≤ ((ji2) : Int) := dt_
   have q523 : (ji2) < (l0.length : Int) := dt_
   obtain ⟨ad523, e523, hx523_0⟩ := Kd.at_int HR0.out (ji2) p523 q523
   cases e523
   replace p523 := eq_true p523
   replace q523 := eq_true q523
   go_enter Try.func62, Try.ntmps62
   go_wp2
   go_ret
   exact ⟨by first | rfl | (simp; done) | (simp only [← hji2] <;> (first | rfl | simp)) | (simp [*]; done), by repeat (first | exact Drawn0.refl _ | apply Drawn0.step)⟩
  ·rw [if_neg c4] at H
   exact absurd H (by simp)
 ·rw [if_neg c3] at H
  exact absurd H (by simp)
end Go.Proofs.Ytmeckkckjikjiaa.F
end
section
namespace Go.Proofs.Ytmeckkckjikjiaa.D8
open Go RowKit YtmeckkckjikjiaaW.PrintWords Ytmeckkckjikjiaa.F
set_option linter.unusedVariables false
attribute [local irreducible] val P
theorem rd_nat (l : List Int) (n : Nat) : rd l (n : Int) = l.getD n 0 := by unfold rd; simp
theorem val_set {l : List Int} {j : Nat} (h : j < l.length) (x : Int) : val (l.set j x) = val l + P j * (x - l.getD j 0) := by
 induction l generalizing j with
 | nil => simp at h
 | cons d l ih =>
  cases j with
  | zero => simp only [List.set_cons_zero, val, P, List.getD_cons_zero]; omega
  | succ j =>
   simp only [List.set_cons_succ, val, P, List.getD_cons_succ]
   rw [ih (by simpa using h)]
   generalize P j = p
   generalize l.getD j 0 = y
   grind
theorem Dg_set {l : List Int} (h : Dg l) {j : Nat} {x : Int} (h0 : 0 ≤ x) (h1 : x < 256) : Dg (l.set j x) := fun d hd => by
 rcases List.mem_or_eq_of_mem_set hd with hd | rfl
 ·exact h d hd
 ·exact ⟨h0, h1⟩
theorem getD_set_ne {l : List Int} {i j : Nat} (h : i ≠ j) (x : Int) : (l.set i x).getD j 0 = l.getD j 0 := by
 simp [List.getD_eq_getElem?_getD, List.getElem?_set_ne h]
theorem getD_rep (n j : Nat) : (List.replicate n (0 : Int)).getD j 0 = 0 := by
 simp only [List.getD_eq_getElem?_getD, List.getElem?_replicate]
 split <;> rfl
theorem Dg_rep (n : Nat) : Dg (List.replicate n (0 : Int)) := fun d hd => by
 rw [(List.mem_replicate.1 hd).2]; omega
theorem val_rep (n : Nat) : val (List.replicate n (0 : Int)) = 0 := val_zero_of (fun d hd => (List.mem_replicate.1 hd).2)
theorem mod_of {v T t n : Int} (h0 : 0 ≤ v) (h1 : v < n) (e : v + n * t = T) : v = T % n := by
 rw [← e, Int.add_mul_emod_self_left, Int.emod_eq_of_lt h0 h1]
theorem add_l0 {a b : List Int} (ha : Dg a) (hb : Dg b) (hl : a.length = b.length) (na : a.length ≤ 1000) : ∀ (d k i : Nat) (out : List Int) (c T : Int), a.length - i = d → i ≤ a.length → d < k → out.length = a.length → Dg out → (∀ j, i ≤ j → out.getD j 0 = 0) → 0 ≤ c → c ≤ 1 →
  val out + P i * (c + val (a.drop i) + val (b.drop i)) = T → ∃ r t, zelligeref01_Add.l0 k a b out c (i : Int) = some r ∧ r.length = a.length ∧ Dg r ∧ val r + P a.length * t = T := by
 intro d
 induction d with
 | zero =>
  intro k i out c T hd hi hk ho hD hz c0 c1 hT
  obtain ⟨k, rfl⟩ : ∃ m, k = m + 1 := ⟨k - 1, by omega⟩
  rw [zelligeref01_Add.l0, if_neg (by omega)]
  rw [val_drop_all (by omega), val_drop_all (by omega), show i = a.length by omega] at hT
  exact ⟨out, c, rfl, ho, hD, by rw [← hT]; simp⟩
 | succ d ih =>
  intro k i out c T hd hi hk ho hD hz c0 c1 hT
  obtain ⟨k, rfl⟩ : ∃ m, k = m + 1 := ⟨k - 1, by omega⟩
  have gA := Dg_get ha i
  have gB := Dg_get hb i
  have eA := val_drop (l := a) (i := i) (by omega)
  have eB := val_drop (l := b) (i := i) (by omega)
  rw [zelligeref01_Add.l0, if_pos (by omega), if_pos (by omega), if_pos (by omega), if_pos (by omega), rd_nat, rd_nat, w64 (x := c + a.getD i 0) (by omega) (by omega), w64 (x := c + a.getD i 0 + b.getD i 0) (by omega) (by omega),
   Int.tmod_eq_emod_of_nonneg (by omega), Int.tdiv_eq_ediv_of_nonneg (by omega), w64 (x := (c + a.getD i 0 + b.getD i 0) / 256) (by omega) (by omega), w64 (x := (i : Int) + 1) (by omega) (by omega), Int.toNat_natCast]
  refine ih k (i + 1) _ _ T (by omega) (by omega) (by omega) (by rw [List.length_set, ho]) (Dg_set hD (by omega) (by omega)) (fun j hj => ?_) (by omega) (by omega) ?_
  ·rw [getD_set_ne (by omega)]; exact hz j (by omega)
  ·rw [val_set (by omega), hz i (Nat.le_refl _)]
   rw [eA, eB] at hT
   rw [show P (i + 1) = 256 * P i by rw [P]]
   have hs := Int.emod_add_mul_ediv (c + a.getD i 0 + b.getD i 0) 256
   generalize (c + a.getD i 0 + b.getD i 0) % 256 = m at hs ⊢
   generalize (c + a.getD i 0 + b.getD i 0) / 256 = q at hs ⊢
   rw [← hT]
   generalize val (a.drop (i + 1)) = A
   generalize val (b.drop (i + 1)) = B
   generalize P i = p
   have : c = m + 256 * q - a.getD i 0 - b.getD i 0 := by omega
   subst this
   grind
theorem add_f {a b : List Int} (ha : Dg a) (hb : Dg b) (hl : a.length = b.length) (na : a.length ≤ 1000) {k : Nat} (hk : 1001 ≤ k) : ∃ r, zelligeref01_Add.f k a b = some r ∧ r.length = a.length ∧ Dg r ∧ val r = (val a + val b) % P a.length := by
 unfold zelligeref01_Add.f
 rw [if_pos (by omega), if_pos (by omega), Int.toNat_natCast]
 obtain ⟨r, t, h1, h2, h3, h4⟩ := add_l0 ha hb hl na a.length k 0 (List.replicate a.length 0) 0 (val a + val b) (by omega) (by omega) (by omega) (by simp) (Dg_rep _) (fun j _ => getD_rep _ _) (by omega) (by omega) (by rw [val_rep, List.drop_zero, List.drop_zero, show P 0 = 1 by rw [P]]; omega)
 refine ⟨r, h1, h2, h3, mod_of (val_nonneg h3) ?_ h4⟩
 rw [← h2]; exact val_lt h3
def co (l : List Int) : Int := P l.length - 1 - val l
theorem neg_l0 {a one : List Int} (ha : Dg a) (na : a.length ≤ 1000) (n0 : 0 < a.length) (h1 : one = List.replicate a.length 0) : ∀ (d k i : Nat) (out : List Int) (T : Int), a.length - i = d → i ≤ a.length → d + 1002 < k → out.length = a.length → Dg out → (∀ j, i ≤ j → out.getD j 0 = 0) →
  val out + P i * co (a.drop i) = T → T = P a.length - 1 - val a → ∃ r, zelligeref01_Neg.l0 k a out one (i : Int) = some r ∧ r.length = a.length ∧ Dg r ∧ val r = (-val a) % P a.length := by
 intro d
 induction d with
 | zero =>
  intro k i out T hd hi hk ho hD hz hT hT2
  obtain ⟨k, rfl⟩ : ∃ m, k = m + 1 := ⟨k - 1, by omega⟩
  have hone : one.length = a.length := by rw [h1]; simp
  have hDo : Dg (one.set 0 1) := Dg_set (by rw [h1]; exact Dg_rep _) (by omega) (by omega)
  have hvo : val (one.set 0 1) = 1 := by
   rw [val_set (by omega), h1, val_rep, getD_rep, show P 0 = 1 by rw [P]]; omega
  rw [zelligeref01_Neg.l0, if_neg (by omega), if_pos (by omega)]
  obtain ⟨r, r1, r2, r3, r4⟩ := add_f (a := out) (b := one.set 0 1) hD hDo (by rw [List.length_set]; omega) (by omega) (k := k) (by omega)
  rw [show ((0 : Int)).toNat = 0 from rfl, r1, Option.bind_some]
  refine ⟨r, rfl, by omega, r3, ?_⟩
  have hco : co (a.drop i) = 0 := by
   unfold co
   rw [List.drop_eq_nil_of_le (by omega)]
   rw [show val [] = 0 by rw [val], List.length_nil, show P 0 = 1 by rw [P]]; omega
  rw [hco, Int.mul_zero, Int.add_zero] at hT
  rw [r4, hvo, ho, hT, hT2]
  have := Int.add_mul_emod_self_left (-val a) (P a.length) 1
  rw [Int.mul_one] at this
  rw [← this]
  congr 1
  omega
 | succ d ih =>
  intro k i out T hd hi hk ho hD hz hT hT2
  obtain ⟨k, rfl⟩ : ∃ m, k = m + 1 := ⟨k - 1, by omega⟩
  have gA := Dg_get ha i
  have eA := val_drop (l := a) (i := i) (by omega)
  rw [zelligeref01_Neg.l0, if_pos (by omega), if_pos (by omega), if_pos (by omega), rd_nat, w64 (x := 255 - a.getD i 0) (by omega) (by omega), w64 (x := (i : Int) + 1) (by omega) (by omega), Int.toNat_natCast]
  refine ih k (i + 1) _ T (by omega) (by omega) (by omega) (by rw [List.length_set, ho]) (Dg_set hD (by omega) (by omega)) (fun j hj => ?_) ?_ hT2
  ·rw [getD_set_ne (by omega)]; exact hz j (by omega)
  ·rw [val_set (by omega), hz i (Nat.le_refl _), ← hT]
   unfold co
   rw [eA, List.length_drop, List.length_drop, show a.length - i = (a.length - (i + 1)) + 1 by omega, show P (i + 1) = 256 * P i by rw [P], show P (a.length - (i + 1) + 1) = 256 * P (a.length - (i + 1)) by rw [P]]
   generalize P (a.length - (i + 1)) = m
   generalize P i = p
   generalize val (a.drop (i + 1)) = A
   grind
theorem neg_f {a : List Int} (ha : Dg a) (na : a.length ≤ 1000) (n0 : 0 < a.length) {k : Nat} (hk : 3000 ≤ k) : ∃ r, zelligeref01_Neg.f k a = some r ∧ r.length = a.length ∧ Dg r ∧ val r = (-val a) % P a.length := by
 unfold zelligeref01_Neg.f
 rw [if_pos (by omega), if_pos (by omega), Int.toNat_natCast]
 exact neg_l0 ha na n0 rfl a.length k 0 (List.replicate a.length 0) _ (by omega) (by omega) (by omega) (by simp) (Dg_rep _) (fun j _ => getD_rep _ _) rfl (by rw [val_rep, List.drop_zero, show P 0 = 1 by rw [P]]; unfold co; omega)
theorem carry {c o a b : Int} (c0 : 0 ≤ c) (c1 : c < 256) (o0 : 0 ≤ o) (o1 : o < 256) (a0 : 0 ≤ a) (a1 : a < 256) (b0 : 0 ≤ b) (b1 : b < 256) :
  0 ≤ a * b ∧ a * b ≤ 65025 ∧ 0 ≤ c + o + a * b ∧ (c + o + a * b) / 256 < 256 := by
 have h0 : 0 ≤ a * b := Int.mul_nonneg a0 b0
 have h1 : a * b ≤ 255 * b := Int.mul_le_mul_of_nonneg_right (by omega) b0
 omega
end Go.Proofs.Ytmeckkckjikjiaa.D8
end
section
namespace Go.Proofs.Ytmeckkckjikjiaa.D8
open Go RowKit YtmeckkckjikjiaaW.PrintWords Ytmeckkckjikjiaa.F
set_option linter.unusedVariables false
theorem mask255 (a : Int) (ha : 0 ≤ a) (ha2 : a < 18446744073709551616) : bits .and .u64 a 255 = a % 256 := by
 obtain ⟨A, rfl⟩ := Int.eq_ofNat_of_zero_le ha
 have h := bits_and_u64_nat A 255 (by omega) (by omega)
 have e : A &&& 255 = A % 256 := Nat.and_two_pow_sub_one_eq_mod A 8
 rw [e] at h
 exact h
def dd (x : Int) (i : Nat) : Int := x / ((2 ^ (8 * i) : Nat) : Int) % 256
theorem byte_go (x : Int) (x0 : 0 ≤ x) (x1 : x < 18446744073709551616) (i : Nat) (hi : i < 8) : wrap64 (bits .and .u64 (shr .u64 x (IntKind.u64.wrap (wrap64 (8 * (i : Int))))) 255) = dd x i := by
 have e1 : IntKind.u64.wrap (wrap64 (8 * (i : Int))) = ((8 * i : Nat) : Int) := by rw [w64 (by omega) (by omega), IntKind.wrap_u64]; omega
 have e2 : shr .u64 x ((8 * i : Nat) : Int) = x / ((2 ^ (8 * i) : Nat) : Int) := by
  unfold shr
  rw [Int.toNat_natCast, Nat.min_eq_left (by simp [IntKind.bits]; omega)]
  rfl
 have h0 : 0 ≤ x / ((2 ^ (8 * i) : Nat) : Int) := Int.ediv_nonneg x0 (Int.natCast_nonneg _)
 have h1 : x / ((2 ^ (8 * i) : Nat) : Int) ≤ x := Int.ediv_le_self _ x0
 rw [e1, e2, mask255 _ h0 (by omega)]
 unfold dd
 generalize x / ((2 ^ (8 * i) : Nat) : Int) = y
 exact w64 (by omega) (by omega)
theorem dd_bd (x : Int) (i : Nat) : 0 ≤ dd x i ∧ dd x i < 256 := by unfold dd; omega
theorem eight (x : Int) (x0 : 0 ≤ x) (x1 : x < 18446744073709551616) : dd x 0 + 256 * (dd x 1 + 256 * (dd x 2 + 256 * (dd x 3 + 256 * (dd x 4 + 256 * (dd x 5 + 256 * (dd x 6 + 256 * dd x 7)))))) = x := by
 unfold dd
 simp only [Nat.reduceMul, Nat.reducePow, Nat.mul_zero, Nat.pow_zero]
 omega
instance (l : List Int) : Decidable (Dg l) := inferInstanceAs (Decidable (∀ d, d ∈ l → 0 ≤ d ∧ d < 256))
theorem P32 : P 32 = 115792089237316195423570985008687907853269984665640564039457584007913129639936 := by decide
def qdg (a b c d : Int) : List Int := (List.range 32).map (fun n => dd ([a, b, c, d].getD (n / 8) 0) (n % 8))
theorem qdg_len (a b c d : Int) : (qdg a b c d).length = 32 := by unfold qdg; simp
theorem qdg_get (a b c d : Int) {n : Nat} (hn : n < 32) : (qdg a b c d).getD n 0 = dd ([a, b, c, d].getD (n / 8) 0) (n % 8) := by
 unfold qdg
 simp [List.getD_eq_getElem?_getD, hn]
theorem qdg_dg (a b c d : Int) : Dg (qdg a b c d) := fun x hx => by
 unfold qdg at hx
 obtain ⟨n, _, rfl⟩ := List.mem_map.1 hx
 exact dd_bd _ _
theorem qdg_all (a b c d : Int) : qdg a b c d = [dd a 0, dd a 1, dd a 2, dd a 3, dd a 4, dd a 5, dd a 6, dd a 7, dd b 0, dd b 1, dd b 2, dd b 3, dd b 4, dd b 5, dd b 6, dd b 7, dd c 0, dd c 1, dd c 2, dd c 3, dd c 4, dd c 5, dd c 6, dd c 7, dd d 0, dd d 1, dd d 2, dd d 3, dd d 4, dd d 5, dd d 6, dd d 7] := rfl
theorem qdg_val {a b c d : Int} (h : QOk a b c d) : val (qdg a b c d) = qv a b c d := by
 obtain ⟨⟨a0, a1⟩, ⟨b0, b1⟩, ⟨c0, c1⟩, ⟨d0, d1⟩⟩ := h
 have ea := eight a a0 a1
 have eb := eight b b0 b1
 have ec := eight c c0 c1
 have ed := eight d d0 d1
 rw [qdg_all]
 simp only [val]
 unfold qv
 generalize dd a 0 = a0_ at *
 generalize dd a 1 = a1_ at *
 generalize dd a 2 = a2_ at *
 generalize dd a 3 = a3_ at *
 generalize dd a 4 = a4_ at *
 generalize dd a 5 = a5_ at *
 generalize dd a 6 = a6_ at *
 generalize dd a 7 = a7_ at *
 generalize dd b 0 = b0_ at *
 generalize dd b 1 = b1_ at *
 generalize dd b 2 = b2_ at *
 generalize dd b 3 = b3_ at *
 generalize dd b 4 = b4_ at *
 generalize dd b 5 = b5_ at *
 generalize dd b 6 = b6_ at *
 generalize dd b 7 = b7_ at *
 generalize dd c 0 = c0_ at *
 generalize dd c 1 = c1_ at *
 generalize dd c 2 = c2_ at *
 generalize dd c 3 = c3_ at *
 generalize dd c 4 = c4_ at *
 generalize dd c 5 = c5_ at *
 generalize dd c 6 = c6_ at *
 generalize dd c 7 = c7_ at *
 generalize dd d 0 = d0_ at *
 generalize dd d 1 = d1_ at *
 generalize dd d 2 = d2_ at *
 generalize dd d 3 = d3_ at *
 generalize dd d 4 = d4_ at *
 generalize dd d 5 = d5_ at *
 generalize dd d 6 = d6_ at *
 generalize dd d 7 = d7_ at *
 clear a0 a1 b0 b1 c0 c1 d0 d1
 omega
theorem qdg_step (a b c d : Int) {n : Nat} (hn : n < 32) {V : Int} (hV : V = dd ([a, b, c, d].getD (n / 8) 0) (n % 8)) : ((qdg a b c d).take n ++ List.replicate (32 - n) 0).set n V = (qdg a b c d).take (n + 1) ++ List.replicate (32 - (n + 1)) 0 := by
 have hl := qdg_len a b c d
 rw [take_succ' (by omega), qdg_get a b c d hn, ← hV, List.set_append_right _ _ (by simp; omega)]
 rw [show n - ((qdg a b c d).take n).length = 0 by simp; omega, show 32 - n = (32 - (n + 1)) + 1 by omega, List.replicate_succ, List.set_cons_zero, List.append_assoc]
 rfl
end Go.Proofs.Ytmeckkckjikjiaa.D8
end
section
namespace Go.Proofs.Ytmeckkckjikjiaa.F
open RowKit YtmeckkckjikjiaaW.PrintWords YtmeckkckjikjiaaW.PrintLast YtmeckkckjikjiaaW.PrintMore
attribute [local go_sem] max2_int min2_int max_two min_two max_three min_three max_four min_four
set_option linter.unusedVariables false
set_option linter.unusedSimpArgs false
def zelligeref01_Of.l0 : Nat → List Int → Int → Int → Int → Option (List Int)
 | 0, _, _, _, _ => none
 | k + 1, x3, x4, x567000, x567001 => if x4 < 8 then (if 0 ≤ (IntKind.u64.wrap (wrap64 (8 * x4))) then (if 0 ≤ x4 then (if x4 < (x3.length : Int) then (if 0 ≤ (wrap64 (8 + x4)) then (if (wrap64 (8 + x4)) < (x3.length : Int) then (zelligeref01_Of.l0 k ((x3.set (x4 : Int).toNat (wrap64 (Go.bits .and .u64 (shr .u64 x567001 (IntKind.u64.wrap (wrap64 (8 * x4)))) 255))).set ((wrap64 (8 + x4)) : Int).toNat (wrap64 (Go.bits .and .u64 (shr .u64 (IntKind.u64.wrap (x567000)) (IntKind.u64.wrap (wrap64 (8 * x4)))) 255))) (wrap64 (x4 + 1)) x567000 x567001) else (none)) else (none)) else (none)) else (none)) else (none)) else (some x3)
def zelligeref01_Of.f (k : Nat) (a0_0 : Int) (a0_1 : Int) : Option (List Int) := if 16 ≤ 35184372088832 then (zelligeref01_Of.l0 k (List.replicate 16 0) 0 a0_0 a0_1) else (none)
theorem zelligeref01_Of.mono_l : ∀ k, (∀ y0 y1 y2 y3, LeO (zelligeref01_Of.l0 k y0 y1 y2 y3) (zelligeref01_Of.l0 (k + 1) y0 y1 y2 y3))
 | 0 => fun _ _ _ _ r h => by simp [zelligeref01_Of.l0] at h
 | k + 1 => by
  have ih0 := zelligeref01_Of.mono_l k
  ·intro y0 y1 y2 y3
   unfold zelligeref01_Of.l0
   repeat' first
   | (with_reducible exact ih0 _ _ _ _)
   | (with_reducible exact LeO.refl _)
   | (with_reducible exact LeO.none _)
   | (with_reducible refine LeO.ite ?_ ?_)
   | (with_reducible refine LeO.bind ?_ (fun _ => ?_))
   | exact ih0 _ _ _ _
   | exact LeO.none _
   | refine LeO.ite ?_ ?_
   | refine LeO.bind ?_ (fun _ => ?_)
theorem zelligeref01_Of.mono : ∀ a0 a1 k, LeO (zelligeref01_Of.f k a0 a1) (zelligeref01_Of.f (k + 1) a0 a1) := by
 intro a0 a1 k
 have ih0 := zelligeref01_Of.mono_l k
 unfold zelligeref01_Of.f
 repeat' first
   | (with_reducible exact ih0 _ _ _ _)
   | (with_reducible exact LeO.refl _)
   | (with_reducible exact LeO.none _)
   | (with_reducible refine LeO.ite ?_ ?_)
   | (with_reducible refine LeO.bind ?_ (fun _ => ?_))
   | exact ih0 _ _ _ _
   | exact LeO.none _
   | refine LeO.ite ?_ ?_
   | refine LeO.bind ?_ (fun _ => ?_)
set_option maxHeartbeats 8000000 in
set_option maxRecDepth 100000 in
theorem zelligeref01_Of.calls (k : Nat) (a0_0 : Int) (a0_1 : Int) (r : List Int) (w : World) (h : zelligeref01_Of.f k a0_0 a0_1 = some r) :
  Calls Try.prog 65 #[.agg #[.int .i64 a0_0, .int .u64 a0_1]] w fun e w' => ∃ v0_ : Value, e = .returned (v0_) ∧ Kd.R (Kd.int .i64) 3 w' w.heap.size (fun _ => True) v0_ r ∧ Below w.heap.size w w' := by
 have hu37 := Try.underlying37
 have HB := Aside0.mk (Below.refl w.heap.size w)
 have H : (if 16 ≤ 35184372088832 then (zelligeref01_Of.l0 k (List.replicate 16 0) 0 a0_0 a0_1) else (none)) = some r := h
 clear h
 by_cases c2 : 16 ≤ 35184372088832
 ·rw [if_pos c2] at H
  have c2b0 := eq_true c2
  have c2b1 : decide (16 ≤ 35184372088832) = true := decide_eq_true c2
  clear c2
  obtain ⟨y567, hy567⟩ : ∃ y_ : List Int, y_ = (List.replicate 16 0) := ⟨_, rfl⟩
  replace H : (zelligeref01_Of.l0 k y567 0 a0_0 a0_1) = some r := by first | (rw [hy567]; with_reducible exact H) | (have H2_ := (Option.bind_some _ _).symm.trans H; rw [hy567]; with_reducible exact H2_) | (have H2_ := (Option.bind_some _ _).symm.trans H; with_reducible exact H2_) | with_reducible exact H | (rw [hy567]; exact H) | exact H
  have Ny567 := Aside0.mk hy567
  clear hy567
  have H' := Aside0.mk H
  clear H
  go_enter Try.func65, Try.ntmps65
  go_wp2_with (first | ((with_reducible refine gate_dst (N := 1) rfl ?_); refine bx 1 #[.int .i64 a0_0, .int .u64 a0_1] 37 ?_; intro gb566 hg w3 hbox hb; have BK566 := Aside0.mk hbox; have GW566 := u3 hg HB; have GE566 := u3 hg HB; replace HB := u2 HB hb; clear hb hbox hg) | ((with_reducible refine gate_dst (N := 5) rfl ?_); refine Kd.R_make (Kd.int .i64) _ 3 rfl (N := 5) rfl 30 _ _ rfl 16 rfl rfl Try.underlying30 (.int .i64 0) 8 info3 rfl (by decide) (by omega) 0 (ok := fun _ => True) (okp := fun _ => True) rfl (fun _ hk => hk) trivial (by omega) (by omega) (Below.refl _ _) (Nat.le_refl _) ?_; intro v568 w4 ho5 hb hg_ hnew_; clear hg_ hnew_; (first | rw [← Ny567.out] at ho5 | (simp only [Int.reduceToNat] at ho5; rw [← Ny567.out] at ho5)); have n0_ := Aside0.mk (Kd.R_lower ho5 (below_size (bw HB.out))); have n1_ := u1 BK566 hb; have n2_ := u2 HB hb; clear BK566; clear HB; have HO569 := n0_; have BK566 := n1_; have HB := n2_; clear n0_ n1_ n2_; clear hb ho5))
  go_loopg [4] k (fun kq v4 w' => ∃ (x3_1 : List Int) (x4_1 : Int), v4 = .int .i64 x4_1 ∧ Aside0 (zelligeref01_Of.l0 kq x3_1 x4_1 a0_0 a0_1 = some r) ∧ Aside0 (kq ≤ k) ∧ Aside0 (Kd.R (Kd.int .i64) 3 w' w.heap.size (fun _ => True) v568 x3_1) ∧ Aside0 (w'.heap[gb566]? = some (.cells #[.int .i64 a0_0, .int .u64 a0_1] 37 (0, 0))) ∧ Aside0 (Below w.heap.size w w'))
  case atStart => exact ⟨(y567), (0), (by first | rfl | (simp; done) | (simp [*]; done)), H', ⟨Nat.le_refl _⟩, ⟨by (with_reducible repeat (first | apply Kd.R_alloc | apply Kd.R_drewN | apply Kd.R_drew)); exact HO569.out⟩, ⟨bk BK566.out⟩, ⟨bw HB.out⟩⟩
  case round =>
   clear H'
   try clear c2
   try clear c2b0
   try clear c2b1
   try clear p2
   obtain ⟨x3_1, x4_1, rfl, HA, HK1, HO_3, BK566, HB⟩ := hrel
   cases gk with
   | zero => exact absurd HA.out (by simp [zelligeref01_Of.l0])
   | succ k1 =>
    have H := HA.out
    clear HA
    simp only [zelligeref01_Of.l0] at H
    by_cases c6 : x4_1 < 8
    ·rw [if_pos c6] at H
     have c6b0 : decide (x4_1 < 8) = true := decide_eq_true c6
     clear c6
     obtain ⟨ji7, hji7⟩ : ∃ j_ : Int, (IntKind.u64.wrap (wrap64 (8 * x4_1))) = j_ := ⟨_, rfl⟩
     replace H : (if 0 ≤ (ji7) then (if 0 ≤ x4_1 then (if x4_1 < (x3_1.length : Int) then (if 0 ≤ (wrap64 (8 + x4_1)) then (if (wrap64 (8 + x4_1)) < (x3_1.length : Int) then (zelligeref01_Of.l0 k1 ((x3_1.set (x4_1 : Int).toNat (wrap64 (Go.bits .and .u64 (shr .u64 a0_1 (ji7)) 255))).set ((wrap64 (8 + x4_1)) : Int).toNat (wrap64 (Go.bits .and .u64 (shr .u64 (IntKind.u64.wrap (a0_0)) (ji7)) 255))) (wrap64 (x4_1 + 1)) a0_0 a0_1) else (none)) else (none)) else (none)) else (none)) else (none)) = some r := by first | (rw [hji7] at H; exact H) | (simp only [hji7] at H ⊢; exact H)
     by_cases c8 : 0 ≤ (ji7)
     ·rw [if_pos c8] at H
      have c8b0 := eq_true c8
      have c8b1 : decide (0 ≤ (ji7)) = true := decide_eq_true c8
      clear c8
      obtain ⟨ji9, hji9⟩ : ∃ j_ : Int, (shr .u64 a0_1 (ji7)) = j_ := ⟨_, rfl⟩
      replace H : (if 0 ≤ x4_1 then (if x4_1 < (x3_1.length : Int) then (if 0 ≤ (wrap64 (8 + x4_1)) then (if (wrap64 (8 + x4_1)) < (x3_1.length : Int) then (zelligeref01_Of.l0 k1 ((x3_1.set (x4_1 : Int).toNat (wrap64 (Go.bits .and .u64 (ji9) 255))).set ((wrap64 (8 + x4_1)) : Int).toNat (wrap64 (Go.bits .and .u64 (shr .u64 (IntKind.u64.wrap (a0_0)) (ji7)) 255))) (wrap64 (x4_1 + 1)) a0_0 a0_1) else (none)) else (none)) else (none)) else (none)) = some r := by first | (rw [hji9] at H; exact H) | (simp only [hji9] at H ⊢; exact H)
      have hji9_ : (a0_1 / 2 ^ min (ji7).toNat 64) = ji9 := hji9
      have hji9z : (ji7) ≤ 64 → (a0_1 / 2 ^ (ji7).toNat) = ji9 := shr_small hji9
      by_cases c10 : 0 ≤ x4_1
      ·rw [if_pos c10] at H
       have c10b0 : decide (0 ≤ x4_1) = true := decide_eq_true c10
       clear c10
       by_cases c11 : x4_1 < (x3_1.length : Int)
       ·rw [if_pos c11] at H
        have c11b0 : decide (x4_1 < (x3_1.length : Int)) = true := decide_eq_true c11
        clear c11
        obtain ⟨y570, hy570⟩ : ∃ y_ : List Int, y_ = (x3_1.set (x4_1 : Int).toNat (wrap64 (Go.bits .and .u64 (ji9) 255))) := ⟨_, rfl⟩
        replace H : (if 0 ≤ (wrap64 (8 + x4_1)) then (if (wrap64 (8 + x4_1)) < (x3_1.length : Int) then (zelligeref01_Of.l0 k1 (y570.set ((wrap64 (8 + x4_1)) : Int).toNat (wrap64 (Go.bits .and .u64 (shr .u64 (IntKind.u64.wrap (a0_0)) (ji7)) 255))) (wrap64 (x4_1 + 1)) a0_0 a0_1) else (none)) else (none)) = some r := by first | (rw [hy570]; with_reducible exact H) | (have H2_ := (Option.bind_some _ _).symm.trans H; rw [hy570]; with_reducible exact H2_) | (have H2_ := (Option.bind_some _ _).symm.trans H; with_reducible exact H2_) | with_reducible exact H | (rw [hy570]; exact H) | exact H
        have Ny570 := Aside0.mk hy570
        clear hy570
        have c13b0 := eq_true (of_decide_eq_true (by first | (with_reducible assumption) | assumption) : 0 ≤ (ji7))
        obtain ⟨ji14, hji14⟩ : ∃ j_ : Int, (shr .u64 (IntKind.u64.wrap (a0_0)) (ji7)) = j_ := ⟨_, rfl⟩
        replace H : (if 0 ≤ (wrap64 (8 + x4_1)) then (if (wrap64 (8 + x4_1)) < (x3_1.length : Int) then (zelligeref01_Of.l0 k1 (y570.set ((wrap64 (8 + x4_1)) : Int).toNat (wrap64 (Go.bits .and .u64 (ji14) 255))) (wrap64 (x4_1 + 1)) a0_0 a0_1) else (none)) else (none)) = some r := by first | (rw [hji14] at H; exact H) | (simp only [hji14] at H ⊢; exact H)
        have hji14_ : ((IntKind.u64.wrap (a0_0)) / 2 ^ min (ji7).toNat 64) = ji14 := hji14
        have hji14z : (ji7) ≤ 64 → ((IntKind.u64.wrap (a0_0)) / 2 ^ (ji7).toNat) = ji14 := shr_small hji14
        obtain ⟨ji15, hji15⟩ : ∃ j_ : Int, (wrap64 (8 + x4_1)) = j_ := ⟨_, rfl⟩
        replace H : (if 0 ≤ (ji15) then (if (ji15) < (x3_1.length : Int) then (zelligeref01_Of.l0 k1 (y570.set ((ji15) : Int).toNat (wrap64 (Go.bits .and .u64 (ji14) 255))) (wrap64 (x4_1 + 1)) a0_0 a0_1) else (none)) else (none)) = some r := by first | (rw [hji15] at H; exact H) | (simp only [hji15] at H ⊢; exact H)
        have hji15w : (IntKind.i64.wrap (8 + x4_1)) = ji15 := (i64_w _).trans hji15
        by_cases c16 : 0 ≤ (ji15)
        ·rw [if_pos c16] at H
         have c16b0 : decide (0 ≤ (ji15)) = true := decide_eq_true c16
         clear c16
         by_cases c17 : (ji15) < (x3_1.length : Int)
         ·rw [if_pos c17] at H
          have c17b0 : decide ((ji15) < (x3_1.length : Int)) = true := decide_eq_true c17
          clear c17
          obtain ⟨y571, hy571⟩ : ∃ y_ : List Int, y_ = (y570.set ((ji15) : Int).toNat (wrap64 (Go.bits .and .u64 (ji14) 255))) := ⟨_, rfl⟩
          replace H : (zelligeref01_Of.l0 k1 y571 (wrap64 (x4_1 + 1)) a0_0 a0_1) = some r := by first | (rw [hy571]; with_reducible exact H) | (have H2_ := (Option.bind_some _ _).symm.trans H; rw [hy571]; with_reducible exact H2_) | (have H2_ := (Option.bind_some _ _).symm.trans H; with_reducible exact H2_) | with_reducible exact H | (rw [hy571]; exact H) | exact H
          have Ny571 := Aside0.mk hy571
          clear hy571
          have H' := Aside0.mk H
          clear H
          obtain ⟨_, _, _, _⟩ := p2 BK566
          have p12 : 0 ≤ (x4_1 : Int) := dt_
          have q12 : (x4_1 : Int) < ((x3_1.length : Int) : Int) := dt_
          obtain ⟨go12, co12, eo12, gb12, gl12, cl12, HG12⟩ := Kd.R_form HO_3.out (by omega)
          (first | cases eo12 | (injection eo12 with ea_ en_ ec_; (first | subst ea_ | (injection ea_ with ea_; subst ea_)); subst ec_; clear en_))
          have GB12 := Aside0.mk gb12
          have GG12 := Aside0.mk HG12
          clear gb12 gl12 HG12
          obtain ⟨hx12_0, hf12_0⟩ := Kd.R_celln 0 HO_3.out (x4_1 : Int) p12 q12
          replace p12 := eq_true p12
          replace q12 := eq_true q12
          have HP20 := Kd.R_putg HO_3.out (x4_1 : Int) (wrap64 (Go.bits .and .u64 (ji9) 255))
          go_wp2_with (first | ((with_reducible refine gate_store (t := 3) (p := 20) rfl ?_); refine store_event (t := 3) (p := 20) (v := ?vo_w21) (w1 := (wr.setCell ⟨go12, (x4_1 : Int).toNat, none⟩ (.int .i64 (wrap64 (Go.bits .and .u64 (ji9) 255))))) ?hg ?ho ?hn ?hr ?_; (case ho => rfl); (case hg => rfl); (case hn => rfl); (case hr => first | (go_simp; done) | (go_simp; rfl)); intro w21 hw; have hg : wr.grownBy w21 (some go12) := (by rw [hw]; exact HP20.2); have hp_ : Kd.R (Kd.int .i64) 3 w21 w.heap.size (fun _ => True) (.slice (some ⟨go12, 0, none⟩) x3_1.length co12) y570 := (by rw [hw, Ny570.out]; exact HP20.1); clear HP20; have n0_ := Aside0.mk (hp_); have n1_ := Aside0.mk (blk_grown (bk BK566.out) hg (Kd.R_ne HO_3.out BK566.out (by decide))); have n2_ := Aside0.mk ((by rw [hw]; exact below_set (HB.out) GB12.out : Below w.heap.size w w21)); clear HO_3; clear BK566; clear HB; have HO_3 := n0_; have BK566 := n1_; have HB := n2_; clear n0_ n1_ n2_; clear hg hw hp_; obtain ⟨_, _, _, _⟩ := p2 BK566; have p18 : 0 ≤ ((ji15) : Int) := dt_; have q18 : ((ji15) : Int) < ((x3_1.length : Int) : Int) := dt_; obtain ⟨hx18_0, hf18_0⟩ := Kd.R_celln 0 HO_3.out ((ji15) : Int) p18 q18; replace p18 := eq_true p18; replace q18 := eq_true q18; obtain ⟨hy23_, hz23_⟩ := Kd.R_celln 0 HO_3.out ((ji15) : Int) (of_decide_eq_true (by first | (with_reducible assumption) | assumption)) (of_decide_eq_true (by first | (with_reducible assumption) | assumption)); have HP23 := Kd.R_putg HO_3.out ((ji15) : Int) (wrap64 (Go.bits .and .u64 (ji14) 255))) | ((with_reducible refine gate_store (t := 3) (p := 33) rfl ?_); refine store_event (t := 3) (p := 33) (v := ?vo_w24) (w1 := (w21.setCell ⟨go12, ((ji15) : Int).toNat, none⟩ (.int .i64 (wrap64 (Go.bits .and .u64 (ji14) 255))))) ?hg ?ho ?hn ?hr ?_; (case ho => rfl); (case hg => rfl); (case hn => rfl); (case hr => first | (go_simp; done) | (go_simp; rfl)); intro w24 hw; have hg : w21.grownBy w24 (some go12) := (by rw [hw]; exact HP23.2); have hp_ : Kd.R (Kd.int .i64) 3 w24 w.heap.size (fun _ => True) (.slice (some ⟨go12, 0, none⟩) x3_1.length co12) y571 := (by rw [hw, Ny571.out]; exact HP23.1); clear HP23; have n0_ := Aside0.mk (hp_); have n1_ := Aside0.mk (blk_grown (bk BK566.out) hg (Kd.R_ne HO_3.out BK566.out (by decide))); have n2_ := Aside0.mk ((by rw [hw]; exact below_set (HB.out) GB12.out : Below w.heap.size w w24)); clear HO_3; clear BK566; clear HB; have HO_3 := n0_; have BK566 := n1_; have HB := n2_; clear n0_ n1_ n2_; clear hg hw hp_))
          go_roundg k1
          case measure => have := HK1.out; omega
          case rel => exact ⟨(y571), (wrap64 (x4_1 + 1)), (by first | rfl | (simp; done) | (simp [*]; done)), H', ⟨by have := HK1.out; omega⟩, ⟨by (with_reducible repeat (first | apply Kd.R_alloc | apply Kd.R_drewN | apply Kd.R_drew)); exact HO_3.out⟩, ⟨bk BK566.out⟩, ⟨bw HB.out⟩⟩
         ·rw [if_neg c17] at H
          exact absurd H (by simp)
        ·rw [if_neg c16] at H
         exact absurd H (by simp)
       ·rw [if_neg c11] at H
        exact absurd H (by simp)
      ·rw [if_neg c10] at H
       exact absurd H (by simp)
     ·rw [if_neg c8] at H
      exact absurd H (by simp)
    ·rw [if_neg c6] at H
     have c6b0 : decide (x4_1 < 8) = false := decide_eq_false c6
     clear c6
     obtain rfl := Option.some.inj H
     go_wp2
     go_ret
     exact ⟨_, by first | rfl | (simp [*, errW_none, errW_some] <;> rfl), by (with_reducible repeat (first | apply Kd.R_alloc | apply Kd.R_drewN | apply Kd.R_drew)); exact HO_3.out, bw HB.out⟩
 ·rw [if_neg c2] at H
  exact absurd H (by simp)
end Go.Proofs.Ytmeckkckjikjiaa.F
end
