/- PredCircles: own texts in one (part 3 of 5): contracts of the functions that the law reaches. -/
import Derived.Test.YtmeckkckjikjiaaBPredCirclesb

section
namespace Go.Proofs.Ytmeckkckjikjiaa.F
open Go.RowKit Go.Proofs.YtmeckkckjikjiaaW.PrintWords Go.Proofs.YtmeckkckjikjiaaW.PrintLast Go.Proofs.YtmeckkckjikjiaaW.PrintMore
attribute [local go_sem] max2_int min2_int max_two min_two max_three min_three max_four min_four
set_option linter.unusedVariables false
set_option linter.unusedSimpArgs false
def pred_InCircle.f (k : Nat) (a0_0 : Int) (a0_1 : Int) (a1_0 : Int) (a1_1 : Int) (a2_0 : Int) (a2_1 : Int) (a3_0 : Int) (a3_1 : Int) : Option (Int) := (pred_can.f k (([(⟨a0_0, a0_1⟩ : S23), (⟨a1_0, a1_1⟩ : S23), (⟨a2_0, a2_1⟩ : S23), (⟨a3_0, a3_1⟩ : S23)] : List (S23)))).bind fun t164 => (if t164 = true then ((pred_way.f a3_0 a3_1 a0_0 a0_1).bind fun bt165 => ((pred_way.f a3_0 a3_1 a1_0 a1_1).bind fun bt167 => ((pred_way.f a3_0 a3_1 a2_0 a2_1).bind fun bt169 => ((pred_square.f bt165.1 bt165.2).bind fun bt174 => ((pred_across.f bt167.1 bt167.2 bt169.1 bt169.2).bind fun bt176 => ((quad_Mul.f bt174.1 bt174.2 bt176.1 bt176.2).bind fun bt178 => ((pred_square.f bt167.1 bt167.2).bind fun bt183 => ((pred_across.f bt169.1 bt169.2 bt165.1 bt165.2).bind fun bt185 => ((quad_Mul.f bt183.1 bt183.2 bt185.1 bt185.2).bind fun bt187 => ((quad_Add.f bt178.1 bt178.2.1 bt178.2.2.1 bt178.2.2.2 bt187.1 bt187.2.1 bt187.2.2.1 bt187.2.2.2).bind fun bt191 => ((pred_square.f bt169.1 bt169.2).bind fun bt195 => ((pred_across.f bt165.1 bt165.2 bt167.1 bt167.2).bind fun bt197 => ((quad_Mul.f bt195.1 bt195.2 bt197.1 bt197.2).bind fun bt199 => ((quad_Add.f bt191.1 bt191.2.1 bt191.2.2.1 bt191.2.2.2 bt199.1 bt199.2.1 bt199.2.2.1 bt199.2.2.2).bind fun bt203 => ((quad_Sign.f bt203.1 bt203.2.1 bt203.2.2.1 bt203.2.2.2).bind fun t207 => (some t207)))))))))))))))) else (some 0))
theorem pred_InCircle.mono : ∀ a0 a1 a2 a3 a4 a5 a6 a7 k, LeO (pred_InCircle.f k a0 a1 a2 a3 a4 a5 a6 a7) (pred_InCircle.f (k + 1) a0 a1 a2 a3 a4 a5 a6 a7) := by
 intro a0 a1 a2 a3 a4 a5 a6 a7 k
 unfold pred_InCircle.f
 repeat' first
   | (with_reducible exact pred_can.mono _ _)
   | (with_reducible exact LeO.refl _)
   | (with_reducible exact LeO.none _)
   | (with_reducible refine LeO.ite ?_ ?_)
   | (with_reducible refine LeO.bind ?_ (fun _ => ?_))
   | exact pred_can.mono _ _
   | exact LeO.none _
   | refine LeO.ite ?_ ?_
   | refine LeO.bind ?_ (fun _ => ?_)
def pred_InCircle.T3 : Bool × List (List Nat × List Nat) := (true, [([], []), ([], []), ([0, 1], [0, 1]), ([], []), ([], []), ([3, 4, 2], [3, 4]), ([], []), ([], []), ([6, 7, 5], [6, 7]), ([], []), ([], []), ([], []), ([9, 2, 8, 0, 1, 2, 9, 10, 11], [2, 9]), ([10, 5, 12, 0, 1, 2, 3, 4, 5, 9, 10, 11, 12], [5, 10]), ([11, 8, 13, 0, 1, 2, 3, 4, 5, 6, 7, 8, 9, 10, 11, 12, 13], [8, 11])])
def pred_InCircle.B3 : List Nat := [0, 0, 3, 0, 0, 31, 0, 0, 255, 0, 0, 0, 4095, 8191, 16383]
theorem pred_InCircle.tab3 : rtab .any (opsOf Try.f8 3) = pred_InCircle.T3 := by kernel_rfl
theorem pred_InCircle.bits3 : waitsOk pred_InCircle.T3.2 pred_InCircle.B3 = true := by kernel_rfl
def pred_InCircle.T4 : Bool × List (List Nat × List Nat) := (true, [([], []), ([0], [0]), ([], []), ([], []), ([2, 3, 1], [2, 3]), ([1, 4, 4], [1, 4]), ([], []), ([6, 5, 5, 0, 1, 2, 3, 4, 5, 6], [5, 6])])
def pred_InCircle.B4 : List Nat := [0, 1, 0, 0, 15, 31, 0, 127]
theorem pred_InCircle.tab4 : rtab .any (opsOf Try.f8 4) = pred_InCircle.T4 := by kernel_rfl
theorem pred_InCircle.bits4 : waitsOk pred_InCircle.T4.2 pred_InCircle.B4 = true := by kernel_rfl
def pred_InCircle.T5 : Bool × List (List Nat × List Nat) := (true, [([], []), ([], []), ([1], [1]), ([], []), ([], []), ([3, 4, 2], [3, 4]), ([2, 5, 5], [2, 5]), ([0, 6, 6], [0, 6]), ([7, 7, 0, 1, 2, 3, 4, 5, 6, 7], [7])])
def pred_InCircle.B5 : List Nat := [0, 0, 2, 0, 0, 30, 62, 127, 255]
theorem pred_InCircle.tab5 : rtab .any (opsOf Try.f8 5) = pred_InCircle.T5 := by kernel_rfl
theorem pred_InCircle.bits5 : waitsOk pred_InCircle.T5.2 pred_InCircle.B5 = true := by kernel_rfl
def pred_InCircle.T6 : Bool × List (List Nat × List Nat) := (true, [([], []), ([], []), ([1], [1]), ([], []), ([], []), ([3, 4, 2], [3, 4]), ([2, 5, 5], [2, 5]), ([0, 6, 6], [0, 6]), ([7, 7, 0, 1, 2, 3, 4, 5, 6, 7], [7])])
def pred_InCircle.B6 : List Nat := [0, 0, 2, 0, 0, 30, 62, 127, 255]
theorem pred_InCircle.tab6 : rtab .any (opsOf Try.f8 6) = pred_InCircle.T6 := by kernel_rfl
theorem pred_InCircle.bits6 : waitsOk pred_InCircle.T6.2 pred_InCircle.B6 = true := by kernel_rfl
set_option maxHeartbeats 8000000 in
set_option maxRecDepth 100000 in
theorem pred_InCircle.calls (k : Nat) (a0_0 : Int) (a0_1 : Int) (a1_0 : Int) (a1_1 : Int) (a2_0 : Int) (a2_1 : Int) (a3_0 : Int) (a3_1 : Int) (r : Int) (w : World) (h : pred_InCircle.f k a0_0 a0_1 a1_0 a1_1 a2_0 a2_1 a3_0 a3_1 = some r) :
  Calls Try.prog 8 #[.agg #[.int .i64 a0_0, .int .i64 a0_1], .agg #[.int .i64 a1_0, .int .i64 a1_1], .agg #[.int .i64 a2_0, .int .i64 a2_1], .agg #[.int .i64 a3_0, .int .i64 a3_1]] w fun e w' => e = .returned (.int .i64 r) ∧ Below w.heap.size w w' := by
 have hu23 := Try.underlying23
 have hu50 := Try.underlying50
 have HB := Aside0.mk (Below.refl w.heap.size w)
 have H : ((pred_can.f k (([(⟨a0_0, a0_1⟩ : S23), (⟨a1_0, a1_1⟩ : S23), (⟨a2_0, a2_1⟩ : S23), (⟨a3_0, a3_1⟩ : S23)] : List (S23)))).bind fun t164 => (if t164 = true then ((pred_way.f a3_0 a3_1 a0_0 a0_1).bind fun bt165 => ((pred_way.f a3_0 a3_1 a1_0 a1_1).bind fun bt167 => ((pred_way.f a3_0 a3_1 a2_0 a2_1).bind fun bt169 => ((pred_square.f bt165.1 bt165.2).bind fun bt174 => ((pred_across.f bt167.1 bt167.2 bt169.1 bt169.2).bind fun bt176 => ((quad_Mul.f bt174.1 bt174.2 bt176.1 bt176.2).bind fun bt178 => ((pred_square.f bt167.1 bt167.2).bind fun bt183 => ((pred_across.f bt169.1 bt169.2 bt165.1 bt165.2).bind fun bt185 => ((quad_Mul.f bt183.1 bt183.2 bt185.1 bt185.2).bind fun bt187 => ((quad_Add.f bt178.1 bt178.2.1 bt178.2.2.1 bt178.2.2.2 bt187.1 bt187.2.1 bt187.2.2.1 bt187.2.2.2).bind fun bt191 => ((pred_square.f bt169.1 bt169.2).bind fun bt195 => ((pred_across.f bt165.1 bt165.2 bt167.1 bt167.2).bind fun bt197 => ((quad_Mul.f bt195.1 bt195.2 bt197.1 bt197.2).bind fun bt199 => ((quad_Add.f bt191.1 bt191.2.1 bt191.2.2.1 bt191.2.2.2 bt199.1 bt199.2.1 bt199.2.2.1 bt199.2.2.2).bind fun bt203 => ((quad_Sign.f bt203.1 bt203.2.1 bt203.2.2.1 bt203.2.2.2).bind fun t207 => (some t207)))))))))))))))) else (some 0))) = some r := h
 clear h
 obtain ⟨y161, hy161⟩ : ∃ y_ : List (S23), y_ = (([(⟨a0_0, a0_1⟩ : S23), (⟨a1_0, a1_1⟩ : S23), (⟨a2_0, a2_1⟩ : S23), (⟨a3_0, a3_1⟩ : S23)] : List (S23))) := ⟨_, rfl⟩
 replace H : ((pred_can.f k y161).bind fun t164 => (if t164 = true then ((pred_way.f a3_0 a3_1 a0_0 a0_1).bind fun bt165 => ((pred_way.f a3_0 a3_1 a1_0 a1_1).bind fun bt167 => ((pred_way.f a3_0 a3_1 a2_0 a2_1).bind fun bt169 => ((pred_square.f bt165.1 bt165.2).bind fun bt174 => ((pred_across.f bt167.1 bt167.2 bt169.1 bt169.2).bind fun bt176 => ((quad_Mul.f bt174.1 bt174.2 bt176.1 bt176.2).bind fun bt178 => ((pred_square.f bt167.1 bt167.2).bind fun bt183 => ((pred_across.f bt169.1 bt169.2 bt165.1 bt165.2).bind fun bt185 => ((quad_Mul.f bt183.1 bt183.2 bt185.1 bt185.2).bind fun bt187 => ((quad_Add.f bt178.1 bt178.2.1 bt178.2.2.1 bt178.2.2.2 bt187.1 bt187.2.1 bt187.2.2.1 bt187.2.2.2).bind fun bt191 => ((pred_square.f bt169.1 bt169.2).bind fun bt195 => ((pred_across.f bt165.1 bt165.2 bt167.1 bt167.2).bind fun bt197 => ((quad_Mul.f bt195.1 bt195.2 bt197.1 bt197.2).bind fun bt199 => ((quad_Add.f bt191.1 bt191.2.1 bt191.2.2.1 bt191.2.2.2 bt199.1 bt199.2.1 bt199.2.2.1 bt199.2.2.2).bind fun bt203 => ((quad_Sign.f bt203.1 bt203.2.1 bt203.2.2.1 bt203.2.2.2).bind fun t207 => (some t207)))))))))))))))) else (some 0))) = some r := by first | (rw [hy161]; with_reducible exact H) | (have H2_ := (Option.bind_some _ _).symm.trans H; rw [hy161]; with_reducible exact H2_) | (have H2_ := (Option.bind_some _ _).symm.trans H; with_reducible exact H2_) | with_reducible exact H | (rw [hy161]; exact H) | exact H
 have Ny161 := Aside0.mk hy161
 clear hy161
 replace H := Option.bind_eq_some_iff.mp H
 obtain ⟨t164, A50, H⟩ := H
 replace H : (if t164 = true then ((pred_way.f a3_0 a3_1 a0_0 a0_1).bind fun bt165 => ((pred_way.f a3_0 a3_1 a1_0 a1_1).bind fun bt167 => ((pred_way.f a3_0 a3_1 a2_0 a2_1).bind fun bt169 => ((pred_square.f bt165.1 bt165.2).bind fun bt174 => ((pred_across.f bt167.1 bt167.2 bt169.1 bt169.2).bind fun bt176 => ((quad_Mul.f bt174.1 bt174.2 bt176.1 bt176.2).bind fun bt178 => ((pred_square.f bt167.1 bt167.2).bind fun bt183 => ((pred_across.f bt169.1 bt169.2 bt165.1 bt165.2).bind fun bt185 => ((quad_Mul.f bt183.1 bt183.2 bt185.1 bt185.2).bind fun bt187 => ((quad_Add.f bt178.1 bt178.2.1 bt178.2.2.1 bt178.2.2.2 bt187.1 bt187.2.1 bt187.2.2.1 bt187.2.2.2).bind fun bt191 => ((pred_square.f bt169.1 bt169.2).bind fun bt195 => ((pred_across.f bt165.1 bt165.2 bt167.1 bt167.2).bind fun bt197 => ((quad_Mul.f bt195.1 bt195.2 bt197.1 bt197.2).bind fun bt199 => ((quad_Add.f bt191.1 bt191.2.1 bt191.2.2.1 bt191.2.2.2 bt199.1 bt199.2.1 bt199.2.2.1 bt199.2.2.2).bind fun bt203 => ((quad_Sign.f bt203.1 bt203.2.1 bt203.2.2.1 bt203.2.2.2).bind fun t207 => (some t207)))))))))))))))) else (some 0)) = some r := H
 have A5 := Aside0.mk A50
 clear A50
 by_cases c6 : t164 = true
 ·subst c6
  have H1 : ((pred_way.f a3_0 a3_1 a0_0 a0_1).bind fun bt165 => ((pred_way.f a3_0 a3_1 a1_0 a1_1).bind fun bt167 => ((pred_way.f a3_0 a3_1 a2_0 a2_1).bind fun bt169 => ((pred_square.f bt165.1 bt165.2).bind fun bt174 => ((pred_across.f bt167.1 bt167.2 bt169.1 bt169.2).bind fun bt176 => ((quad_Mul.f bt174.1 bt174.2 bt176.1 bt176.2).bind fun bt178 => ((pred_square.f bt167.1 bt167.2).bind fun bt183 => ((pred_across.f bt169.1 bt169.2 bt165.1 bt165.2).bind fun bt185 => ((quad_Mul.f bt183.1 bt183.2 bt185.1 bt185.2).bind fun bt187 => ((quad_Add.f bt178.1 bt178.2.1 bt178.2.2.1 bt178.2.2.2 bt187.1 bt187.2.1 bt187.2.2.1 bt187.2.2.2).bind fun bt191 => ((pred_square.f bt169.1 bt169.2).bind fun bt195 => ((pred_across.f bt165.1 bt165.2 bt167.1 bt167.2).bind fun bt197 => ((quad_Mul.f bt195.1 bt195.2 bt197.1 bt197.2).bind fun bt199 => ((quad_Add.f bt191.1 bt191.2.1 bt191.2.2.1 bt191.2.2.2 bt199.1 bt199.2.1 bt199.2.2.1 bt199.2.2.2).bind fun bt203 => ((quad_Sign.f bt203.1 bt203.2.1 bt203.2.2.1 bt203.2.2.2).bind fun t207 => (some t207)))))))))))))))) = some r := by rw [if_pos rfl] at H; exact H
  clear H
  have H := H1
  clear H1
  replace H := Option.bind_eq_some_iff.mp H
  obtain ⟨⟨t165, t166⟩, A70, H⟩ := H
  replace H : ((pred_way.f a3_0 a3_1 a1_0 a1_1).bind fun bt167 => ((pred_way.f a3_0 a3_1 a2_0 a2_1).bind fun bt169 => ((pred_square.f t165 t166).bind fun bt174 => ((pred_across.f bt167.1 bt167.2 bt169.1 bt169.2).bind fun bt176 => ((quad_Mul.f bt174.1 bt174.2 bt176.1 bt176.2).bind fun bt178 => ((pred_square.f bt167.1 bt167.2).bind fun bt183 => ((pred_across.f bt169.1 bt169.2 t165 t166).bind fun bt185 => ((quad_Mul.f bt183.1 bt183.2 bt185.1 bt185.2).bind fun bt187 => ((quad_Add.f bt178.1 bt178.2.1 bt178.2.2.1 bt178.2.2.2 bt187.1 bt187.2.1 bt187.2.2.1 bt187.2.2.2).bind fun bt191 => ((pred_square.f bt169.1 bt169.2).bind fun bt195 => ((pred_across.f t165 t166 bt167.1 bt167.2).bind fun bt197 => ((quad_Mul.f bt195.1 bt195.2 bt197.1 bt197.2).bind fun bt199 => ((quad_Add.f bt191.1 bt191.2.1 bt191.2.2.1 bt191.2.2.2 bt199.1 bt199.2.1 bt199.2.2.1 bt199.2.2.2).bind fun bt203 => ((quad_Sign.f bt203.1 bt203.2.1 bt203.2.2.1 bt203.2.2.2).bind fun t207 => (some t207))))))))))))))) = some r := H
  have A7 := Aside0.mk A70
  clear A70
  replace H := Option.bind_eq_some_iff.mp H
  obtain ⟨⟨t167, t168⟩, A80, H⟩ := H
  replace H : ((pred_way.f a3_0 a3_1 a2_0 a2_1).bind fun bt169 => ((pred_square.f t165 t166).bind fun bt174 => ((pred_across.f t167 t168 bt169.1 bt169.2).bind fun bt176 => ((quad_Mul.f bt174.1 bt174.2 bt176.1 bt176.2).bind fun bt178 => ((pred_square.f t167 t168).bind fun bt183 => ((pred_across.f bt169.1 bt169.2 t165 t166).bind fun bt185 => ((quad_Mul.f bt183.1 bt183.2 bt185.1 bt185.2).bind fun bt187 => ((quad_Add.f bt178.1 bt178.2.1 bt178.2.2.1 bt178.2.2.2 bt187.1 bt187.2.1 bt187.2.2.1 bt187.2.2.2).bind fun bt191 => ((pred_square.f bt169.1 bt169.2).bind fun bt195 => ((pred_across.f t165 t166 t167 t168).bind fun bt197 => ((quad_Mul.f bt195.1 bt195.2 bt197.1 bt197.2).bind fun bt199 => ((quad_Add.f bt191.1 bt191.2.1 bt191.2.2.1 bt191.2.2.2 bt199.1 bt199.2.1 bt199.2.2.1 bt199.2.2.2).bind fun bt203 => ((quad_Sign.f bt203.1 bt203.2.1 bt203.2.2.1 bt203.2.2.2).bind fun t207 => (some t207)))))))))))))) = some r := H
  have A8 := Aside0.mk A80
  clear A80
  replace H := Option.bind_eq_some_iff.mp H
  obtain ⟨⟨t169, t170⟩, A90, H⟩ := H
  replace H : ((pred_square.f t165 t166).bind fun bt174 => ((pred_across.f t167 t168 t169 t170).bind fun bt176 => ((quad_Mul.f bt174.1 bt174.2 bt176.1 bt176.2).bind fun bt178 => ((pred_square.f t167 t168).bind fun bt183 => ((pred_across.f t169 t170 t165 t166).bind fun bt185 => ((quad_Mul.f bt183.1 bt183.2 bt185.1 bt185.2).bind fun bt187 => ((quad_Add.f bt178.1 bt178.2.1 bt178.2.2.1 bt178.2.2.2 bt187.1 bt187.2.1 bt187.2.2.1 bt187.2.2.2).bind fun bt191 => ((pred_square.f t169 t170).bind fun bt195 => ((pred_across.f t165 t166 t167 t168).bind fun bt197 => ((quad_Mul.f bt195.1 bt195.2 bt197.1 bt197.2).bind fun bt199 => ((quad_Add.f bt191.1 bt191.2.1 bt191.2.2.1 bt191.2.2.2 bt199.1 bt199.2.1 bt199.2.2.1 bt199.2.2.2).bind fun bt203 => ((quad_Sign.f bt203.1 bt203.2.1 bt203.2.2.1 bt203.2.2.2).bind fun t207 => (some t207))))))))))))) = some r := H
  have A9 := Aside0.mk A90
  clear A90
  replace H := Option.bind_eq_some_iff.mp H
  obtain ⟨⟨t174, t175⟩, A100, H⟩ := H
  replace H : ((pred_across.f t167 t168 t169 t170).bind fun bt176 => ((quad_Mul.f t174 t175 bt176.1 bt176.2).bind fun bt178 => ((pred_square.f t167 t168).bind fun bt183 => ((pred_across.f t169 t170 t165 t166).bind fun bt185 => ((quad_Mul.f bt183.1 bt183.2 bt185.1 bt185.2).bind fun bt187 => ((quad_Add.f bt178.1 bt178.2.1 bt178.2.2.1 bt178.2.2.2 bt187.1 bt187.2.1 bt187.2.2.1 bt187.2.2.2).bind fun bt191 => ((pred_square.f t169 t170).bind fun bt195 => ((pred_across.f t165 t166 t167 t168).bind fun bt197 => ((quad_Mul.f bt195.1 bt195.2 bt197.1 bt197.2).bind fun bt199 => ((quad_Add.f bt191.1 bt191.2.1 bt191.2.2.1 bt191.2.2.2 bt199.1 bt199.2.1 bt199.2.2.1 bt199.2.2.2).bind fun bt203 => ((quad_Sign.f bt203.1 bt203.2.1 bt203.2.2.1 bt203.2.2.2).bind fun t207 => (some t207)))))))))))) = some r := H
  have A10 := Aside0.mk A100
  clear A100
  replace H := Option.bind_eq_some_iff.mp H
  obtain ⟨⟨t176, t177⟩, A110, H⟩ := H
  replace H : ((quad_Mul.f t174 t175 t176 t177).bind fun bt178 => ((pred_square.f t167 t168).bind fun bt183 => ((pred_across.f t169 t170 t165 t166).bind fun bt185 => ((quad_Mul.f bt183.1 bt183.2 bt185.1 bt185.2).bind fun bt187 => ((quad_Add.f bt178.1 bt178.2.1 bt178.2.2.1 bt178.2.2.2 bt187.1 bt187.2.1 bt187.2.2.1 bt187.2.2.2).bind fun bt191 => ((pred_square.f t169 t170).bind fun bt195 => ((pred_across.f t165 t166 t167 t168).bind fun bt197 => ((quad_Mul.f bt195.1 bt195.2 bt197.1 bt197.2).bind fun bt199 => ((quad_Add.f bt191.1 bt191.2.1 bt191.2.2.1 bt191.2.2.2 bt199.1 bt199.2.1 bt199.2.2.1 bt199.2.2.2).bind fun bt203 => ((quad_Sign.f bt203.1 bt203.2.1 bt203.2.2.1 bt203.2.2.2).bind fun t207 => (some t207))))))))))) = some r := H
  have A11 := Aside0.mk A110
  clear A110
  replace H := Option.bind_eq_some_iff.mp H
  obtain ⟨⟨t178, t179, t180, t181⟩, A120, H⟩ := H
  replace H : ((pred_square.f t167 t168).bind fun bt183 => ((pred_across.f t169 t170 t165 t166).bind fun bt185 => ((quad_Mul.f bt183.1 bt183.2 bt185.1 bt185.2).bind fun bt187 => ((quad_Add.f t178 t179 t180 t181 bt187.1 bt187.2.1 bt187.2.2.1 bt187.2.2.2).bind fun bt191 => ((pred_square.f t169 t170).bind fun bt195 => ((pred_across.f t165 t166 t167 t168).bind fun bt197 => ((quad_Mul.f bt195.1 bt195.2 bt197.1 bt197.2).bind fun bt199 => ((quad_Add.f bt191.1 bt191.2.1 bt191.2.2.1 bt191.2.2.2 bt199.1 bt199.2.1 bt199.2.2.1 bt199.2.2.2).bind fun bt203 => ((quad_Sign.f bt203.1 bt203.2.1 bt203.2.2.1 bt203.2.2.2).bind fun t207 => (some t207)))))))))) = some r := H
  have A12 := Aside0.mk A120
  clear A120
  replace H := Option.bind_eq_some_iff.mp H
  obtain ⟨⟨t183, t184⟩, A130, H⟩ := H
  replace H : ((pred_across.f t169 t170 t165 t166).bind fun bt185 => ((quad_Mul.f t183 t184 bt185.1 bt185.2).bind fun bt187 => ((quad_Add.f t178 t179 t180 t181 bt187.1 bt187.2.1 bt187.2.2.1 bt187.2.2.2).bind fun bt191 => ((pred_square.f t169 t170).bind fun bt195 => ((pred_across.f t165 t166 t167 t168).bind fun bt197 => ((quad_Mul.f bt195.1 bt195.2 bt197.1 bt197.2).bind fun bt199 => ((quad_Add.f bt191.1 bt191.2.1 bt191.2.2.1 bt191.2.2.2 bt199.1 bt199.2.1 bt199.2.2.1 bt199.2.2.2).bind fun bt203 => ((quad_Sign.f bt203.1 bt203.2.1 bt203.2.2.1 bt203.2.2.2).bind fun t207 => (some t207))))))))) = some r := H
  have A13 := Aside0.mk A130
  clear A130
  replace H := Option.bind_eq_some_iff.mp H
  obtain ⟨⟨t185, t186⟩, A140, H⟩ := H
  replace H : ((quad_Mul.f t183 t184 t185 t186).bind fun bt187 => ((quad_Add.f t178 t179 t180 t181 bt187.1 bt187.2.1 bt187.2.2.1 bt187.2.2.2).bind fun bt191 => ((pred_square.f t169 t170).bind fun bt195 => ((pred_across.f t165 t166 t167 t168).bind fun bt197 => ((quad_Mul.f bt195.1 bt195.2 bt197.1 bt197.2).bind fun bt199 => ((quad_Add.f bt191.1 bt191.2.1 bt191.2.2.1 bt191.2.2.2 bt199.1 bt199.2.1 bt199.2.2.1 bt199.2.2.2).bind fun bt203 => ((quad_Sign.f bt203.1 bt203.2.1 bt203.2.2.1 bt203.2.2.2).bind fun t207 => (some t207)))))))) = some r := H
  have A14 := Aside0.mk A140
  clear A140
  replace H := Option.bind_eq_some_iff.mp H
  obtain ⟨⟨t187, t188, t189, t190⟩, A150, H⟩ := H
  replace H : ((quad_Add.f t178 t179 t180 t181 t187 t188 t189 t190).bind fun bt191 => ((pred_square.f t169 t170).bind fun bt195 => ((pred_across.f t165 t166 t167 t168).bind fun bt197 => ((quad_Mul.f bt195.1 bt195.2 bt197.1 bt197.2).bind fun bt199 => ((quad_Add.f bt191.1 bt191.2.1 bt191.2.2.1 bt191.2.2.2 bt199.1 bt199.2.1 bt199.2.2.1 bt199.2.2.2).bind fun bt203 => ((quad_Sign.f bt203.1 bt203.2.1 bt203.2.2.1 bt203.2.2.2).bind fun t207 => (some t207))))))) = some r := H
  have A15 := Aside0.mk A150
  clear A150
  replace H := Option.bind_eq_some_iff.mp H
  obtain ⟨⟨t191, t192, t193, t194⟩, A160, H⟩ := H
  replace H : ((pred_square.f t169 t170).bind fun bt195 => ((pred_across.f t165 t166 t167 t168).bind fun bt197 => ((quad_Mul.f bt195.1 bt195.2 bt197.1 bt197.2).bind fun bt199 => ((quad_Add.f t191 t192 t193 t194 bt199.1 bt199.2.1 bt199.2.2.1 bt199.2.2.2).bind fun bt203 => ((quad_Sign.f bt203.1 bt203.2.1 bt203.2.2.1 bt203.2.2.2).bind fun t207 => (some t207)))))) = some r := H
  have A16 := Aside0.mk A160
  clear A160
  replace H := Option.bind_eq_some_iff.mp H
  obtain ⟨⟨t195, t196⟩, A170, H⟩ := H
  replace H : ((pred_across.f t165 t166 t167 t168).bind fun bt197 => ((quad_Mul.f t195 t196 bt197.1 bt197.2).bind fun bt199 => ((quad_Add.f t191 t192 t193 t194 bt199.1 bt199.2.1 bt199.2.2.1 bt199.2.2.2).bind fun bt203 => ((quad_Sign.f bt203.1 bt203.2.1 bt203.2.2.1 bt203.2.2.2).bind fun t207 => (some t207))))) = some r := H
  have A17 := Aside0.mk A170
  clear A170
  replace H := Option.bind_eq_some_iff.mp H
  obtain ⟨⟨t197, t198⟩, A180, H⟩ := H
  replace H : ((quad_Mul.f t195 t196 t197 t198).bind fun bt199 => ((quad_Add.f t191 t192 t193 t194 bt199.1 bt199.2.1 bt199.2.2.1 bt199.2.2.2).bind fun bt203 => ((quad_Sign.f bt203.1 bt203.2.1 bt203.2.2.1 bt203.2.2.2).bind fun t207 => (some t207)))) = some r := H
  have A18 := Aside0.mk A180
  clear A180
  replace H := Option.bind_eq_some_iff.mp H
  obtain ⟨⟨t199, t200, t201, t202⟩, A190, H⟩ := H
  replace H : ((quad_Add.f t191 t192 t193 t194 t199 t200 t201 t202).bind fun bt203 => ((quad_Sign.f bt203.1 bt203.2.1 bt203.2.2.1 bt203.2.2.2).bind fun t207 => (some t207))) = some r := H
  have A19 := Aside0.mk A190
  clear A190
  replace H := Option.bind_eq_some_iff.mp H
  obtain ⟨⟨t203, t204, t205, t206⟩, A200, H⟩ := H
  replace H : ((quad_Sign.f t203 t204 t205 t206).bind fun t207 => (some t207)) = some r := H
  have A20 := Aside0.mk A200
  clear A200
  replace H := Option.bind_eq_some_iff.mp H
  obtain ⟨t207, A210, H⟩ := H
  replace H : (some t207) = some r := H
  have A21 := Aside0.mk A210
  clear A210
  obtain rfl := Option.some.inj H
  go_enter Try.func8, Try.ntmps8
  try go_wp2_with (first | ((with_reducible refine gate_dst (N := 4) rfl ?_); refine box_event ?hg (N := 4) ?hd (cs := #[.int .i64 a0_0, .int .i64 a0_1]) (t := 23) ?hr ?_; (case hd => rfl); (case hg => rfl); (case hr => first | (go_simp; done) | (go_simp; rfl)); intro gb157 hg w22 hbox hb; have BK157 := Aside0.mk hbox; have GW157 := u3 hg HB; have GE157 := u3 hg HB; replace HB := u2 HB hb; clear hb hbox hg) | ((with_reducible refine gate_dst (N := 5) rfl ?_); refine box_event ?hg (N := 5) ?hd (cs := #[.int .i64 a1_0, .int .i64 a1_1]) (t := 23) ?hr ?_; (case hd => rfl); (case hg => rfl); (case hr => first | (go_simp; done) | (go_simp; rfl)); intro gb158 hg w23 hbox hb; have BK158 := Aside0.mk hbox; have GW158 := u3 hg HB; have GE158 := u3 hg HB; have NB157_158 := u4 hg BK157; have NB158_157 := u5 hg BK157; replace BK157 := u1 BK157 hb; replace HB := u2 HB hb; clear hb hbox hg) | ((with_reducible refine gate_dst (N := 6) rfl ?_); refine box_event ?hg (N := 6) ?hd (cs := #[.int .i64 a2_0, .int .i64 a2_1]) (t := 23) ?hr ?_; (case hd => rfl); (case hg => rfl); (case hr => first | (go_simp; done) | (go_simp; rfl)); intro gb159 hg w24 hbox hb; have BK159 := Aside0.mk hbox; have GW159 := u3 hg HB; have GE159 := u3 hg HB; have NB157_159 := u4 hg BK157; have NB159_157 := u5 hg BK157; have NB158_159 := u4 hg BK158; have NB159_158 := u5 hg BK158; replace BK157 := u1 BK157 hb; replace BK158 := u1 BK158 hb; replace HB := u2 HB hb; clear hb hbox hg) | ((with_reducible refine gate_dst (N := 7) rfl ?_); refine box_event ?hg (N := 7) ?hd (cs := #[.int .i64 a3_0, .int .i64 a3_1]) (t := 23) ?hr ?_; (case hd => rfl); (case hg => rfl); (case hr => first | (go_simp; done) | (go_simp; rfl)); intro gb160 hg w25 hbox hb; have BK160 := Aside0.mk hbox; have GW160 := u3 hg HB; have GE160 := u3 hg HB; have NB157_160 := u4 hg BK157; have NB160_157 := u5 hg BK157; have NB158_160 := u4 hg BK158; have NB160_158 := u5 hg BK158; have NB159_160 := u4 hg BK159; have NB160_159 := u5 hg BK159; replace BK157 := u1 BK157 hb; replace BK158 := u1 BK158 hb; replace BK159 := u1 BK159 hb; replace HB := u2 HB hb; clear hb hbox hg; have hnb26 := NB157_158.out; have hnc26 := NB158_157.out; have hnb27 := NB157_159.out; have hnc27 := NB159_157.out; have hnb28 := NB157_160.out; have hnc28 := NB160_157.out; obtain ⟨_, _, _, _⟩ := p2 BK157; have hnb30 := NB158_159.out; have hnc30 := NB159_158.out; have hnb31 := NB158_160.out; have hnc31 := NB160_158.out; obtain ⟨_, _, _, _⟩ := p2 BK158; have hnb33 := NB159_160.out; have hnc33 := NB160_159.out; obtain ⟨_, _, _, _⟩ := p2 BK159; obtain ⟨_, _, _, _⟩ := p2 BK160) | ((with_reducible refine gate_dst (N := 17) rfl ?_); refine Kd.R_lit k23 _ 23 ?hg (N := 17) ?hd (xs := ([(⟨a0_0, a0_1⟩ : S23), (⟨a1_0, a1_1⟩ : S23), (⟨a2_0, a2_1⟩ : S23), (⟨a3_0, a3_1⟩ : S23)] : List (S23))) (inner := [.int .i64 a0_0, .int .i64 a0_1, .int .i64 a1_0, .int .i64 a1_1, .int .i64 a2_0, .int .i64 a2_1, .int .i64 a3_0, .int .i64 a3_1]) (ok := fun _ => True) (okp := fun _ => True) ?hr ?hp (fun _ hk => hk) trivial (Below.refl _ _) (Nat.le_refl _) (by simp) ?_; (case hd => rfl); (case hg => rfl); (case hr => first | (go_simp; done) | (go_simp; rfl)); (case hp => exact (Reps.c2 (show Kd.M k23 _ _ _ (⟨a0_0, a0_1⟩ : S23) [.int .i64 a0_0, .int .i64 a0_1] from (k23_mkM _ _ _ (⟨a0_0, a0_1⟩ : S23) )) (Reps.c2 (show Kd.M k23 _ _ _ (⟨a1_0, a1_1⟩ : S23) [.int .i64 a1_0, .int .i64 a1_1] from (k23_mkM _ _ _ (⟨a1_0, a1_1⟩ : S23) )) (Reps.c2 (show Kd.M k23 _ _ _ (⟨a2_0, a2_1⟩ : S23) [.int .i64 a2_0, .int .i64 a2_1] from (k23_mkM _ _ _ (⟨a2_0, a2_1⟩ : S23) )) (Reps.c2 (show Kd.M k23 _ _ _ (⟨a3_0, a3_1⟩ : S23) [.int .i64 a3_0, .int .i64 a3_1] from (k23_mkM _ _ _ (⟨a3_0, a3_1⟩ : S23) )) (Reps.none _ _)))))); intro v162 w36 ho37 hb hg_ hnew_; clear hg_ hnew_; (first | rw [← Ny161.out] at ho37 | (simp only [Int.reduceToNat] at ho37; rw [← Ny161.out] at ho37)); have n0_ := Aside0.mk (Kd.R_lower (Kd.R_newB (Kd.R_newB (Kd.R_newB (Kd.R_newB ho37 (bk BK157.out)) (bk BK158.out)) (bk BK159.out)) (bk BK160.out)) (below_size (bw HB.out))); have n1_ := u1 BK157 hb; have n2_ := u1 BK158 hb; have n3_ := u1 BK159 hb; have n4_ := u1 BK160 hb; have n5_ := u2 HB hb; clear BK157; clear BK158; clear BK159; clear BK160; clear HB; have HO163 := n0_; have BK157 := n1_; have BK158 := n2_; have BK159 := n3_; have BK160 := n4_; have HB := n5_; clear n0_ n1_ n2_ n3_ n4_ n5_; clear hb ho37; obtain ⟨Ao38, co38, eo38⟩ := Kd.R_slice HO163.out; subst eo38) | ((with_reducible refine gate_callee (f := 23) rfl ?_); refine goesL_ (some 18) rfl rfl Try.func23 (by kernel_rfl) rfl #[.slice Ao38 y161.length co38] rfl (by (try simp only [List.map_toArray, List.map_cons, List.map_nil]); first | done | rfl | (simp only [List.length_drop, List.length_take]; rfl)) ?_; (with_reducible refine (pred_can.calls k _ _ y161 true _ ?side1 ?side2 A5.out).mono ?_); (case side1 => repeat (first | exact (Kd.R_reads' HO163.out).2.2 | (with_reducible refine Kd.C_alloc ?_ _) | (with_reducible refine Kd.C_drewN ?_ _) | (with_reducible refine Kd.C_drew ?_))); (case side2 => exact (Kd.R_reads' HO163.out).2.1); rintro e w39 ⟨rfl, hb⟩; refine ⟨_, rfl, ?_⟩; have n0_ := Aside0.mk (Kd.R_below (by (with_reducible repeat (first | apply Kd.R_alloc | apply Kd.R_drewN | apply Kd.R_drew)); exact HO163.out) hb); have n1_ := u1 BK157 hb; have n2_ := u1 BK158 hb; have n3_ := u1 BK159 hb; have n4_ := u1 BK160 hb; have n5_ := u2 HB hb; clear HO163; clear BK157; clear BK158; clear BK159; clear BK160; clear HB; have HO163 := n0_; have BK157 := n1_; have BK158 := n2_; have BK159 := n3_; have BK160 := n4_; have HB := n5_; clear n0_ n1_ n2_ n3_ n4_ n5_; clear hb))
  have n0_ := Aside0.mk (blk_drew BK157.out)
  have n1_ := Aside0.mk (blk_drew BK158.out)
  have n2_ := Aside0.mk (blk_drew BK159.out)
  have n3_ := Aside0.mk (blk_drew BK160.out)
  have n4_ := Aside0.mk (below_drew1 HB.out)
  clear BK157
  clear BK158
  clear BK159
  clear BK160
  clear HB
  have BK157 := n0_
  have BK158 := n1_
  have BK159 := n2_
  have BK160 := n3_
  have HB := n4_
  clear n0_ n1_ n2_ n3_ n4_
  refine start_ (n := 15) (S := fun w' => True) (ds := []) #[false, false, false, false, false, false, false, false, false, false, false, false, false, false, false] (by kernel_rfl) rfl rfl trivial (fun hHeld => ?_); refine with_tabW pred_InCircle.tab3 pred_InCircle.bits3 (fun HT_ HW_ => ?_)
  generalize w39.drew = w40 at BK157 BK158 BK159 BK160 HB hHeld ⊢
  refine inv_at [0, 1, 2, 3, 4, 5, 6, 7, 8, 9, 10, 11, 12, 13, 14] (fun a0_ b a w' => ∃ (gb171 : Nat) (gb172 : Nat) (gb173 : Nat) (m9_ : Value) (m10_ : Value) (m11_ : Value), a = putSel a0_ b [(0, 20, .agg #[.int .i64 a3_0, .int .i64 a3_1]), (1, 21, .agg #[.int .i64 a0_0, .int .i64 a0_1]), (2, 22, .agg #[.int .i64 t165, .int .i64 t166]), (3, 23, .agg #[.int .i64 a3_0, .int .i64 a3_1]), (4, 24, .agg #[.int .i64 a1_0, .int .i64 a1_1]), (5, 25, .agg #[.int .i64 t167, .int .i64 t168]), (6, 26, .agg #[.int .i64 a3_0, .int .i64 a3_1]), (7, 27, .agg #[.int .i64 a2_0, .int .i64 a2_1]), (8, 28, .agg #[.int .i64 t169, .int .i64 t170]), (9, 9, m9_), (10, 10, m10_), (11, 11, m11_)] ∧ (w'.heap[gb157]? = some (.cells #[.int .i64 a0_0, .int .i64 a0_1] 23 (0, 0))) ∧ (w'.heap[gb158]? = some (.cells #[.int .i64 a1_0, .int .i64 a1_1] 23 (0, 0))) ∧ (w'.heap[gb159]? = some (.cells #[.int .i64 a2_0, .int .i64 a2_1] 23 (0, 0))) ∧ (w'.heap[gb160]? = some (.cells #[.int .i64 a3_0, .int .i64 a3_1] 23 (0, 0))) ∧ (Below w.heap.size w w') ∧ (b 9 = true → b 10 = true → gb172 ≠ gb171) ∧ (b 9 = true → b 10 = true → gb171 ≠ gb172) ∧ (b 9 = true → b 11 = true → gb173 ≠ gb171) ∧ (b 9 = true → b 11 = true → gb171 ≠ gb173) ∧ (b 10 = true → b 11 = true → gb173 ≠ gb172) ∧ (b 10 = true → b 11 = true → gb172 ≠ gb173) ∧ (b 9 = true → b 12 = false → w'.heap[gb171]? = some (.cells #[.int .i64 0, .int .i64 0] 23 (0, 0))) ∧ (b 9 = true → w.heap.size ≤ gb171) ∧ (b 9 = true → w.heap.size ≤ gb171) ∧ (b 9 = true → gb157 ≠ gb171) ∧ (b 9 = true → gb171 ≠ gb157) ∧ (b 9 = true → gb158 ≠ gb171) ∧ (b 9 = true → gb171 ≠ gb158) ∧ (b 9 = true → gb159 ≠ gb171) ∧ (b 9 = true → gb171 ≠ gb159) ∧ (b 9 = true → gb160 ≠ gb171) ∧ (b 9 = true → gb171 ≠ gb160) ∧ (b 10 = true → b 13 = false → w'.heap[gb172]? = some (.cells #[.int .i64 0, .int .i64 0] 23 (0, 0))) ∧ (b 10 = true → w.heap.size ≤ gb172) ∧ (b 10 = true → w.heap.size ≤ gb172) ∧ (b 10 = true → gb157 ≠ gb172) ∧ (b 10 = true → gb172 ≠ gb157) ∧ (b 10 = true → gb158 ≠ gb172) ∧ (b 10 = true → gb172 ≠ gb158) ∧ (b 10 = true → gb159 ≠ gb172) ∧ (b 10 = true → gb172 ≠ gb159) ∧ (b 10 = true → gb160 ≠ gb172) ∧ (b 10 = true → gb172 ≠ gb160) ∧ (b 11 = true → b 14 = false → w'.heap[gb173]? = some (.cells #[.int .i64 0, .int .i64 0] 23 (0, 0))) ∧ (b 11 = true → w.heap.size ≤ gb173) ∧ (b 11 = true → w.heap.size ≤ gb173) ∧ (b 11 = true → gb157 ≠ gb173) ∧ (b 11 = true → gb173 ≠ gb157) ∧ (b 11 = true → gb158 ≠ gb173) ∧ (b 11 = true → gb173 ≠ gb158) ∧ (b 11 = true → gb159 ≠ gb173) ∧ (b 11 = true → gb173 ≠ gb159) ∧ (b 11 = true → gb160 ≠ gb173) ∧ (b 11 = true → gb173 ≠ gb160) ∧ (b 12 = true → w'.heap[gb171]? = some (.cells #[.int .i64 t165, .int .i64 t166] 23 (0, 0))) ∧ (b 13 = true → w'.heap[gb172]? = some (.cells #[.int .i64 t167, .int .i64 t168] 23 (0, 0))) ∧ (b 14 = true → w'.heap[gb173]? = some (.cells #[.int .i64 t169, .int .i64 t170] 23 (0, 0))) ∧ (b 9 = true → (m9_ : Value) = .pointer (some ⟨gb171, 0, none⟩)) ∧ (b 10 = true → (m10_ : Value) = .pointer (some ⟨gb172, 0, none⟩)) ∧ (b 11 = true → (m11_ : Value) = .pointer (some ⟨gb173, 0, none⟩))) HT_.out HW_.out (by kernel_rfl) (by kernel_rfl) ?_ ?_ ?_
  ·exact ⟨0, 0, 0, .bool false, .bool false, .bool false, by simp only [putSel, Bool.false_eq_true, if_false], BK157.out, BK158.out, BK159.out, BK160.out, HB.out, fun h_ => absurd h_ (by decide), fun h_ => absurd h_ (by decide), fun h_ => absurd h_ (by decide), fun h_ => absurd h_ (by decide), fun h_ => absurd h_ (by decide), fun h_ => absurd h_ (by decide), fun h_ => absurd h_ (by decide), fun h_ => absurd h_ (by decide), fun h_ => absurd h_ (by decide), fun h_ => absurd h_ (by decide), fun h_ => absurd h_ (by decide), fun h_ => absurd h_ (by decide), fun h_ => absurd h_ (by decide), fun h_ => absurd h_ (by decide), fun h_ => absurd h_ (by decide), fun h_ => absurd h_ (by decide), fun h_ => absurd h_ (by decide), fun h_ => absurd h_ (by decide), fun h_ => absurd h_ (by decide), fun h_ => absurd h_ (by decide), fun h_ => absurd h_ (by decide), fun h_ => absurd h_ (by decide), fun h_ => absurd h_ (by decide), fun h_ => absurd h_ (by decide), fun h_ => absurd h_ (by decide), fun h_ => absurd h_ (by decide), fun h_ => absurd h_ (by decide), fun h_ => absurd h_ (by decide), fun h_ => absurd h_ (by decide), fun h_ => absurd h_ (by decide), fun h_ => absurd h_ (by decide), fun h_ => absurd h_ (by decide), fun h_ => absurd h_ (by decide), fun h_ => absurd h_ (by decide), fun h_ => absurd h_ (by decide), fun h_ => absurd h_ (by decide), fun h_ => absurd h_ (by decide), fun h_ => absurd h_ (by decide), fun h_ => absurd h_ (by decide), fun h_ => absurd h_ (by decide), fun h_ => absurd h_ (by decide), fun h_ => absurd h_ (by decide), fun h_ => absurd h_ (by decide), fun h_ => absurd h_ (by decide), fun h_ => absurd h_ (by decide)⟩
  ·skip
   clear BK157 BK158 BK159 BK160 HB
   refine steps_cons ?_ ?_
   ·rintro b a w' ⟨gb171, gb172, gb173, m9_, m10_, m11_, ha, Q_BK157, Q_BK158, Q_BK159, Q_BK160, Q_HB, Q_NB172_171, Q_NB171_172, Q_NB173_171, Q_NB171_173, Q_NB173_172, Q_NB172_173, Q_BK171, Q_GW171, Q_GE171, Q_NB157_171, Q_NB171_157, Q_NB158_171, Q_NB171_158, Q_NB159_171, Q_NB171_159, Q_NB160_171, Q_NB171_160, Q_BK172, Q_GW172, Q_GE172, Q_NB157_172, Q_NB172_157, Q_NB158_172, Q_NB172_158, Q_NB159_172, Q_NB172_159, Q_NB160_172, Q_NB172_160, Q_BK173, Q_GW173, Q_GE173, Q_NB157_173, Q_NB173_157, Q_NB158_173, Q_NB173_158, Q_NB159_173, Q_NB173_159, Q_NB160_173, Q_NB173_160, Q_BK171_e12, Q_BK172_e13, Q_BK173_e14, Q_X9_, Q_X10_, Q_X11_⟩ hb_ hon hoff
    refine ⟨_, rfl, fun K hK => ?_⟩
    have e7 : a.tmps[7]? = some (.pointer (some ⟨gb160, 0, none⟩)) := by rw [ha]; exact (putSel_off rfl).trans rfl
    replace ha := Aside0.mk ha
    have BK157 := Aside0.mk Q_BK157
    have BK158 := Aside0.mk Q_BK158
    have BK159 := Aside0.mk Q_BK159
    have BK160 := Aside0.mk Q_BK160
    have HB := Aside0.mk Q_HB
    have hc0_ : w'.cell? ⟨gb160, 0, none⟩ = some (.int .i64 a3_0) := (blk_cell BK160.out 0).trans rfl
    have hc1_ : w'.cell? ⟨gb160, 1, none⟩ = some (.int .i64 a3_1) := (blk_cell BK160.out 1).trans rfl
    refine value_ (w1 := w') (v := .agg #[.int .i64 a3_0, .int .i64 a3_1]) (by rfl) rfl ?_ ?_
    ·go_simp
     (try simp only [i64_w])
     try rfl
    refine hK.out _ _ ⟨gb171, gb172, gb173, m9_, m10_, m11_, (by rw [ha.out]; exact putSel_upk 0 hb_ rfl rfl rfl), Q_BK157, Q_BK158, Q_BK159, Q_BK160, Q_HB, Q_NB172_171, Q_NB171_172, Q_NB173_171, Q_NB171_173, Q_NB173_172, Q_NB172_173, Q_BK171, Q_GW171, Q_GE171, Q_NB157_171, Q_NB171_157, Q_NB158_171, Q_NB171_158, Q_NB159_171, Q_NB171_159, Q_NB160_171, Q_NB171_160, Q_BK172, Q_GW172, Q_GE172, Q_NB157_172, Q_NB172_157, Q_NB158_172, Q_NB172_158, Q_NB159_172, Q_NB172_159, Q_NB160_172, Q_NB172_160, Q_BK173, Q_GW173, Q_GE173, Q_NB157_173, Q_NB173_157, Q_NB158_173, Q_NB173_158, Q_NB159_173, Q_NB173_159, Q_NB160_173, Q_NB173_160, fun h0_ => absurd ((hoff 12 (by kernel_rfl)).symm.trans h0_) (by decide), fun h0_ => absurd ((hoff 13 (by kernel_rfl)).symm.trans h0_) (by decide), fun h0_ => absurd ((hoff 14 (by kernel_rfl)).symm.trans h0_) (by decide), Q_X9_, Q_X10_, Q_X11_⟩
   refine steps_cons ?_ ?_
   ·rintro b a w' ⟨gb171, gb172, gb173, m9_, m10_, m11_, ha, Q_BK157, Q_BK158, Q_BK159, Q_BK160, Q_HB, Q_NB172_171, Q_NB171_172, Q_NB173_171, Q_NB171_173, Q_NB173_172, Q_NB172_173, Q_BK171, Q_GW171, Q_GE171, Q_NB157_171, Q_NB171_157, Q_NB158_171, Q_NB171_158, Q_NB159_171, Q_NB171_159, Q_NB160_171, Q_NB171_160, Q_BK172, Q_GW172, Q_GE172, Q_NB157_172, Q_NB172_157, Q_NB158_172, Q_NB172_158, Q_NB159_172, Q_NB172_159, Q_NB160_172, Q_NB172_160, Q_BK173, Q_GW173, Q_GE173, Q_NB157_173, Q_NB173_157, Q_NB158_173, Q_NB173_158, Q_NB159_173, Q_NB173_159, Q_NB160_173, Q_NB173_160, Q_BK171_e12, Q_BK172_e13, Q_BK173_e14, Q_X9_, Q_X10_, Q_X11_⟩ hb_ hon hoff
    refine ⟨_, rfl, fun K hK => ?_⟩
    have e4 : a.tmps[4]? = some (.pointer (some ⟨gb157, 0, none⟩)) := by rw [ha]; exact (putSel_off rfl).trans rfl
    replace ha := Aside0.mk ha
    have BK157 := Aside0.mk Q_BK157
    have BK158 := Aside0.mk Q_BK158
    have BK159 := Aside0.mk Q_BK159
    have BK160 := Aside0.mk Q_BK160
    have HB := Aside0.mk Q_HB
    have hc0_ : w'.cell? ⟨gb157, 0, none⟩ = some (.int .i64 a0_0) := (blk_cell BK157.out 0).trans rfl
    have hc1_ : w'.cell? ⟨gb157, 1, none⟩ = some (.int .i64 a0_1) := (blk_cell BK157.out 1).trans rfl
    refine value_ (w1 := w') (v := .agg #[.int .i64 a0_0, .int .i64 a0_1]) (by rfl) rfl ?_ ?_
    ·go_simp
     (try simp only [i64_w])
     try rfl
    refine hK.out _ _ ⟨gb171, gb172, gb173, m9_, m10_, m11_, (by rw [ha.out]; exact putSel_upk 1 hb_ rfl rfl rfl), Q_BK157, Q_BK158, Q_BK159, Q_BK160, Q_HB, Q_NB172_171, Q_NB171_172, Q_NB173_171, Q_NB171_173, Q_NB173_172, Q_NB172_173, Q_BK171, Q_GW171, Q_GE171, Q_NB157_171, Q_NB171_157, Q_NB158_171, Q_NB171_158, Q_NB159_171, Q_NB171_159, Q_NB160_171, Q_NB171_160, Q_BK172, Q_GW172, Q_GE172, Q_NB157_172, Q_NB172_157, Q_NB158_172, Q_NB172_158, Q_NB159_172, Q_NB172_159, Q_NB160_172, Q_NB172_160, Q_BK173, Q_GW173, Q_GE173, Q_NB157_173, Q_NB173_157, Q_NB158_173, Q_NB173_158, Q_NB159_173, Q_NB173_159, Q_NB160_173, Q_NB173_160, fun h0_ => absurd ((hoff 12 (by kernel_rfl)).symm.trans h0_) (by decide), fun h0_ => absurd ((hoff 13 (by kernel_rfl)).symm.trans h0_) (by decide), fun h0_ => absurd ((hoff 14 (by kernel_rfl)).symm.trans h0_) (by decide), Q_X9_, Q_X10_, Q_X11_⟩
   refine steps_cons ?_ ?_
   ·rintro b a w' ⟨gb171, gb172, gb173, m9_, m10_, m11_, ha, Q_BK157, Q_BK158, Q_BK159, Q_BK160, Q_HB, Q_NB172_171, Q_NB171_172, Q_NB173_171, Q_NB171_173, Q_NB173_172, Q_NB172_173, Q_BK171, Q_GW171, Q_GE171, Q_NB157_171, Q_NB171_157, Q_NB158_171, Q_NB171_158, Q_NB159_171, Q_NB171_159, Q_NB160_171, Q_NB171_160, Q_BK172, Q_GW172, Q_GE172, Q_NB157_172, Q_NB172_157, Q_NB158_172, Q_NB172_158, Q_NB159_172, Q_NB172_159, Q_NB160_172, Q_NB172_160, Q_BK173, Q_GW173, Q_GE173, Q_NB157_173, Q_NB173_157, Q_NB158_173, Q_NB173_158, Q_NB159_173, Q_NB173_159, Q_NB160_173, Q_NB173_160, Q_BK171_e12, Q_BK172_e13, Q_BK173_e14, Q_X9_, Q_X10_, Q_X11_⟩ hb_ hon hoff
    refine ⟨_, rfl, fun K hK => ?_⟩
    have e20 : a.tmps[20]? = some (.agg #[.int .i64 a3_0, .int .i64 a3_1]) := by rw [ha]; exact putSel_on (e := (0, 20, .agg #[.int .i64 a3_0, .int .i64 a3_1])) 0 rfl rfl (hon 0 (by kernel_rfl)) rfl
    have e21 : a.tmps[21]? = some (.agg #[.int .i64 a0_0, .int .i64 a0_1]) := by rw [ha]; exact putSel_on (e := (1, 21, .agg #[.int .i64 a0_0, .int .i64 a0_1])) 1 rfl rfl (hon 1 (by kernel_rfl)) rfl
    replace ha := Aside0.mk ha
    have BK157 := Aside0.mk Q_BK157
    have BK158 := Aside0.mk Q_BK158
    have BK159 := Aside0.mk Q_BK159
    have BK160 := Aside0.mk Q_BK160
    have HB := Aside0.mk Q_HB
    refine goes_ Try.func24 (by kernel_rfl) rfl #[.agg #[.int .i64 a3_0, .int .i64 a3_1], .agg #[.int .i64 a0_0, .int .i64 a0_1]] (by rfl) rfl rfl (by first | (simp only [List.map_toArray, List.map_cons, List.map_nil, Act.eval, Array.getD_eq_getD_getElem?, Option.getD_some, e20, e21]; done) | (simp only [List.map_toArray, List.map_cons, List.map_nil, Act.eval, Array.getD_eq_getD_getElem?, Option.getD_some, e20, e21]; rfl)) ?_
    with_reducible refine (pred_way.calls a3_0 a3_1 a0_0 a0_1 t165 t166 _ A7.out).mono ?_
    rintro e w41 ⟨rfl, hb⟩
    refine ⟨_, rfl, ?_⟩
    have n0_ := Aside0.mk (blk_below (bk BK157.out) hb)
    have n1_ := Aside0.mk (blk_below (bk BK158.out) hb)
    have n2_ := Aside0.mk (blk_below (bk BK159.out) hb)
    have n3_ := Aside0.mk (blk_below (bk BK160.out) hb)
    have n4_ := Aside0.mk (below_step (bw HB.out) hb)
    have z_BK171 := fun (h0_ : b 9 = true) (h1_ : b 12 = false) => (show w41.heap[gb171]? = some (.cells #[.int .i64 0, .int .i64 0] 23 (0, 0)) from by first | exact (blk_below (g := gb171) (o := .cells #[.int .i64 0, .int .i64 0] 23 (0, 0)) (bk (Q_BK171 h0_ h1_)) hb))
    have z_BK172 := fun (h0_ : b 10 = true) (h1_ : b 13 = false) => (show w41.heap[gb172]? = some (.cells #[.int .i64 0, .int .i64 0] 23 (0, 0)) from by first | exact (blk_below (g := gb172) (o := .cells #[.int .i64 0, .int .i64 0] 23 (0, 0)) (bk (Q_BK172 h0_ h1_)) hb))
    have z_BK173 := fun (h0_ : b 11 = true) (h1_ : b 14 = false) => (show w41.heap[gb173]? = some (.cells #[.int .i64 0, .int .i64 0] 23 (0, 0)) from by first | exact (blk_below (g := gb173) (o := .cells #[.int .i64 0, .int .i64 0] 23 (0, 0)) (bk (Q_BK173 h0_ h1_)) hb))
    clear BK157
    clear BK158
    clear BK159
    clear BK160
    clear HB
    have BK157 := n0_
    have BK158 := n1_
    have BK159 := n2_
    have BK160 := n3_
    have HB := n4_
    clear n0_ n1_ n2_ n3_ n4_
    (try clear hb)
    (try clear hb2)
    (try clear hk)
    (try clear hi)
    refine hK.out _ _ ⟨gb171, gb172, gb173, m9_, m10_, m11_, (by rw [ha.out]; exact putSel_upk 2 hb_ rfl rfl rfl), (bk BK157.out), (bk BK158.out), (bk BK159.out), (bk BK160.out), (bw HB.out), Q_NB172_171, Q_NB171_172, Q_NB173_171, Q_NB171_173, Q_NB173_172, Q_NB172_173, z_BK171, Q_GW171, Q_GE171, Q_NB157_171, Q_NB171_157, Q_NB158_171, Q_NB171_158, Q_NB159_171, Q_NB171_159, Q_NB160_171, Q_NB171_160, z_BK172, Q_GW172, Q_GE172, Q_NB157_172, Q_NB172_157, Q_NB158_172, Q_NB172_158, Q_NB159_172, Q_NB172_159, Q_NB160_172, Q_NB172_160, z_BK173, Q_GW173, Q_GE173, Q_NB157_173, Q_NB173_157, Q_NB158_173, Q_NB173_158, Q_NB159_173, Q_NB173_159, Q_NB160_173, Q_NB173_160, fun h0_ => absurd ((hoff 12 (by kernel_rfl)).symm.trans h0_) (by decide), fun h0_ => absurd ((hoff 13 (by kernel_rfl)).symm.trans h0_) (by decide), fun h0_ => absurd ((hoff 14 (by kernel_rfl)).symm.trans h0_) (by decide), Q_X9_, Q_X10_, Q_X11_⟩
   refine steps_cons ?_ ?_
   ·rintro b a w' ⟨gb171, gb172, gb173, m9_, m10_, m11_, ha, Q_BK157, Q_BK158, Q_BK159, Q_BK160, Q_HB, Q_NB172_171, Q_NB171_172, Q_NB173_171, Q_NB171_173, Q_NB173_172, Q_NB172_173, Q_BK171, Q_GW171, Q_GE171, Q_NB157_171, Q_NB171_157, Q_NB158_171, Q_NB171_158, Q_NB159_171, Q_NB171_159, Q_NB160_171, Q_NB171_160, Q_BK172, Q_GW172, Q_GE172, Q_NB157_172, Q_NB172_157, Q_NB158_172, Q_NB172_158, Q_NB159_172, Q_NB172_159, Q_NB160_172, Q_NB172_160, Q_BK173, Q_GW173, Q_GE173, Q_NB157_173, Q_NB173_157, Q_NB158_173, Q_NB173_158, Q_NB159_173, Q_NB173_159, Q_NB160_173, Q_NB173_160, Q_BK171_e12, Q_BK172_e13, Q_BK173_e14, Q_X9_, Q_X10_, Q_X11_⟩ hb_ hon hoff
    refine ⟨_, rfl, fun K hK => ?_⟩
    have e7 : a.tmps[7]? = some (.pointer (some ⟨gb160, 0, none⟩)) := by rw [ha]; exact (putSel_off rfl).trans rfl
    replace ha := Aside0.mk ha
    have BK157 := Aside0.mk Q_BK157
    have BK158 := Aside0.mk Q_BK158
    have BK159 := Aside0.mk Q_BK159
    have BK160 := Aside0.mk Q_BK160
    have HB := Aside0.mk Q_HB
    have hc0_ : w'.cell? ⟨gb160, 0, none⟩ = some (.int .i64 a3_0) := (blk_cell BK160.out 0).trans rfl
    have hc1_ : w'.cell? ⟨gb160, 1, none⟩ = some (.int .i64 a3_1) := (blk_cell BK160.out 1).trans rfl
    refine value_ (w1 := w') (v := .agg #[.int .i64 a3_0, .int .i64 a3_1]) (by rfl) rfl ?_ ?_
    ·go_simp
     (try simp only [i64_w])
     try rfl
    refine hK.out _ _ ⟨gb171, gb172, gb173, m9_, m10_, m11_, (by rw [ha.out]; exact putSel_upk 3 hb_ rfl rfl rfl), Q_BK157, Q_BK158, Q_BK159, Q_BK160, Q_HB, Q_NB172_171, Q_NB171_172, Q_NB173_171, Q_NB171_173, Q_NB173_172, Q_NB172_173, Q_BK171, Q_GW171, Q_GE171, Q_NB157_171, Q_NB171_157, Q_NB158_171, Q_NB171_158, Q_NB159_171, Q_NB171_159, Q_NB160_171, Q_NB171_160, Q_BK172, Q_GW172, Q_GE172, Q_NB157_172, Q_NB172_157, Q_NB158_172, Q_NB172_158, Q_NB159_172, Q_NB172_159, Q_NB160_172, Q_NB172_160, Q_BK173, Q_GW173, Q_GE173, Q_NB157_173, Q_NB173_157, Q_NB158_173, Q_NB173_158, Q_NB159_173, Q_NB173_159, Q_NB160_173, Q_NB173_160, fun h0_ => absurd ((hoff 12 (by kernel_rfl)).symm.trans h0_) (by decide), fun h0_ => absurd ((hoff 13 (by kernel_rfl)).symm.trans h0_) (by decide), fun h0_ => absurd ((hoff 14 (by kernel_rfl)).symm.trans h0_) (by decide), Q_X9_, Q_X10_, Q_X11_⟩
   refine steps_cons ?_ ?_
   ·rintro b a w' ⟨gb171, gb172, gb173, m9_, m10_, m11_, ha, Q_BK157, Q_BK158, Q_BK159, Q_BK160, Q_HB, Q_NB172_171, Q_NB171_172, Q_NB173_171, Q_NB171_173, Q_NB173_172, Q_NB172_173, Q_BK171, Q_GW171, Q_GE171, Q_NB157_171, Q_NB171_157, Q_NB158_171, Q_NB171_158, Q_NB159_171, Q_NB171_159, Q_NB160_171, Q_NB171_160, Q_BK172, Q_GW172, Q_GE172, Q_NB157_172, Q_NB172_157, Q_NB158_172, Q_NB172_158, Q_NB159_172, Q_NB172_159, Q_NB160_172, Q_NB172_160, Q_BK173, Q_GW173, Q_GE173, Q_NB157_173, Q_NB173_157, Q_NB158_173, Q_NB173_158, Q_NB159_173, Q_NB173_159, Q_NB160_173, Q_NB173_160, Q_BK171_e12, Q_BK172_e13, Q_BK173_e14, Q_X9_, Q_X10_, Q_X11_⟩ hb_ hon hoff
    refine ⟨_, rfl, fun K hK => ?_⟩
    have e5 : a.tmps[5]? = some (.pointer (some ⟨gb158, 0, none⟩)) := by rw [ha]; exact (putSel_off rfl).trans rfl
    replace ha := Aside0.mk ha
    have BK157 := Aside0.mk Q_BK157
    have BK158 := Aside0.mk Q_BK158
    have BK159 := Aside0.mk Q_BK159
    have BK160 := Aside0.mk Q_BK160
    have HB := Aside0.mk Q_HB
    have hc0_ : w'.cell? ⟨gb158, 0, none⟩ = some (.int .i64 a1_0) := (blk_cell BK158.out 0).trans rfl
    have hc1_ : w'.cell? ⟨gb158, 1, none⟩ = some (.int .i64 a1_1) := (blk_cell BK158.out 1).trans rfl
    refine value_ (w1 := w') (v := .agg #[.int .i64 a1_0, .int .i64 a1_1]) (by rfl) rfl ?_ ?_
    ·go_simp
     (try simp only [i64_w])
     try rfl
    refine hK.out _ _ ⟨gb171, gb172, gb173, m9_, m10_, m11_, (by rw [ha.out]; exact putSel_upk 4 hb_ rfl rfl rfl), Q_BK157, Q_BK158, Q_BK159, Q_BK160, Q_HB, Q_NB172_171, Q_NB171_172, Q_NB173_171, Q_NB171_173, Q_NB173_172, Q_NB172_173, Q_BK171, Q_GW171, Q_GE171, Q_NB157_171, Q_NB171_157, Q_NB158_171, Q_NB171_158, Q_NB159_171, Q_NB171_159, Q_NB160_171, Q_NB171_160, Q_BK172, Q_GW172, Q_GE172, Q_NB157_172, Q_NB172_157, Q_NB158_172, Q_NB172_158, Q_NB159_172, Q_NB172_159, Q_NB160_172, Q_NB172_160, Q_BK173, Q_GW173, Q_GE173, Q_NB157_173, Q_NB173_157, Q_NB158_173, Q_NB173_158, Q_NB159_173, Q_NB173_159, Q_NB160_173, Q_NB173_160, fun h0_ => absurd ((hoff 12 (by kernel_rfl)).symm.trans h0_) (by decide), fun h0_ => absurd ((hoff 13 (by kernel_rfl)).symm.trans h0_) (by decide), fun h0_ => absurd ((hoff 14 (by kernel_rfl)).symm.trans h0_) (by decide), Q_X9_, Q_X10_, Q_X11_⟩
   refine steps_cons ?_ ?_
   ·rintro b a w' ⟨gb171, gb172, gb173, m9_, m10_, m11_, ha, Q_BK157, Q_BK158, Q_BK159, Q_BK160, Q_HB, Q_NB172_171, Q_NB171_172, Q_NB173_171, Q_NB171_173, Q_NB173_172, Q_NB172_173, Q_BK171, Q_GW171, Q_GE171, Q_NB157_171, Q_NB171_157, Q_NB158_171, Q_NB171_158, Q_NB159_171, Q_NB171_159, Q_NB160_171, Q_NB171_160, Q_BK172, Q_GW172, Q_GE172, Q_NB157_172, Q_NB172_157, Q_NB158_172, Q_NB172_158, Q_NB159_172, Q_NB172_159, Q_NB160_172, Q_NB172_160, Q_BK173, Q_GW173, Q_GE173, Q_NB157_173, Q_NB173_157, Q_NB158_173, Q_NB173_158, Q_NB159_173, Q_NB173_159, Q_NB160_173, Q_NB173_160, Q_BK171_e12, Q_BK172_e13, Q_BK173_e14, Q_X9_, Q_X10_, Q_X11_⟩ hb_ hon hoff
    refine ⟨_, rfl, fun K hK => ?_⟩
    have e23 : a.tmps[23]? = some (.agg #[.int .i64 a3_0, .int .i64 a3_1]) := by rw [ha]; exact putSel_on (e := (3, 23, .agg #[.int .i64 a3_0, .int .i64 a3_1])) 3 rfl rfl (hon 3 (by kernel_rfl)) rfl
    have e24 : a.tmps[24]? = some (.agg #[.int .i64 a1_0, .int .i64 a1_1]) := by rw [ha]; exact putSel_on (e := (4, 24, .agg #[.int .i64 a1_0, .int .i64 a1_1])) 4 rfl rfl (hon 4 (by kernel_rfl)) rfl
    replace ha := Aside0.mk ha
    have BK157 := Aside0.mk Q_BK157
    have BK158 := Aside0.mk Q_BK158
    have BK159 := Aside0.mk Q_BK159
    have BK160 := Aside0.mk Q_BK160
    have HB := Aside0.mk Q_HB
    refine goes_ Try.func24 (by kernel_rfl) rfl #[.agg #[.int .i64 a3_0, .int .i64 a3_1], .agg #[.int .i64 a1_0, .int .i64 a1_1]] (by rfl) rfl rfl (by first | (simp only [List.map_toArray, List.map_cons, List.map_nil, Act.eval, Array.getD_eq_getD_getElem?, Option.getD_some, e23, e24]; done) | (simp only [List.map_toArray, List.map_cons, List.map_nil, Act.eval, Array.getD_eq_getD_getElem?, Option.getD_some, e23, e24]; rfl)) ?_
    with_reducible refine (pred_way.calls a3_0 a3_1 a1_0 a1_1 t167 t168 _ A8.out).mono ?_
    rintro e w43 ⟨rfl, hb⟩
    refine ⟨_, rfl, ?_⟩
    have n0_ := Aside0.mk (blk_below (bk BK157.out) hb)
    have n1_ := Aside0.mk (blk_below (bk BK158.out) hb)
    have n2_ := Aside0.mk (blk_below (bk BK159.out) hb)
    have n3_ := Aside0.mk (blk_below (bk BK160.out) hb)
    have n4_ := Aside0.mk (below_step (bw HB.out) hb)
    have z_BK171 := fun (h0_ : b 9 = true) (h1_ : b 12 = false) => (show w43.heap[gb171]? = some (.cells #[.int .i64 0, .int .i64 0] 23 (0, 0)) from by first | exact (blk_below (g := gb171) (o := .cells #[.int .i64 0, .int .i64 0] 23 (0, 0)) (bk (Q_BK171 h0_ h1_)) hb))
    have z_BK172 := fun (h0_ : b 10 = true) (h1_ : b 13 = false) => (show w43.heap[gb172]? = some (.cells #[.int .i64 0, .int .i64 0] 23 (0, 0)) from by first | exact (blk_below (g := gb172) (o := .cells #[.int .i64 0, .int .i64 0] 23 (0, 0)) (bk (Q_BK172 h0_ h1_)) hb))
    have z_BK173 := fun (h0_ : b 11 = true) (h1_ : b 14 = false) => (show w43.heap[gb173]? = some (.cells #[.int .i64 0, .int .i64 0] 23 (0, 0)) from by first | exact (blk_below (g := gb173) (o := .cells #[.int .i64 0, .int .i64 0] 23 (0, 0)) (bk (Q_BK173 h0_ h1_)) hb))
    clear BK157
    clear BK158
    clear BK159
    clear BK160
    clear HB
    have BK157 := n0_
    have BK158 := n1_
    have BK159 := n2_
    have BK160 := n3_
    have HB := n4_
    clear n0_ n1_ n2_ n3_ n4_
    (try clear hb)
    (try clear hb2)
    (try clear hk)
    (try clear hi)
    refine hK.out _ _ ⟨gb171, gb172, gb173, m9_, m10_, m11_, (by rw [ha.out]; exact putSel_upk 5 hb_ rfl rfl rfl), (bk BK157.out), (bk BK158.out), (bk BK159.out), (bk BK160.out), (bw HB.out), Q_NB172_171, Q_NB171_172, Q_NB173_171, Q_NB171_173, Q_NB173_172, Q_NB172_173, z_BK171, Q_GW171, Q_GE171, Q_NB157_171, Q_NB171_157, Q_NB158_171, Q_NB171_158, Q_NB159_171, Q_NB171_159, Q_NB160_171, Q_NB171_160, z_BK172, Q_GW172, Q_GE172, Q_NB157_172, Q_NB172_157, Q_NB158_172, Q_NB172_158, Q_NB159_172, Q_NB172_159, Q_NB160_172, Q_NB172_160, z_BK173, Q_GW173, Q_GE173, Q_NB157_173, Q_NB173_157, Q_NB158_173, Q_NB173_158, Q_NB159_173, Q_NB173_159, Q_NB160_173, Q_NB173_160, fun h0_ => absurd ((hoff 12 (by kernel_rfl)).symm.trans h0_) (by decide), fun h0_ => absurd ((hoff 13 (by kernel_rfl)).symm.trans h0_) (by decide), fun h0_ => absurd ((hoff 14 (by kernel_rfl)).symm.trans h0_) (by decide), Q_X9_, Q_X10_, Q_X11_⟩
   refine steps_cons ?_ ?_
   ·rintro b a w' ⟨gb171, gb172, gb173, m9_, m10_, m11_, ha, Q_BK157, Q_BK158, Q_BK159, Q_BK160, Q_HB, Q_NB172_171, Q_NB171_172, Q_NB173_171, Q_NB171_173, Q_NB173_172, Q_NB172_173, Q_BK171, Q_GW171, Q_GE171, Q_NB157_171, Q_NB171_157, Q_NB158_171, Q_NB171_158, Q_NB159_171, Q_NB171_159, Q_NB160_171, Q_NB171_160, Q_BK172, Q_GW172, Q_GE172, Q_NB157_172, Q_NB172_157, Q_NB158_172, Q_NB172_158, Q_NB159_172, Q_NB172_159, Q_NB160_172, Q_NB172_160, Q_BK173, Q_GW173, Q_GE173, Q_NB157_173, Q_NB173_157, Q_NB158_173, Q_NB173_158, Q_NB159_173, Q_NB173_159, Q_NB160_173, Q_NB173_160, Q_BK171_e12, Q_BK172_e13, Q_BK173_e14, Q_X9_, Q_X10_, Q_X11_⟩ hb_ hon hoff
    refine ⟨_, rfl, fun K hK => ?_⟩
    have e7 : a.tmps[7]? = some (.pointer (some ⟨gb160, 0, none⟩)) := by rw [ha]; exact (putSel_off rfl).trans rfl
    replace ha := Aside0.mk ha
    have BK157 := Aside0.mk Q_BK157
    have BK158 := Aside0.mk Q_BK158
    have BK159 := Aside0.mk Q_BK159
    have BK160 := Aside0.mk Q_BK160
    have HB := Aside0.mk Q_HB
    have hc0_ : w'.cell? ⟨gb160, 0, none⟩ = some (.int .i64 a3_0) := (blk_cell BK160.out 0).trans rfl
    have hc1_ : w'.cell? ⟨gb160, 1, none⟩ = some (.int .i64 a3_1) := (blk_cell BK160.out 1).trans rfl
    refine value_ (w1 := w') (v := .agg #[.int .i64 a3_0, .int .i64 a3_1]) (by rfl) rfl ?_ ?_
    ·go_simp
     (try simp only [i64_w])
     try rfl
    refine hK.out _ _ ⟨gb171, gb172, gb173, m9_, m10_, m11_, (by rw [ha.out]; exact putSel_upk 6 hb_ rfl rfl rfl), Q_BK157, Q_BK158, Q_BK159, Q_BK160, Q_HB, Q_NB172_171, Q_NB171_172, Q_NB173_171, Q_NB171_173, Q_NB173_172, Q_NB172_173, Q_BK171, Q_GW171, Q_GE171, Q_NB157_171, Q_NB171_157, Q_NB158_171, Q_NB171_158, Q_NB159_171, Q_NB171_159, Q_NB160_171, Q_NB171_160, Q_BK172, Q_GW172, Q_GE172, Q_NB157_172, Q_NB172_157, Q_NB158_172, Q_NB172_158, Q_NB159_172, Q_NB172_159, Q_NB160_172, Q_NB172_160, Q_BK173, Q_GW173, Q_GE173, Q_NB157_173, Q_NB173_157, Q_NB158_173, Q_NB173_158, Q_NB159_173, Q_NB173_159, Q_NB160_173, Q_NB173_160, fun h0_ => absurd ((hoff 12 (by kernel_rfl)).symm.trans h0_) (by decide), fun h0_ => absurd ((hoff 13 (by kernel_rfl)).symm.trans h0_) (by decide), fun h0_ => absurd ((hoff 14 (by kernel_rfl)).symm.trans h0_) (by decide), Q_X9_, Q_X10_, Q_X11_⟩
   refine steps_cons ?_ ?_
   ·rintro b a w' ⟨gb171, gb172, gb173, m9_, m10_, m11_, ha, Q_BK157, Q_BK158, Q_BK159, Q_BK160, Q_HB, Q_NB172_171, Q_NB171_172, Q_NB173_171, Q_NB171_173, Q_NB173_172, Q_NB172_173, Q_BK171, Q_GW171, Q_GE171, Q_NB157_171, Q_NB171_157, Q_NB158_171, Q_NB171_158, Q_NB159_171, Q_NB171_159, Q_NB160_171, Q_NB171_160, Q_BK172, Q_GW172, Q_GE172, Q_NB157_172, Q_NB172_157, Q_NB158_172, Q_NB172_158, Q_NB159_172, Q_NB172_159, Q_NB160_172, Q_NB172_160, Q_BK173, Q_GW173, Q_GE173, Q_NB157_173, Q_NB173_157, Q_NB158_173, Q_NB173_158, Q_NB159_173, Q_NB173_159, Q_NB160_173, Q_NB173_160, Q_BK171_e12, Q_BK172_e13, Q_BK173_e14, Q_X9_, Q_X10_, Q_X11_⟩ hb_ hon hoff
    refine ⟨_, rfl, fun K hK => ?_⟩
    have e6 : a.tmps[6]? = some (.pointer (some ⟨gb159, 0, none⟩)) := by rw [ha]; exact (putSel_off rfl).trans rfl
    replace ha := Aside0.mk ha
    have BK157 := Aside0.mk Q_BK157
    have BK158 := Aside0.mk Q_BK158
    have BK159 := Aside0.mk Q_BK159
    have BK160 := Aside0.mk Q_BK160
    have HB := Aside0.mk Q_HB
    have hc0_ : w'.cell? ⟨gb159, 0, none⟩ = some (.int .i64 a2_0) := (blk_cell BK159.out 0).trans rfl
    have hc1_ : w'.cell? ⟨gb159, 1, none⟩ = some (.int .i64 a2_1) := (blk_cell BK159.out 1).trans rfl
    refine value_ (w1 := w') (v := .agg #[.int .i64 a2_0, .int .i64 a2_1]) (by rfl) rfl ?_ ?_
    ·go_simp
     (try simp only [i64_w])
     try rfl
    refine hK.out _ _ ⟨gb171, gb172, gb173, m9_, m10_, m11_, (by rw [ha.out]; exact putSel_upk 7 hb_ rfl rfl rfl), Q_BK157, Q_BK158, Q_BK159, Q_BK160, Q_HB, Q_NB172_171, Q_NB171_172, Q_NB173_171, Q_NB171_173, Q_NB173_172, Q_NB172_173, Q_BK171, Q_GW171, Q_GE171, Q_NB157_171, Q_NB171_157, Q_NB158_171, Q_NB171_158, Q_NB159_171, Q_NB171_159, Q_NB160_171, Q_NB171_160, Q_BK172, Q_GW172, Q_GE172, Q_NB157_172, Q_NB172_157, Q_NB158_172, Q_NB172_158, Q_NB159_172, Q_NB172_159, Q_NB160_172, Q_NB172_160, Q_BK173, Q_GW173, Q_GE173, Q_NB157_173, Q_NB173_157, Q_NB158_173, Q_NB173_158, Q_NB159_173, Q_NB173_159, Q_NB160_173, Q_NB173_160, fun h0_ => absurd ((hoff 12 (by kernel_rfl)).symm.trans h0_) (by decide), fun h0_ => absurd ((hoff 13 (by kernel_rfl)).symm.trans h0_) (by decide), fun h0_ => absurd ((hoff 14 (by kernel_rfl)).symm.trans h0_) (by decide), Q_X9_, Q_X10_, Q_X11_⟩
   refine steps_cons ?_ ?_
   ·rintro b a w' ⟨gb171, gb172, gb173, m9_, m10_, m11_, ha, Q_BK157, Q_BK158, Q_BK159, Q_BK160, Q_HB, Q_NB172_171, Q_NB171_172, Q_NB173_171, Q_NB171_173, Q_NB173_172, Q_NB172_173, Q_BK171, Q_GW171, Q_GE171, Q_NB157_171, Q_NB171_157, Q_NB158_171, Q_NB171_158, Q_NB159_171, Q_NB171_159, Q_NB160_171, Q_NB171_160, Q_BK172, Q_GW172, Q_GE172, Q_NB157_172, Q_NB172_157, Q_NB158_172, Q_NB172_158, Q_NB159_172, Q_NB172_159, Q_NB160_172, Q_NB172_160, Q_BK173, Q_GW173, Q_GE173, Q_NB157_173, Q_NB173_157, Q_NB158_173, Q_NB173_158, Q_NB159_173, Q_NB173_159, Q_NB160_173, Q_NB173_160, Q_BK171_e12, Q_BK172_e13, Q_BK173_e14, Q_X9_, Q_X10_, Q_X11_⟩ hb_ hon hoff
    refine ⟨_, rfl, fun K hK => ?_⟩
    have e26 : a.tmps[26]? = some (.agg #[.int .i64 a3_0, .int .i64 a3_1]) := by rw [ha]; exact putSel_on (e := (6, 26, .agg #[.int .i64 a3_0, .int .i64 a3_1])) 6 rfl rfl (hon 6 (by kernel_rfl)) rfl
    have e27 : a.tmps[27]? = some (.agg #[.int .i64 a2_0, .int .i64 a2_1]) := by rw [ha]; exact putSel_on (e := (7, 27, .agg #[.int .i64 a2_0, .int .i64 a2_1])) 7 rfl rfl (hon 7 (by kernel_rfl)) rfl
    replace ha := Aside0.mk ha
    have BK157 := Aside0.mk Q_BK157
    have BK158 := Aside0.mk Q_BK158
    have BK159 := Aside0.mk Q_BK159
    have BK160 := Aside0.mk Q_BK160
    have HB := Aside0.mk Q_HB
    refine goes_ Try.func24 (by kernel_rfl) rfl #[.agg #[.int .i64 a3_0, .int .i64 a3_1], .agg #[.int .i64 a2_0, .int .i64 a2_1]] (by rfl) rfl rfl (by first | (simp only [List.map_toArray, List.map_cons, List.map_nil, Act.eval, Array.getD_eq_getD_getElem?, Option.getD_some, e26, e27]; done) | (simp only [List.map_toArray, List.map_cons, List.map_nil, Act.eval, Array.getD_eq_getD_getElem?, Option.getD_some, e26, e27]; rfl)) ?_
    with_reducible refine (pred_way.calls a3_0 a3_1 a2_0 a2_1 t169 t170 _ A9.out).mono ?_
    rintro e w44 ⟨rfl, hb⟩
    refine ⟨_, rfl, ?_⟩
    have n0_ := Aside0.mk (blk_below (bk BK157.out) hb)
    have n1_ := Aside0.mk (blk_below (bk BK158.out) hb)
    have n2_ := Aside0.mk (blk_below (bk BK159.out) hb)
    have n3_ := Aside0.mk (blk_below (bk BK160.out) hb)
    have n4_ := Aside0.mk (below_step (bw HB.out) hb)
    have z_BK171 := fun (h0_ : b 9 = true) (h1_ : b 12 = false) => (show w44.heap[gb171]? = some (.cells #[.int .i64 0, .int .i64 0] 23 (0, 0)) from by first | exact (blk_below (g := gb171) (o := .cells #[.int .i64 0, .int .i64 0] 23 (0, 0)) (bk (Q_BK171 h0_ h1_)) hb))
    have z_BK172 := fun (h0_ : b 10 = true) (h1_ : b 13 = false) => (show w44.heap[gb172]? = some (.cells #[.int .i64 0, .int .i64 0] 23 (0, 0)) from by first | exact (blk_below (g := gb172) (o := .cells #[.int .i64 0, .int .i64 0] 23 (0, 0)) (bk (Q_BK172 h0_ h1_)) hb))
    have z_BK173 := fun (h0_ : b 11 = true) (h1_ : b 14 = false) => (show w44.heap[gb173]? = some (.cells #[.int .i64 0, .int .i64 0] 23 (0, 0)) from by first | exact (blk_below (g := gb173) (o := .cells #[.int .i64 0, .int .i64 0] 23 (0, 0)) (bk (Q_BK173 h0_ h1_)) hb))
    clear BK157
    clear BK158
    clear BK159
    clear BK160
    clear HB
    have BK157 := n0_
    have BK158 := n1_
    have BK159 := n2_
    have BK160 := n3_
    have HB := n4_
    clear n0_ n1_ n2_ n3_ n4_
    (try clear hb)
    (try clear hb2)
    (try clear hk)
    (try clear hi)
    refine hK.out _ _ ⟨gb171, gb172, gb173, m9_, m10_, m11_, (by rw [ha.out]; exact putSel_upk 8 hb_ rfl rfl rfl), (bk BK157.out), (bk BK158.out), (bk BK159.out), (bk BK160.out), (bw HB.out), Q_NB172_171, Q_NB171_172, Q_NB173_171, Q_NB171_173, Q_NB173_172, Q_NB172_173, z_BK171, Q_GW171, Q_GE171, Q_NB157_171, Q_NB171_157, Q_NB158_171, Q_NB171_158, Q_NB159_171, Q_NB171_159, Q_NB160_171, Q_NB171_160, z_BK172, Q_GW172, Q_GE172, Q_NB157_172, Q_NB172_157, Q_NB158_172, Q_NB172_158, Q_NB159_172, Q_NB172_159, Q_NB160_172, Q_NB172_160, z_BK173, Q_GW173, Q_GE173, Q_NB157_173, Q_NB173_157, Q_NB158_173, Q_NB173_158, Q_NB159_173, Q_NB173_159, Q_NB160_173, Q_NB173_160, fun h0_ => absurd ((hoff 12 (by kernel_rfl)).symm.trans h0_) (by decide), fun h0_ => absurd ((hoff 13 (by kernel_rfl)).symm.trans h0_) (by decide), fun h0_ => absurd ((hoff 14 (by kernel_rfl)).symm.trans h0_) (by decide), Q_X9_, Q_X10_, Q_X11_⟩
   refine steps_cons ?_ ?_
   ·rintro b a w' ⟨gb171, gb172, gb173, m9_, m10_, m11_, ha, Q_BK157, Q_BK158, Q_BK159, Q_BK160, Q_HB, Q_NB172_171, Q_NB171_172, Q_NB173_171, Q_NB171_173, Q_NB173_172, Q_NB172_173, Q_BK171, Q_GW171, Q_GE171, Q_NB157_171, Q_NB171_157, Q_NB158_171, Q_NB171_158, Q_NB159_171, Q_NB171_159, Q_NB160_171, Q_NB171_160, Q_BK172, Q_GW172, Q_GE172, Q_NB157_172, Q_NB172_157, Q_NB158_172, Q_NB172_158, Q_NB159_172, Q_NB172_159, Q_NB160_172, Q_NB172_160, Q_BK173, Q_GW173, Q_GE173, Q_NB157_173, Q_NB173_157, Q_NB158_173, Q_NB173_158, Q_NB159_173, Q_NB173_159, Q_NB160_173, Q_NB173_160, Q_BK171_e12, Q_BK172_e13, Q_BK173_e14, Q_X9_, Q_X10_, Q_X11_⟩ hb_ hon hoff
    refine ⟨_, rfl, fun K hK => ?_⟩
    replace ha := Aside0.mk ha
    have BK157 := Aside0.mk Q_BK157
    have BK158 := Aside0.mk Q_BK158
    have BK159 := Aside0.mk Q_BK159
    have BK160 := Aside0.mk Q_BK160
    have HB := Aside0.mk Q_HB
    refine box_step ?hg (N := 9) ?hd (cs := #[.int .i64 0, .int .i64 0]) (t := 23) ?hr ?_; (case hd => rfl); (case hg => rfl); (case hr => first | (go_simp; done) | (go_simp; rfl))
    intro gb171 hg w41 hbox hb
    have n0_ := Aside0.mk (blk_below (bk BK157.out) hb)
    have n1_ := Aside0.mk (blk_below (bk BK158.out) hb)
    have n2_ := Aside0.mk (blk_below (bk BK159.out) hb)
    have n3_ := Aside0.mk (blk_below (bk BK160.out) hb)
    have n4_ := Aside0.mk (below_step (bw HB.out) hb)
    have n5_ := Aside0.mk (hbox)
    have n6_ := Aside0.mk ((by rw [hg]; exact (below_size (bw HB.out)) : w.heap.size ≤ gb171))
    have n7_ := Aside0.mk ((by rw [hg]; exact (below_size (bw HB.out)) : w.heap.size ≤ gb171))
    have n8_ := Aside0.mk ((by rw [hg]; exact Nat.ne_of_lt (blk_lt (bk BK157.out)) : gb157 ≠ gb171))
    have n9_ := Aside0.mk ((by rw [hg]; exact Nat.ne_of_gt (blk_lt (bk BK157.out)) : gb171 ≠ gb157))
    have n10_ := Aside0.mk ((by rw [hg]; exact Nat.ne_of_lt (blk_lt (bk BK158.out)) : gb158 ≠ gb171))
    have n11_ := Aside0.mk ((by rw [hg]; exact Nat.ne_of_gt (blk_lt (bk BK158.out)) : gb171 ≠ gb158))
    have n12_ := Aside0.mk ((by rw [hg]; exact Nat.ne_of_lt (blk_lt (bk BK159.out)) : gb159 ≠ gb171))
    have n13_ := Aside0.mk ((by rw [hg]; exact Nat.ne_of_gt (blk_lt (bk BK159.out)) : gb171 ≠ gb159))
    have n14_ := Aside0.mk ((by rw [hg]; exact Nat.ne_of_lt (blk_lt (bk BK160.out)) : gb160 ≠ gb171))
    have n15_ := Aside0.mk ((by rw [hg]; exact Nat.ne_of_gt (blk_lt (bk BK160.out)) : gb171 ≠ gb160))
    have z_NB172_171 := fun (h0_ : up b 9 9 = true) (h1_ : up b 9 10 = true) => (show gb172 ≠ gb171 from ((by rw [hg]; exact Nat.ne_of_lt (blk_lt (g := gb172) (o := .cells #[.int .i64 0, .int .i64 0] 23 (0, 0)) (by (with_reducible repeat (first | refine blk_drewN ?_ _ | refine blk_drew ?_ | refine blk_alloc ?_ _)); exact (Q_BK172 ((up_ne (by decide : 10 ≠ 9)).symm.trans h1_) (hoff 13 (by kernel_rfl))))) : gb172 ≠ gb171)))
    have z_NB171_172 := fun (h0_ : up b 9 9 = true) (h1_ : up b 9 10 = true) => (show gb171 ≠ gb172 from ((by rw [hg]; exact Nat.ne_of_gt (blk_lt (g := gb172) (o := .cells #[.int .i64 0, .int .i64 0] 23 (0, 0)) (by (with_reducible repeat (first | refine blk_drewN ?_ _ | refine blk_drew ?_ | refine blk_alloc ?_ _)); exact (Q_BK172 ((up_ne (by decide : 10 ≠ 9)).symm.trans h1_) (hoff 13 (by kernel_rfl))))) : gb171 ≠ gb172)))
    have z_NB173_171 := fun (h0_ : up b 9 9 = true) (h1_ : up b 9 11 = true) => (show gb173 ≠ gb171 from ((by rw [hg]; exact Nat.ne_of_lt (blk_lt (g := gb173) (o := .cells #[.int .i64 0, .int .i64 0] 23 (0, 0)) (by (with_reducible repeat (first | refine blk_drewN ?_ _ | refine blk_drew ?_ | refine blk_alloc ?_ _)); exact (Q_BK173 ((up_ne (by decide : 11 ≠ 9)).symm.trans h1_) (hoff 14 (by kernel_rfl))))) : gb173 ≠ gb171)))
    have z_NB171_173 := fun (h0_ : up b 9 9 = true) (h1_ : up b 9 11 = true) => (show gb171 ≠ gb173 from ((by rw [hg]; exact Nat.ne_of_gt (blk_lt (g := gb173) (o := .cells #[.int .i64 0, .int .i64 0] 23 (0, 0)) (by (with_reducible repeat (first | refine blk_drewN ?_ _ | refine blk_drew ?_ | refine blk_alloc ?_ _)); exact (Q_BK173 ((up_ne (by decide : 11 ≠ 9)).symm.trans h1_) (hoff 14 (by kernel_rfl))))) : gb171 ≠ gb173)))
    have z_BK172 := fun (h0_ : b 10 = true) (h1_ : b 13 = false) => (show w41.heap[gb172]? = some (.cells #[.int .i64 0, .int .i64 0] 23 (0, 0)) from by first | exact (blk_below (g := gb172) (o := .cells #[.int .i64 0, .int .i64 0] 23 (0, 0)) (bk (Q_BK172 h0_ h1_)) hb))
    have z_BK173 := fun (h0_ : b 11 = true) (h1_ : b 14 = false) => (show w41.heap[gb173]? = some (.cells #[.int .i64 0, .int .i64 0] 23 (0, 0)) from by first | exact (blk_below (g := gb173) (o := .cells #[.int .i64 0, .int .i64 0] 23 (0, 0)) (bk (Q_BK173 h0_ h1_)) hb))
    clear BK157
    clear BK158
    clear BK159
    clear BK160
    clear HB
    have BK157 := n0_
    have BK158 := n1_
    have BK159 := n2_
    have BK160 := n3_
    have HB := n4_
    have BK171 := n5_
    have GW171 := n6_
    have GE171 := n7_
    have NB157_171 := n8_
    have NB171_157 := n9_
    have NB158_171 := n10_
    have NB171_158 := n11_
    have NB159_171 := n12_
    have NB171_159 := n13_
    have NB160_171 := n14_
    have NB171_160 := n15_
    clear n0_ n1_ n2_ n3_ n4_ n5_ n6_ n7_ n8_ n9_ n10_ n11_ n12_ n13_ n14_ n15_
    clear hb hbox hg
    refine hK.out _ _ ⟨gb171, gb172, gb173, (.pointer (some ⟨gb171, 0, none⟩)), m10_, m11_, (by rw [ha.out]; exact putSel_upk 9 hb_ rfl rfl rfl), (bk BK157.out), (bk BK158.out), (bk BK159.out), (bk BK160.out), (bw HB.out), @z_NB172_171, @z_NB171_172, @z_NB173_171, @z_NB171_173, Q_NB173_172, Q_NB172_173, fun _ _ => (bk BK171.out), fun _ => GW171.out, fun _ => GE171.out, fun _ => NB157_171.out, fun _ => NB171_157.out, fun _ => NB158_171.out, fun _ => NB171_158.out, fun _ => NB159_171.out, fun _ => NB171_159.out, fun _ => NB160_171.out, fun _ => NB171_160.out, z_BK172, Q_GW172, Q_GE172, Q_NB157_172, Q_NB172_157, Q_NB158_172, Q_NB172_158, Q_NB159_172, Q_NB172_159, Q_NB160_172, Q_NB172_160, z_BK173, Q_GW173, Q_GE173, Q_NB157_173, Q_NB173_157, Q_NB158_173, Q_NB173_158, Q_NB159_173, Q_NB173_159, Q_NB160_173, Q_NB173_160, fun h0_ => absurd ((hoff 12 (by kernel_rfl)).symm.trans h0_) (by decide), fun h0_ => absurd ((hoff 13 (by kernel_rfl)).symm.trans h0_) (by decide), fun h0_ => absurd ((hoff 14 (by kernel_rfl)).symm.trans h0_) (by decide), fun _ => rfl, Q_X10_, Q_X11_⟩
   refine steps_cons ?_ ?_
   ·rintro b a w' ⟨gb171, gb172, gb173, m9_, m10_, m11_, ha, Q_BK157, Q_BK158, Q_BK159, Q_BK160, Q_HB, Q_NB172_171, Q_NB171_172, Q_NB173_171, Q_NB171_173, Q_NB173_172, Q_NB172_173, Q_BK171, Q_GW171, Q_GE171, Q_NB157_171, Q_NB171_157, Q_NB158_171, Q_NB171_158, Q_NB159_171, Q_NB171_159, Q_NB160_171, Q_NB171_160, Q_BK172, Q_GW172, Q_GE172, Q_NB157_172, Q_NB172_157, Q_NB158_172, Q_NB172_158, Q_NB159_172, Q_NB172_159, Q_NB160_172, Q_NB172_160, Q_BK173, Q_GW173, Q_GE173, Q_NB157_173, Q_NB173_157, Q_NB158_173, Q_NB173_158, Q_NB159_173, Q_NB173_159, Q_NB160_173, Q_NB173_160, Q_BK171_e12, Q_BK172_e13, Q_BK173_e14, Q_X9_, Q_X10_, Q_X11_⟩ hb_ hon hoff
    refine ⟨_, rfl, fun K hK => ?_⟩
    replace ha := Aside0.mk ha
    have BK157 := Aside0.mk Q_BK157
    have BK158 := Aside0.mk Q_BK158
    have BK159 := Aside0.mk Q_BK159
    have BK160 := Aside0.mk Q_BK160
    have HB := Aside0.mk Q_HB
    refine box_step ?hg (N := 10) ?hd (cs := #[.int .i64 0, .int .i64 0]) (t := 23) ?hr ?_; (case hd => rfl); (case hg => rfl); (case hr => first | (go_simp; done) | (go_simp; rfl))
    intro gb172 hg w41 hbox hb
    have n0_ := Aside0.mk (blk_below (bk BK157.out) hb)
    have n1_ := Aside0.mk (blk_below (bk BK158.out) hb)
    have n2_ := Aside0.mk (blk_below (bk BK159.out) hb)
    have n3_ := Aside0.mk (blk_below (bk BK160.out) hb)
    have n4_ := Aside0.mk (below_step (bw HB.out) hb)
    have n5_ := Aside0.mk (hbox)
    have n6_ := Aside0.mk ((by rw [hg]; exact (below_size (bw HB.out)) : w.heap.size ≤ gb172))
    have n7_ := Aside0.mk ((by rw [hg]; exact (below_size (bw HB.out)) : w.heap.size ≤ gb172))
    have n8_ := Aside0.mk ((by rw [hg]; exact Nat.ne_of_lt (blk_lt (bk BK157.out)) : gb157 ≠ gb172))
    have n9_ := Aside0.mk ((by rw [hg]; exact Nat.ne_of_gt (blk_lt (bk BK157.out)) : gb172 ≠ gb157))
    have n10_ := Aside0.mk ((by rw [hg]; exact Nat.ne_of_lt (blk_lt (bk BK158.out)) : gb158 ≠ gb172))
    have n11_ := Aside0.mk ((by rw [hg]; exact Nat.ne_of_gt (blk_lt (bk BK158.out)) : gb172 ≠ gb158))
    have n12_ := Aside0.mk ((by rw [hg]; exact Nat.ne_of_lt (blk_lt (bk BK159.out)) : gb159 ≠ gb172))
    have n13_ := Aside0.mk ((by rw [hg]; exact Nat.ne_of_gt (blk_lt (bk BK159.out)) : gb172 ≠ gb159))
    have n14_ := Aside0.mk ((by rw [hg]; exact Nat.ne_of_lt (blk_lt (bk BK160.out)) : gb160 ≠ gb172))
    have n15_ := Aside0.mk ((by rw [hg]; exact Nat.ne_of_gt (blk_lt (bk BK160.out)) : gb172 ≠ gb160))
    have z_NB172_171 := fun (h0_ : up b 10 9 = true) (h1_ : up b 10 10 = true) => (show gb172 ≠ gb171 from ((by rw [hg]; exact Nat.ne_of_gt (blk_lt (g := gb171) (o := .cells #[.int .i64 0, .int .i64 0] 23 (0, 0)) (by (with_reducible repeat (first | refine blk_drewN ?_ _ | refine blk_drew ?_ | refine blk_alloc ?_ _)); exact (Q_BK171 ((up_ne (by decide : 9 ≠ 10)).symm.trans h0_) (hoff 12 (by kernel_rfl))))) : gb172 ≠ gb171)))
    have z_NB171_172 := fun (h0_ : up b 10 9 = true) (h1_ : up b 10 10 = true) => (show gb171 ≠ gb172 from ((by rw [hg]; exact Nat.ne_of_lt (blk_lt (g := gb171) (o := .cells #[.int .i64 0, .int .i64 0] 23 (0, 0)) (by (with_reducible repeat (first | refine blk_drewN ?_ _ | refine blk_drew ?_ | refine blk_alloc ?_ _)); exact (Q_BK171 ((up_ne (by decide : 9 ≠ 10)).symm.trans h0_) (hoff 12 (by kernel_rfl))))) : gb171 ≠ gb172)))
    have z_NB173_172 := fun (h0_ : up b 10 10 = true) (h1_ : up b 10 11 = true) => (show gb173 ≠ gb172 from ((by rw [hg]; exact Nat.ne_of_lt (blk_lt (g := gb173) (o := .cells #[.int .i64 0, .int .i64 0] 23 (0, 0)) (by (with_reducible repeat (first | refine blk_drewN ?_ _ | refine blk_drew ?_ | refine blk_alloc ?_ _)); exact (Q_BK173 ((up_ne (by decide : 11 ≠ 10)).symm.trans h1_) (hoff 14 (by kernel_rfl))))) : gb173 ≠ gb172)))
    have z_NB172_173 := fun (h0_ : up b 10 10 = true) (h1_ : up b 10 11 = true) => (show gb172 ≠ gb173 from ((by rw [hg]; exact Nat.ne_of_gt (blk_lt (g := gb173) (o := .cells #[.int .i64 0, .int .i64 0] 23 (0, 0)) (by (with_reducible repeat (first | refine blk_drewN ?_ _ | refine blk_drew ?_ | refine blk_alloc ?_ _)); exact (Q_BK173 ((up_ne (by decide : 11 ≠ 10)).symm.trans h1_) (hoff 14 (by kernel_rfl))))) : gb172 ≠ gb173)))
    have z_BK171 := fun (h0_ : b 9 = true) (h1_ : b 12 = false) => (show w41.heap[gb171]? = some (.cells #[.int .i64 0, .int .i64 0] 23 (0, 0)) from by first | exact (blk_below (g := gb171) (o := .cells #[.int .i64 0, .int .i64 0] 23 (0, 0)) (bk (Q_BK171 h0_ h1_)) hb))
    have z_BK173 := fun (h0_ : b 11 = true) (h1_ : b 14 = false) => (show w41.heap[gb173]? = some (.cells #[.int .i64 0, .int .i64 0] 23 (0, 0)) from by first | exact (blk_below (g := gb173) (o := .cells #[.int .i64 0, .int .i64 0] 23 (0, 0)) (bk (Q_BK173 h0_ h1_)) hb))
    clear BK157
    clear BK158
    clear BK159
    clear BK160
    clear HB
    have BK157 := n0_
    have BK158 := n1_
    have BK159 := n2_
    have BK160 := n3_
    have HB := n4_
    have BK172 := n5_
    have GW172 := n6_
    have GE172 := n7_
    have NB157_172 := n8_
    have NB172_157 := n9_
    have NB158_172 := n10_
    have NB172_158 := n11_
    have NB159_172 := n12_
    have NB172_159 := n13_
    have NB160_172 := n14_
    have NB172_160 := n15_
    clear n0_ n1_ n2_ n3_ n4_ n5_ n6_ n7_ n8_ n9_ n10_ n11_ n12_ n13_ n14_ n15_
    clear hb hbox hg
    refine hK.out _ _ ⟨gb171, gb172, gb173, m9_, (.pointer (some ⟨gb172, 0, none⟩)), m11_, (by rw [ha.out]; exact putSel_upk 10 hb_ rfl rfl rfl), (bk BK157.out), (bk BK158.out), (bk BK159.out), (bk BK160.out), (bw HB.out), @z_NB172_171, @z_NB171_172, Q_NB173_171, Q_NB171_173, @z_NB173_172, @z_NB172_173, z_BK171, Q_GW171, Q_GE171, Q_NB157_171, Q_NB171_157, Q_NB158_171, Q_NB171_158, Q_NB159_171, Q_NB171_159, Q_NB160_171, Q_NB171_160, fun _ _ => (bk BK172.out), fun _ => GW172.out, fun _ => GE172.out, fun _ => NB157_172.out, fun _ => NB172_157.out, fun _ => NB158_172.out, fun _ => NB172_158.out, fun _ => NB159_172.out, fun _ => NB172_159.out, fun _ => NB160_172.out, fun _ => NB172_160.out, z_BK173, Q_GW173, Q_GE173, Q_NB157_173, Q_NB173_157, Q_NB158_173, Q_NB173_158, Q_NB159_173, Q_NB173_159, Q_NB160_173, Q_NB173_160, fun h0_ => absurd ((hoff 12 (by kernel_rfl)).symm.trans h0_) (by decide), fun h0_ => absurd ((hoff 13 (by kernel_rfl)).symm.trans h0_) (by decide), fun h0_ => absurd ((hoff 14 (by kernel_rfl)).symm.trans h0_) (by decide), Q_X9_, fun _ => rfl, Q_X11_⟩
   refine steps_cons ?_ ?_
   ·rintro b a w' ⟨gb171, gb172, gb173, m9_, m10_, m11_, ha, Q_BK157, Q_BK158, Q_BK159, Q_BK160, Q_HB, Q_NB172_171, Q_NB171_172, Q_NB173_171, Q_NB171_173, Q_NB173_172, Q_NB172_173, Q_BK171, Q_GW171, Q_GE171, Q_NB157_171, Q_NB171_157, Q_NB158_171, Q_NB171_158, Q_NB159_171, Q_NB171_159, Q_NB160_171, Q_NB171_160, Q_BK172, Q_GW172, Q_GE172, Q_NB157_172, Q_NB172_157, Q_NB158_172, Q_NB172_158, Q_NB159_172, Q_NB172_159, Q_NB160_172, Q_NB172_160, Q_BK173, Q_GW173, Q_GE173, Q_NB157_173, Q_NB173_157, Q_NB158_173, Q_NB173_158, Q_NB159_173, Q_NB173_159, Q_NB160_173, Q_NB173_160, Q_BK171_e12, Q_BK172_e13, Q_BK173_e14, Q_X9_, Q_X10_, Q_X11_⟩ hb_ hon hoff
    refine ⟨_, rfl, fun K hK => ?_⟩
    replace ha := Aside0.mk ha
    have BK157 := Aside0.mk Q_BK157
    have BK158 := Aside0.mk Q_BK158
    have BK159 := Aside0.mk Q_BK159
    have BK160 := Aside0.mk Q_BK160
    have HB := Aside0.mk Q_HB
    refine box_step ?hg (N := 11) ?hd (cs := #[.int .i64 0, .int .i64 0]) (t := 23) ?hr ?_; (case hd => rfl); (case hg => rfl); (case hr => first | (go_simp; done) | (go_simp; rfl))
    intro gb173 hg w41 hbox hb
    have n0_ := Aside0.mk (blk_below (bk BK157.out) hb)
    have n1_ := Aside0.mk (blk_below (bk BK158.out) hb)
    have n2_ := Aside0.mk (blk_below (bk BK159.out) hb)
    have n3_ := Aside0.mk (blk_below (bk BK160.out) hb)
    have n4_ := Aside0.mk (below_step (bw HB.out) hb)
    have n5_ := Aside0.mk (hbox)
    have n6_ := Aside0.mk ((by rw [hg]; exact (below_size (bw HB.out)) : w.heap.size ≤ gb173))
    have n7_ := Aside0.mk ((by rw [hg]; exact (below_size (bw HB.out)) : w.heap.size ≤ gb173))
    have n8_ := Aside0.mk ((by rw [hg]; exact Nat.ne_of_lt (blk_lt (bk BK157.out)) : gb157 ≠ gb173))
    have n9_ := Aside0.mk ((by rw [hg]; exact Nat.ne_of_gt (blk_lt (bk BK157.out)) : gb173 ≠ gb157))
    have n10_ := Aside0.mk ((by rw [hg]; exact Nat.ne_of_lt (blk_lt (bk BK158.out)) : gb158 ≠ gb173))
    have n11_ := Aside0.mk ((by rw [hg]; exact Nat.ne_of_gt (blk_lt (bk BK158.out)) : gb173 ≠ gb158))
    have n12_ := Aside0.mk ((by rw [hg]; exact Nat.ne_of_lt (blk_lt (bk BK159.out)) : gb159 ≠ gb173))
    have n13_ := Aside0.mk ((by rw [hg]; exact Nat.ne_of_gt (blk_lt (bk BK159.out)) : gb173 ≠ gb159))
    have n14_ := Aside0.mk ((by rw [hg]; exact Nat.ne_of_lt (blk_lt (bk BK160.out)) : gb160 ≠ gb173))
    have n15_ := Aside0.mk ((by rw [hg]; exact Nat.ne_of_gt (blk_lt (bk BK160.out)) : gb173 ≠ gb160))
    have z_NB173_171 := fun (h0_ : up b 11 9 = true) (h1_ : up b 11 11 = true) => (show gb173 ≠ gb171 from ((by rw [hg]; exact Nat.ne_of_gt (blk_lt (g := gb171) (o := .cells #[.int .i64 0, .int .i64 0] 23 (0, 0)) (by (with_reducible repeat (first | refine blk_drewN ?_ _ | refine blk_drew ?_ | refine blk_alloc ?_ _)); exact (Q_BK171 ((up_ne (by decide : 9 ≠ 11)).symm.trans h0_) (hoff 12 (by kernel_rfl))))) : gb173 ≠ gb171)))
    have z_NB171_173 := fun (h0_ : up b 11 9 = true) (h1_ : up b 11 11 = true) => (show gb171 ≠ gb173 from ((by rw [hg]; exact Nat.ne_of_lt (blk_lt (g := gb171) (o := .cells #[.int .i64 0, .int .i64 0] 23 (0, 0)) (by (with_reducible repeat (first | refine blk_drewN ?_ _ | refine blk_drew ?_ | refine blk_alloc ?_ _)); exact (Q_BK171 ((up_ne (by decide : 9 ≠ 11)).symm.trans h0_) (hoff 12 (by kernel_rfl))))) : gb171 ≠ gb173)))
    have z_NB173_172 := fun (h0_ : up b 11 10 = true) (h1_ : up b 11 11 = true) => (show gb173 ≠ gb172 from ((by rw [hg]; exact Nat.ne_of_gt (blk_lt (g := gb172) (o := .cells #[.int .i64 0, .int .i64 0] 23 (0, 0)) (by (with_reducible repeat (first | refine blk_drewN ?_ _ | refine blk_drew ?_ | refine blk_alloc ?_ _)); exact (Q_BK172 ((up_ne (by decide : 10 ≠ 11)).symm.trans h0_) (hoff 13 (by kernel_rfl))))) : gb173 ≠ gb172)))
    have z_NB172_173 := fun (h0_ : up b 11 10 = true) (h1_ : up b 11 11 = true) => (show gb172 ≠ gb173 from ((by rw [hg]; exact Nat.ne_of_lt (blk_lt (g := gb172) (o := .cells #[.int .i64 0, .int .i64 0] 23 (0, 0)) (by (with_reducible repeat (first | refine blk_drewN ?_ _ | refine blk_drew ?_ | refine blk_alloc ?_ _)); exact (Q_BK172 ((up_ne (by decide : 10 ≠ 11)).symm.trans h0_) (hoff 13 (by kernel_rfl))))) : gb172 ≠ gb173)))
    have z_BK171 := fun (h0_ : b 9 = true) (h1_ : b 12 = false) => (show w41.heap[gb171]? = some (.cells #[.int .i64 0, .int .i64 0] 23 (0, 0)) from by first | exact (blk_below (g := gb171) (o := .cells #[.int .i64 0, .int .i64 0] 23 (0, 0)) (bk (Q_BK171 h0_ h1_)) hb))
    have z_BK172 := fun (h0_ : b 10 = true) (h1_ : b 13 = false) => (show w41.heap[gb172]? = some (.cells #[.int .i64 0, .int .i64 0] 23 (0, 0)) from by first | exact (blk_below (g := gb172) (o := .cells #[.int .i64 0, .int .i64 0] 23 (0, 0)) (bk (Q_BK172 h0_ h1_)) hb))
    clear BK157
    clear BK158
    clear BK159
    clear BK160
    clear HB
    have BK157 := n0_
    have BK158 := n1_
    have BK159 := n2_
    have BK160 := n3_
    have HB := n4_
    have BK173 := n5_
    have GW173 := n6_
    have GE173 := n7_
    have NB157_173 := n8_
    have NB173_157 := n9_
    have NB158_173 := n10_
    have NB173_158 := n11_
    have NB159_173 := n12_
    have NB173_159 := n13_
    have NB160_173 := n14_
    have NB173_160 := n15_
    clear n0_ n1_ n2_ n3_ n4_ n5_ n6_ n7_ n8_ n9_ n10_ n11_ n12_ n13_ n14_ n15_
    clear hb hbox hg
    refine hK.out _ _ ⟨gb171, gb172, gb173, m9_, m10_, (.pointer (some ⟨gb173, 0, none⟩)), (by rw [ha.out]; exact putSel_upk 11 hb_ rfl rfl rfl), (bk BK157.out), (bk BK158.out), (bk BK159.out), (bk BK160.out), (bw HB.out), Q_NB172_171, Q_NB171_172, @z_NB173_171, @z_NB171_173, @z_NB173_172, @z_NB172_173, z_BK171, Q_GW171, Q_GE171, Q_NB157_171, Q_NB171_157, Q_NB158_171, Q_NB171_158, Q_NB159_171, Q_NB171_159, Q_NB160_171, Q_NB171_160, z_BK172, Q_GW172, Q_GE172, Q_NB157_172, Q_NB172_157, Q_NB158_172, Q_NB172_158, Q_NB159_172, Q_NB172_159, Q_NB160_172, Q_NB172_160, fun _ _ => (bk BK173.out), fun _ => GW173.out, fun _ => GE173.out, fun _ => NB157_173.out, fun _ => NB173_157.out, fun _ => NB158_173.out, fun _ => NB173_158.out, fun _ => NB159_173.out, fun _ => NB173_159.out, fun _ => NB160_173.out, fun _ => NB173_160.out, fun h0_ => absurd ((hoff 12 (by kernel_rfl)).symm.trans h0_) (by decide), fun h0_ => absurd ((hoff 13 (by kernel_rfl)).symm.trans h0_) (by decide), fun h0_ => absurd ((hoff 14 (by kernel_rfl)).symm.trans h0_) (by decide), Q_X9_, Q_X10_, fun _ => rfl⟩
   refine steps_cons ?_ ?_
   ·rintro b a w' ⟨gb171, gb172, gb173, m9_, m10_, m11_, ha, Q_BK157, Q_BK158, Q_BK159, Q_BK160, Q_HB, Q_NB172_171, Q_NB171_172, Q_NB173_171, Q_NB171_173, Q_NB173_172, Q_NB172_173, Q_BK171, Q_GW171, Q_GE171, Q_NB157_171, Q_NB171_157, Q_NB158_171, Q_NB171_158, Q_NB159_171, Q_NB171_159, Q_NB160_171, Q_NB171_160, Q_BK172, Q_GW172, Q_GE172, Q_NB157_172, Q_NB172_157, Q_NB158_172, Q_NB172_158, Q_NB159_172, Q_NB172_159, Q_NB160_172, Q_NB172_160, Q_BK173, Q_GW173, Q_GE173, Q_NB157_173, Q_NB173_157, Q_NB158_173, Q_NB173_158, Q_NB159_173, Q_NB173_159, Q_NB160_173, Q_NB173_160, Q_BK171_e12, Q_BK172_e13, Q_BK173_e14, Q_X9_, Q_X10_, Q_X11_⟩ hb_ hon hoff
    refine ⟨_, rfl, fun K hK => ?_⟩
    have e9 : a.tmps[9]? = some (m9_) := by rw [ha]; exact putSel_on (e := (9, 9, m9_)) 9 rfl rfl (hon 9 (by kernel_rfl)) rfl
    rw [Q_X9_ (hon 9 (by kernel_rfl))] at e9
    have e22 : a.tmps[22]? = some (.agg #[.int .i64 t165, .int .i64 t166]) := by rw [ha]; exact putSel_on (e := (2, 22, .agg #[.int .i64 t165, .int .i64 t166])) 2 rfl rfl (hon 2 (by kernel_rfl)) rfl
    replace ha := Aside0.mk ha
    have BK157 := Aside0.mk Q_BK157
    have BK158 := Aside0.mk Q_BK158
    have BK159 := Aside0.mk Q_BK159
    have BK160 := Aside0.mk Q_BK160
    have HB := Aside0.mk Q_HB
    have NB172_171 := Aside0.mk (Q_NB172_171 (hon 9 (by kernel_rfl)) (hon 10 (by kernel_rfl)))
    have NB171_172 := Aside0.mk (Q_NB171_172 (hon 9 (by kernel_rfl)) (hon 10 (by kernel_rfl)))
    have NB173_171 := Aside0.mk (Q_NB173_171 (hon 9 (by kernel_rfl)) (hon 11 (by kernel_rfl)))
    have NB171_173 := Aside0.mk (Q_NB171_173 (hon 9 (by kernel_rfl)) (hon 11 (by kernel_rfl)))
    have NB173_172 := Aside0.mk (Q_NB173_172 (hon 10 (by kernel_rfl)) (hon 11 (by kernel_rfl)))
    have NB172_173 := Aside0.mk (Q_NB172_173 (hon 10 (by kernel_rfl)) (hon 11 (by kernel_rfl)))
    have BK171 := Aside0.mk (Q_BK171 (hon 9 (by kernel_rfl)) hb_)
    have GW171 := Aside0.mk (Q_GW171 (hon 9 (by kernel_rfl)))
    have GE171 := Aside0.mk (Q_GE171 (hon 9 (by kernel_rfl)))
    have NB157_171 := Aside0.mk (Q_NB157_171 (hon 9 (by kernel_rfl)))
    have NB171_157 := Aside0.mk (Q_NB171_157 (hon 9 (by kernel_rfl)))
    have NB158_171 := Aside0.mk (Q_NB158_171 (hon 9 (by kernel_rfl)))
    have NB171_158 := Aside0.mk (Q_NB171_158 (hon 9 (by kernel_rfl)))
    have NB159_171 := Aside0.mk (Q_NB159_171 (hon 9 (by kernel_rfl)))
    have NB171_159 := Aside0.mk (Q_NB171_159 (hon 9 (by kernel_rfl)))
    have NB160_171 := Aside0.mk (Q_NB160_171 (hon 9 (by kernel_rfl)))
    have NB171_160 := Aside0.mk (Q_NB171_160 (hon 9 (by kernel_rfl)))
    have BK172 := Aside0.mk (Q_BK172 (hon 10 (by kernel_rfl)) (hoff 13 (by kernel_rfl)))
    have GW172 := Aside0.mk (Q_GW172 (hon 10 (by kernel_rfl)))
    have GE172 := Aside0.mk (Q_GE172 (hon 10 (by kernel_rfl)))
    have NB157_172 := Aside0.mk (Q_NB157_172 (hon 10 (by kernel_rfl)))
    have NB172_157 := Aside0.mk (Q_NB172_157 (hon 10 (by kernel_rfl)))
    have NB158_172 := Aside0.mk (Q_NB158_172 (hon 10 (by kernel_rfl)))
    have NB172_158 := Aside0.mk (Q_NB172_158 (hon 10 (by kernel_rfl)))
    have NB159_172 := Aside0.mk (Q_NB159_172 (hon 10 (by kernel_rfl)))
    have NB172_159 := Aside0.mk (Q_NB172_159 (hon 10 (by kernel_rfl)))
    have NB160_172 := Aside0.mk (Q_NB160_172 (hon 10 (by kernel_rfl)))
    have NB172_160 := Aside0.mk (Q_NB172_160 (hon 10 (by kernel_rfl)))
    have BK173 := Aside0.mk (Q_BK173 (hon 11 (by kernel_rfl)) (hoff 14 (by kernel_rfl)))
    have GW173 := Aside0.mk (Q_GW173 (hon 11 (by kernel_rfl)))
    have GE173 := Aside0.mk (Q_GE173 (hon 11 (by kernel_rfl)))
    have NB157_173 := Aside0.mk (Q_NB157_173 (hon 11 (by kernel_rfl)))
    have NB173_157 := Aside0.mk (Q_NB173_157 (hon 11 (by kernel_rfl)))
    have NB158_173 := Aside0.mk (Q_NB158_173 (hon 11 (by kernel_rfl)))
    have NB173_158 := Aside0.mk (Q_NB173_158 (hon 11 (by kernel_rfl)))
    have NB159_173 := Aside0.mk (Q_NB159_173 (hon 11 (by kernel_rfl)))
    have NB173_159 := Aside0.mk (Q_NB173_159 (hon 11 (by kernel_rfl)))
    have NB160_173 := Aside0.mk (Q_NB160_173 (hon 11 (by kernel_rfl)))
    have NB173_160 := Aside0.mk (Q_NB173_160 (hon 11 (by kernel_rfl)))
    have hs48 : w'.cell? ⟨gb171, 0, none⟩ = some (.int .i64 0) := (blk_cell BK171.out 0).trans rfl
    have hfs48 := blk_frozen BK171.out 0
    have hns48_0 := NB157_171.out
    have hns48_1 := NB158_171.out
    have hns48_2 := NB159_171.out
    have hns48_3 := NB160_171.out
    have hns48_5 := NB172_171.out
    have hns48_6 := NB173_171.out
    have hms48_0 := NB171_157.out
    have hms48_1 := NB171_158.out
    have hms48_2 := NB171_159.out
    have hms48_3 := NB171_160.out
    have hms48_5 := NB171_172.out
    have hms48_6 := NB171_173.out
    have hs49 : w'.cell? ⟨gb171, 1, none⟩ = some (.int .i64 0) := (blk_cell BK171.out 1).trans rfl
    have hfs49 := blk_frozen BK171.out 1
    have hns49_0 := NB157_171.out
    have hns49_1 := NB158_171.out
    have hns49_2 := NB159_171.out
    have hns49_3 := NB160_171.out
    have hns49_5 := NB172_171.out
    have hns49_6 := NB173_171.out
    have hms49_0 := NB171_157.out
    have hms49_1 := NB171_158.out
    have hms49_2 := NB171_159.out
    have hms49_3 := NB171_160.out
    have hms49_5 := NB171_172.out
    have hms49_6 := NB171_173.out
    refine skip_ (w1 := ?_) (by rfl) rfl ?_ ?_
    rotate_left
    ·go_simp
     rfl
    refine hK.out _ _ ⟨gb171, gb172, gb173, m9_, m10_, m11_, (by rw [ha.out]; exact putSel_none (v := undef) rfl), (by (with_reducible repeat (first | refine blk_drewN ?_ _ | refine blk_drew ?_ | refine blk_alloc ?_ _)); refine blk_far ?_ NB157_171.out _; (with_reducible repeat (first | refine blk_drewN ?_ _ | refine blk_drew ?_ | refine blk_alloc ?_ _)); refine blk_far ?_ NB157_171.out _; (with_reducible repeat (first | refine blk_drewN ?_ _ | refine blk_drew ?_ | refine blk_alloc ?_ _)); exact BK157.out), (by (with_reducible repeat (first | refine blk_drewN ?_ _ | refine blk_drew ?_ | refine blk_alloc ?_ _)); refine blk_far ?_ NB158_171.out _; (with_reducible repeat (first | refine blk_drewN ?_ _ | refine blk_drew ?_ | refine blk_alloc ?_ _)); refine blk_far ?_ NB158_171.out _; (with_reducible repeat (first | refine blk_drewN ?_ _ | refine blk_drew ?_ | refine blk_alloc ?_ _)); exact BK158.out), (by (with_reducible repeat (first | refine blk_drewN ?_ _ | refine blk_drew ?_ | refine blk_alloc ?_ _)); refine blk_far ?_ NB159_171.out _; (with_reducible repeat (first | refine blk_drewN ?_ _ | refine blk_drew ?_ | refine blk_alloc ?_ _)); refine blk_far ?_ NB159_171.out _; (with_reducible repeat (first | refine blk_drewN ?_ _ | refine blk_drew ?_ | refine blk_alloc ?_ _)); exact BK159.out), (by (with_reducible repeat (first | refine blk_drewN ?_ _ | refine blk_drew ?_ | refine blk_alloc ?_ _)); refine blk_far ?_ NB160_171.out _; (with_reducible repeat (first | refine blk_drewN ?_ _ | refine blk_drew ?_ | refine blk_alloc ?_ _)); refine blk_far ?_ NB160_171.out _; (with_reducible repeat (first | refine blk_drewN ?_ _ | refine blk_drew ?_ | refine blk_alloc ?_ _)); exact BK160.out), (by repeat (first | (with_reducible first | exact HB.out | apply below_alloc | apply pw_below_drewN | apply below_drew1 | refine below_set ?_ GE157.out | refine below_set ?_ GE158.out | refine below_set ?_ GE159.out | refine below_set ?_ GE160.out | refine below_set ?_ GE171.out | refine below_set ?_ GE172.out | refine below_set ?_ GE173.out) | exact HB.out)), fun _ _ => NB172_171.out, fun _ _ => NB171_172.out, fun _ _ => NB173_171.out, fun _ _ => NB171_173.out, fun _ _ => NB173_172.out, fun _ _ => NB172_173.out, fun _ h1_ => absurd ((up_self b 12).symm.trans h1_) (by decide), fun _ => GW171.out, fun _ => GE171.out, fun _ => NB157_171.out, fun _ => NB171_157.out, fun _ => NB158_171.out, fun _ => NB171_158.out, fun _ => NB159_171.out, fun _ => NB171_159.out, fun _ => NB160_171.out, fun _ => NB171_160.out, fun _ _ => (by (with_reducible repeat (first | refine blk_drewN ?_ _ | refine blk_drew ?_ | refine blk_alloc ?_ _)); refine blk_far ?_ NB172_171.out _; (with_reducible repeat (first | refine blk_drewN ?_ _ | refine blk_drew ?_ | refine blk_alloc ?_ _)); refine blk_far ?_ NB172_171.out _; (with_reducible repeat (first | refine blk_drewN ?_ _ | refine blk_drew ?_ | refine blk_alloc ?_ _)); exact BK172.out), fun _ => GW172.out, fun _ => GE172.out, fun _ => NB157_172.out, fun _ => NB172_157.out, fun _ => NB158_172.out, fun _ => NB172_158.out, fun _ => NB159_172.out, fun _ => NB172_159.out, fun _ => NB160_172.out, fun _ => NB172_160.out, fun _ _ => (by (with_reducible repeat (first | refine blk_drewN ?_ _ | refine blk_drew ?_ | refine blk_alloc ?_ _)); refine blk_far ?_ NB173_171.out _; (with_reducible repeat (first | refine blk_drewN ?_ _ | refine blk_drew ?_ | refine blk_alloc ?_ _)); refine blk_far ?_ NB173_171.out _; (with_reducible repeat (first | refine blk_drewN ?_ _ | refine blk_drew ?_ | refine blk_alloc ?_ _)); exact BK173.out), fun _ => GW173.out, fun _ => GE173.out, fun _ => NB157_173.out, fun _ => NB173_157.out, fun _ => NB158_173.out, fun _ => NB173_158.out, fun _ => NB159_173.out, fun _ => NB173_159.out, fun _ => NB160_173.out, fun _ => NB173_160.out, fun _ => (by (with_reducible repeat (first | refine blk_drewN ?_ _ | refine blk_drew ?_ | refine blk_alloc ?_ _)); refine blk_put (cs := #[.int .i64 t165, .int .i64 0]) ?_ 1 _ rfl; (with_reducible repeat (first | refine blk_drewN ?_ _ | refine blk_drew ?_ | refine blk_alloc ?_ _)); refine blk_put (cs := #[.int .i64 0, .int .i64 0]) ?_ 0 _ rfl; (with_reducible repeat (first | refine blk_drewN ?_ _ | refine blk_drew ?_ | refine blk_alloc ?_ _)); exact BK171.out), fun h0_ => absurd ((hoff 13 (by kernel_rfl)).symm.trans h0_) (by decide), fun h0_ => absurd ((hoff 14 (by kernel_rfl)).symm.trans h0_) (by decide), Q_X9_, Q_X10_, Q_X11_⟩
   refine steps_cons ?_ ?_
   ·rintro b a w' ⟨gb171, gb172, gb173, m9_, m10_, m11_, ha, Q_BK157, Q_BK158, Q_BK159, Q_BK160, Q_HB, Q_NB172_171, Q_NB171_172, Q_NB173_171, Q_NB171_173, Q_NB173_172, Q_NB172_173, Q_BK171, Q_GW171, Q_GE171, Q_NB157_171, Q_NB171_157, Q_NB158_171, Q_NB171_158, Q_NB159_171, Q_NB171_159, Q_NB160_171, Q_NB171_160, Q_BK172, Q_GW172, Q_GE172, Q_NB157_172, Q_NB172_157, Q_NB158_172, Q_NB172_158, Q_NB159_172, Q_NB172_159, Q_NB160_172, Q_NB172_160, Q_BK173, Q_GW173, Q_GE173, Q_NB157_173, Q_NB173_157, Q_NB158_173, Q_NB173_158, Q_NB159_173, Q_NB173_159, Q_NB160_173, Q_NB173_160, Q_BK171_e12, Q_BK172_e13, Q_BK173_e14, Q_X9_, Q_X10_, Q_X11_⟩ hb_ hon hoff
    refine ⟨_, rfl, fun K hK => ?_⟩
    have e10 : a.tmps[10]? = some (m10_) := by rw [ha]; exact putSel_on (e := (10, 10, m10_)) 10 rfl rfl (hon 10 (by kernel_rfl)) rfl
    rw [Q_X10_ (hon 10 (by kernel_rfl))] at e10
    have e25 : a.tmps[25]? = some (.agg #[.int .i64 t167, .int .i64 t168]) := by rw [ha]; exact putSel_on (e := (5, 25, .agg #[.int .i64 t167, .int .i64 t168])) 5 rfl rfl (hon 5 (by kernel_rfl)) rfl
    replace ha := Aside0.mk ha
    have BK157 := Aside0.mk Q_BK157
    have BK158 := Aside0.mk Q_BK158
    have BK159 := Aside0.mk Q_BK159
    have BK160 := Aside0.mk Q_BK160
    have HB := Aside0.mk Q_HB
    have NB172_171 := Aside0.mk (Q_NB172_171 (hon 9 (by kernel_rfl)) (hon 10 (by kernel_rfl)))
    have NB171_172 := Aside0.mk (Q_NB171_172 (hon 9 (by kernel_rfl)) (hon 10 (by kernel_rfl)))
    have NB173_171 := Aside0.mk (Q_NB173_171 (hon 9 (by kernel_rfl)) (hon 11 (by kernel_rfl)))
    have NB171_173 := Aside0.mk (Q_NB171_173 (hon 9 (by kernel_rfl)) (hon 11 (by kernel_rfl)))
    have NB173_172 := Aside0.mk (Q_NB173_172 (hon 10 (by kernel_rfl)) (hon 11 (by kernel_rfl)))
    have NB172_173 := Aside0.mk (Q_NB172_173 (hon 10 (by kernel_rfl)) (hon 11 (by kernel_rfl)))
    have GW171 := Aside0.mk (Q_GW171 (hon 9 (by kernel_rfl)))
    have GE171 := Aside0.mk (Q_GE171 (hon 9 (by kernel_rfl)))
    have NB157_171 := Aside0.mk (Q_NB157_171 (hon 9 (by kernel_rfl)))
    have NB171_157 := Aside0.mk (Q_NB171_157 (hon 9 (by kernel_rfl)))
    have NB158_171 := Aside0.mk (Q_NB158_171 (hon 9 (by kernel_rfl)))
    have NB171_158 := Aside0.mk (Q_NB171_158 (hon 9 (by kernel_rfl)))
    have NB159_171 := Aside0.mk (Q_NB159_171 (hon 9 (by kernel_rfl)))
    have NB171_159 := Aside0.mk (Q_NB171_159 (hon 9 (by kernel_rfl)))
    have NB160_171 := Aside0.mk (Q_NB160_171 (hon 9 (by kernel_rfl)))
    have NB171_160 := Aside0.mk (Q_NB171_160 (hon 9 (by kernel_rfl)))
    have BK172 := Aside0.mk (Q_BK172 (hon 10 (by kernel_rfl)) hb_)
    have GW172 := Aside0.mk (Q_GW172 (hon 10 (by kernel_rfl)))
    have GE172 := Aside0.mk (Q_GE172 (hon 10 (by kernel_rfl)))
    have NB157_172 := Aside0.mk (Q_NB157_172 (hon 10 (by kernel_rfl)))
    have NB172_157 := Aside0.mk (Q_NB172_157 (hon 10 (by kernel_rfl)))
    have NB158_172 := Aside0.mk (Q_NB158_172 (hon 10 (by kernel_rfl)))
    have NB172_158 := Aside0.mk (Q_NB172_158 (hon 10 (by kernel_rfl)))
    have NB159_172 := Aside0.mk (Q_NB159_172 (hon 10 (by kernel_rfl)))
    have NB172_159 := Aside0.mk (Q_NB172_159 (hon 10 (by kernel_rfl)))
    have NB160_172 := Aside0.mk (Q_NB160_172 (hon 10 (by kernel_rfl)))
    have NB172_160 := Aside0.mk (Q_NB172_160 (hon 10 (by kernel_rfl)))
    have BK173 := Aside0.mk (Q_BK173 (hon 11 (by kernel_rfl)) (hoff 14 (by kernel_rfl)))
    have GW173 := Aside0.mk (Q_GW173 (hon 11 (by kernel_rfl)))
    have GE173 := Aside0.mk (Q_GE173 (hon 11 (by kernel_rfl)))
    have NB157_173 := Aside0.mk (Q_NB157_173 (hon 11 (by kernel_rfl)))
    have NB173_157 := Aside0.mk (Q_NB173_157 (hon 11 (by kernel_rfl)))
    have NB158_173 := Aside0.mk (Q_NB158_173 (hon 11 (by kernel_rfl)))
    have NB173_158 := Aside0.mk (Q_NB173_158 (hon 11 (by kernel_rfl)))
    have NB159_173 := Aside0.mk (Q_NB159_173 (hon 11 (by kernel_rfl)))
    have NB173_159 := Aside0.mk (Q_NB173_159 (hon 11 (by kernel_rfl)))
    have NB160_173 := Aside0.mk (Q_NB160_173 (hon 11 (by kernel_rfl)))
    have NB173_160 := Aside0.mk (Q_NB173_160 (hon 11 (by kernel_rfl)))
    have BK171 := Aside0.mk (Q_BK171_e12 (hon 12 (by kernel_rfl)))
    have hs50 : w'.cell? ⟨gb172, 0, none⟩ = some (.int .i64 0) := (blk_cell BK172.out 0).trans rfl
    have hfs50 := blk_frozen BK172.out 0
    have hns50_0 := NB157_172.out
    have hns50_1 := NB158_172.out
    have hns50_2 := NB159_172.out
    have hns50_3 := NB160_172.out
    have hns50_4 := NB171_172.out
    have hns50_6 := NB173_172.out
    have hms50_0 := NB172_157.out
    have hms50_1 := NB172_158.out
    have hms50_2 := NB172_159.out
    have hms50_3 := NB172_160.out
    have hms50_4 := NB172_171.out
    have hms50_6 := NB172_173.out
    have hs51 : w'.cell? ⟨gb172, 1, none⟩ = some (.int .i64 0) := (blk_cell BK172.out 1).trans rfl
    have hfs51 := blk_frozen BK172.out 1
    have hns51_0 := NB157_172.out
    have hns51_1 := NB158_172.out
    have hns51_2 := NB159_172.out
    have hns51_3 := NB160_172.out
    have hns51_4 := NB171_172.out
    have hns51_6 := NB173_172.out
    have hms51_0 := NB172_157.out
    have hms51_1 := NB172_158.out
    have hms51_2 := NB172_159.out
    have hms51_3 := NB172_160.out
    have hms51_4 := NB172_171.out
    have hms51_6 := NB172_173.out
    refine skip_ (w1 := ?_) (by rfl) rfl ?_ ?_
    rotate_left
    ·go_simp
     rfl
    refine hK.out _ _ ⟨gb171, gb172, gb173, m9_, m10_, m11_, (by rw [ha.out]; exact putSel_none (v := undef) rfl), (by (with_reducible repeat (first | refine blk_drewN ?_ _ | refine blk_drew ?_ | refine blk_alloc ?_ _)); refine blk_far ?_ NB157_172.out _; (with_reducible repeat (first | refine blk_drewN ?_ _ | refine blk_drew ?_ | refine blk_alloc ?_ _)); refine blk_far ?_ NB157_172.out _; (with_reducible repeat (first | refine blk_drewN ?_ _ | refine blk_drew ?_ | refine blk_alloc ?_ _)); exact BK157.out), (by (with_reducible repeat (first | refine blk_drewN ?_ _ | refine blk_drew ?_ | refine blk_alloc ?_ _)); refine blk_far ?_ NB158_172.out _; (with_reducible repeat (first | refine blk_drewN ?_ _ | refine blk_drew ?_ | refine blk_alloc ?_ _)); refine blk_far ?_ NB158_172.out _; (with_reducible repeat (first | refine blk_drewN ?_ _ | refine blk_drew ?_ | refine blk_alloc ?_ _)); exact BK158.out), (by (with_reducible repeat (first | refine blk_drewN ?_ _ | refine blk_drew ?_ | refine blk_alloc ?_ _)); refine blk_far ?_ NB159_172.out _; (with_reducible repeat (first | refine blk_drewN ?_ _ | refine blk_drew ?_ | refine blk_alloc ?_ _)); refine blk_far ?_ NB159_172.out _; (with_reducible repeat (first | refine blk_drewN ?_ _ | refine blk_drew ?_ | refine blk_alloc ?_ _)); exact BK159.out), (by (with_reducible repeat (first | refine blk_drewN ?_ _ | refine blk_drew ?_ | refine blk_alloc ?_ _)); refine blk_far ?_ NB160_172.out _; (with_reducible repeat (first | refine blk_drewN ?_ _ | refine blk_drew ?_ | refine blk_alloc ?_ _)); refine blk_far ?_ NB160_172.out _; (with_reducible repeat (first | refine blk_drewN ?_ _ | refine blk_drew ?_ | refine blk_alloc ?_ _)); exact BK160.out), (by repeat (first | (with_reducible first | exact HB.out | apply below_alloc | apply pw_below_drewN | apply below_drew1 | refine below_set ?_ GE157.out | refine below_set ?_ GE158.out | refine below_set ?_ GE159.out | refine below_set ?_ GE160.out | refine below_set ?_ GE171.out | refine below_set ?_ GE172.out | refine below_set ?_ GE173.out) | exact HB.out)), fun _ _ => NB172_171.out, fun _ _ => NB171_172.out, fun _ _ => NB173_171.out, fun _ _ => NB171_173.out, fun _ _ => NB173_172.out, fun _ _ => NB172_173.out, fun _ h1_ => absurd ((hon 12 (by kernel_rfl)).symm.trans h1_) (by decide), fun _ => GW171.out, fun _ => GE171.out, fun _ => NB157_171.out, fun _ => NB171_157.out, fun _ => NB158_171.out, fun _ => NB171_158.out, fun _ => NB159_171.out, fun _ => NB171_159.out, fun _ => NB160_171.out, fun _ => NB171_160.out, fun _ h1_ => absurd ((up_self b 13).symm.trans h1_) (by decide), fun _ => GW172.out, fun _ => GE172.out, fun _ => NB157_172.out, fun _ => NB172_157.out, fun _ => NB158_172.out, fun _ => NB172_158.out, fun _ => NB159_172.out, fun _ => NB172_159.out, fun _ => NB160_172.out, fun _ => NB172_160.out, fun _ _ => (by (with_reducible repeat (first | refine blk_drewN ?_ _ | refine blk_drew ?_ | refine blk_alloc ?_ _)); refine blk_far ?_ NB173_172.out _; (with_reducible repeat (first | refine blk_drewN ?_ _ | refine blk_drew ?_ | refine blk_alloc ?_ _)); refine blk_far ?_ NB173_172.out _; (with_reducible repeat (first | refine blk_drewN ?_ _ | refine blk_drew ?_ | refine blk_alloc ?_ _)); exact BK173.out), fun _ => GW173.out, fun _ => GE173.out, fun _ => NB157_173.out, fun _ => NB173_157.out, fun _ => NB158_173.out, fun _ => NB173_158.out, fun _ => NB159_173.out, fun _ => NB173_159.out, fun _ => NB160_173.out, fun _ => NB173_160.out, fun _ => (by (with_reducible repeat (first | refine blk_drewN ?_ _ | refine blk_drew ?_ | refine blk_alloc ?_ _)); refine blk_far ?_ NB171_172.out _; (with_reducible repeat (first | refine blk_drewN ?_ _ | refine blk_drew ?_ | refine blk_alloc ?_ _)); refine blk_far ?_ NB171_172.out _; (with_reducible repeat (first | refine blk_drewN ?_ _ | refine blk_drew ?_ | refine blk_alloc ?_ _)); exact BK171.out), fun _ => (by (with_reducible repeat (first | refine blk_drewN ?_ _ | refine blk_drew ?_ | refine blk_alloc ?_ _)); refine blk_put (cs := #[.int .i64 t167, .int .i64 0]) ?_ 1 _ rfl; (with_reducible repeat (first | refine blk_drewN ?_ _ | refine blk_drew ?_ | refine blk_alloc ?_ _)); refine blk_put (cs := #[.int .i64 0, .int .i64 0]) ?_ 0 _ rfl; (with_reducible repeat (first | refine blk_drewN ?_ _ | refine blk_drew ?_ | refine blk_alloc ?_ _)); exact BK172.out), fun h0_ => absurd ((hoff 14 (by kernel_rfl)).symm.trans h0_) (by decide), Q_X9_, Q_X10_, Q_X11_⟩
   refine steps_cons ?_ ?_
   ·rintro b a w' ⟨gb171, gb172, gb173, m9_, m10_, m11_, ha, Q_BK157, Q_BK158, Q_BK159, Q_BK160, Q_HB, Q_NB172_171, Q_NB171_172, Q_NB173_171, Q_NB171_173, Q_NB173_172, Q_NB172_173, Q_BK171, Q_GW171, Q_GE171, Q_NB157_171, Q_NB171_157, Q_NB158_171, Q_NB171_158, Q_NB159_171, Q_NB171_159, Q_NB160_171, Q_NB171_160, Q_BK172, Q_GW172, Q_GE172, Q_NB157_172, Q_NB172_157, Q_NB158_172, Q_NB172_158, Q_NB159_172, Q_NB172_159, Q_NB160_172, Q_NB172_160, Q_BK173, Q_GW173, Q_GE173, Q_NB157_173, Q_NB173_157, Q_NB158_173, Q_NB173_158, Q_NB159_173, Q_NB173_159, Q_NB160_173, Q_NB173_160, Q_BK171_e12, Q_BK172_e13, Q_BK173_e14, Q_X9_, Q_X10_, Q_X11_⟩ hb_ hon hoff
    refine ⟨_, rfl, fun K hK => ?_⟩
    have e11 : a.tmps[11]? = some (m11_) := by rw [ha]; exact putSel_on (e := (11, 11, m11_)) 11 rfl rfl (hon 11 (by kernel_rfl)) rfl
    rw [Q_X11_ (hon 11 (by kernel_rfl))] at e11
    have e28 : a.tmps[28]? = some (.agg #[.int .i64 t169, .int .i64 t170]) := by rw [ha]; exact putSel_on (e := (8, 28, .agg #[.int .i64 t169, .int .i64 t170])) 8 rfl rfl (hon 8 (by kernel_rfl)) rfl
    replace ha := Aside0.mk ha
    have BK157 := Aside0.mk Q_BK157
    have BK158 := Aside0.mk Q_BK158
    have BK159 := Aside0.mk Q_BK159
    have BK160 := Aside0.mk Q_BK160
    have HB := Aside0.mk Q_HB
    have NB172_171 := Aside0.mk (Q_NB172_171 (hon 9 (by kernel_rfl)) (hon 10 (by kernel_rfl)))
    have NB171_172 := Aside0.mk (Q_NB171_172 (hon 9 (by kernel_rfl)) (hon 10 (by kernel_rfl)))
    have NB173_171 := Aside0.mk (Q_NB173_171 (hon 9 (by kernel_rfl)) (hon 11 (by kernel_rfl)))
    have NB171_173 := Aside0.mk (Q_NB171_173 (hon 9 (by kernel_rfl)) (hon 11 (by kernel_rfl)))
    have NB173_172 := Aside0.mk (Q_NB173_172 (hon 10 (by kernel_rfl)) (hon 11 (by kernel_rfl)))
    have NB172_173 := Aside0.mk (Q_NB172_173 (hon 10 (by kernel_rfl)) (hon 11 (by kernel_rfl)))
    have GW171 := Aside0.mk (Q_GW171 (hon 9 (by kernel_rfl)))
    have GE171 := Aside0.mk (Q_GE171 (hon 9 (by kernel_rfl)))
    have NB157_171 := Aside0.mk (Q_NB157_171 (hon 9 (by kernel_rfl)))
    have NB171_157 := Aside0.mk (Q_NB171_157 (hon 9 (by kernel_rfl)))
    have NB158_171 := Aside0.mk (Q_NB158_171 (hon 9 (by kernel_rfl)))
    have NB171_158 := Aside0.mk (Q_NB171_158 (hon 9 (by kernel_rfl)))
    have NB159_171 := Aside0.mk (Q_NB159_171 (hon 9 (by kernel_rfl)))
    have NB171_159 := Aside0.mk (Q_NB171_159 (hon 9 (by kernel_rfl)))
    have NB160_171 := Aside0.mk (Q_NB160_171 (hon 9 (by kernel_rfl)))
    have NB171_160 := Aside0.mk (Q_NB171_160 (hon 9 (by kernel_rfl)))
    have GW172 := Aside0.mk (Q_GW172 (hon 10 (by kernel_rfl)))
    have GE172 := Aside0.mk (Q_GE172 (hon 10 (by kernel_rfl)))
    have NB157_172 := Aside0.mk (Q_NB157_172 (hon 10 (by kernel_rfl)))
    have NB172_157 := Aside0.mk (Q_NB172_157 (hon 10 (by kernel_rfl)))
    have NB158_172 := Aside0.mk (Q_NB158_172 (hon 10 (by kernel_rfl)))
    have NB172_158 := Aside0.mk (Q_NB172_158 (hon 10 (by kernel_rfl)))
    have NB159_172 := Aside0.mk (Q_NB159_172 (hon 10 (by kernel_rfl)))
    have NB172_159 := Aside0.mk (Q_NB172_159 (hon 10 (by kernel_rfl)))
    have NB160_172 := Aside0.mk (Q_NB160_172 (hon 10 (by kernel_rfl)))
    have NB172_160 := Aside0.mk (Q_NB172_160 (hon 10 (by kernel_rfl)))
    have BK173 := Aside0.mk (Q_BK173 (hon 11 (by kernel_rfl)) hb_)
    have GW173 := Aside0.mk (Q_GW173 (hon 11 (by kernel_rfl)))
    have GE173 := Aside0.mk (Q_GE173 (hon 11 (by kernel_rfl)))
    have NB157_173 := Aside0.mk (Q_NB157_173 (hon 11 (by kernel_rfl)))
    have NB173_157 := Aside0.mk (Q_NB173_157 (hon 11 (by kernel_rfl)))
    have NB158_173 := Aside0.mk (Q_NB158_173 (hon 11 (by kernel_rfl)))
    have NB173_158 := Aside0.mk (Q_NB173_158 (hon 11 (by kernel_rfl)))
    have NB159_173 := Aside0.mk (Q_NB159_173 (hon 11 (by kernel_rfl)))
    have NB173_159 := Aside0.mk (Q_NB173_159 (hon 11 (by kernel_rfl)))
    have NB160_173 := Aside0.mk (Q_NB160_173 (hon 11 (by kernel_rfl)))
    have NB173_160 := Aside0.mk (Q_NB173_160 (hon 11 (by kernel_rfl)))
    have BK171 := Aside0.mk (Q_BK171_e12 (hon 12 (by kernel_rfl)))
    have BK172 := Aside0.mk (Q_BK172_e13 (hon 13 (by kernel_rfl)))
    have hs52 : w'.cell? ⟨gb173, 0, none⟩ = some (.int .i64 0) := (blk_cell BK173.out 0).trans rfl
    have hfs52 := blk_frozen BK173.out 0
    have hns52_0 := NB157_173.out
    have hns52_1 := NB158_173.out
    have hns52_2 := NB159_173.out
    have hns52_3 := NB160_173.out
    have hns52_4 := NB171_173.out
    have hns52_5 := NB172_173.out
    have hms52_0 := NB173_157.out
    have hms52_1 := NB173_158.out
    have hms52_2 := NB173_159.out
    have hms52_3 := NB173_160.out
    have hms52_4 := NB173_171.out
    have hms52_5 := NB173_172.out
    have hs53 : w'.cell? ⟨gb173, 1, none⟩ = some (.int .i64 0) := (blk_cell BK173.out 1).trans rfl
    have hfs53 := blk_frozen BK173.out 1
    have hns53_0 := NB157_173.out
    have hns53_1 := NB158_173.out
    have hns53_2 := NB159_173.out
    have hns53_3 := NB160_173.out
    have hns53_4 := NB171_173.out
    have hns53_5 := NB172_173.out
    have hms53_0 := NB173_157.out
    have hms53_1 := NB173_158.out
    have hms53_2 := NB173_159.out
    have hms53_3 := NB173_160.out
    have hms53_4 := NB173_171.out
    have hms53_5 := NB173_172.out
    refine skip_ (w1 := ?_) (by rfl) rfl ?_ ?_
    rotate_left
    ·go_simp
     rfl
    refine hK.out _ _ ⟨gb171, gb172, gb173, m9_, m10_, m11_, (by rw [ha.out]; exact putSel_none (v := undef) rfl), (by (with_reducible repeat (first | refine blk_drewN ?_ _ | refine blk_drew ?_ | refine blk_alloc ?_ _)); refine blk_far ?_ NB157_173.out _; (with_reducible repeat (first | refine blk_drewN ?_ _ | refine blk_drew ?_ | refine blk_alloc ?_ _)); refine blk_far ?_ NB157_173.out _; (with_reducible repeat (first | refine blk_drewN ?_ _ | refine blk_drew ?_ | refine blk_alloc ?_ _)); exact BK157.out), (by (with_reducible repeat (first | refine blk_drewN ?_ _ | refine blk_drew ?_ | refine blk_alloc ?_ _)); refine blk_far ?_ NB158_173.out _; (with_reducible repeat (first | refine blk_drewN ?_ _ | refine blk_drew ?_ | refine blk_alloc ?_ _)); refine blk_far ?_ NB158_173.out _; (with_reducible repeat (first | refine blk_drewN ?_ _ | refine blk_drew ?_ | refine blk_alloc ?_ _)); exact BK158.out), (by (with_reducible repeat (first | refine blk_drewN ?_ _ | refine blk_drew ?_ | refine blk_alloc ?_ _)); refine blk_far ?_ NB159_173.out _; (with_reducible repeat (first | refine blk_drewN ?_ _ | refine blk_drew ?_ | refine blk_alloc ?_ _)); refine blk_far ?_ NB159_173.out _; (with_reducible repeat (first | refine blk_drewN ?_ _ | refine blk_drew ?_ | refine blk_alloc ?_ _)); exact BK159.out), (by (with_reducible repeat (first | refine blk_drewN ?_ _ | refine blk_drew ?_ | refine blk_alloc ?_ _)); refine blk_far ?_ NB160_173.out _; (with_reducible repeat (first | refine blk_drewN ?_ _ | refine blk_drew ?_ | refine blk_alloc ?_ _)); refine blk_far ?_ NB160_173.out _; (with_reducible repeat (first | refine blk_drewN ?_ _ | refine blk_drew ?_ | refine blk_alloc ?_ _)); exact BK160.out), (by repeat (first | (with_reducible first | exact HB.out | apply below_alloc | apply pw_below_drewN | apply below_drew1 | refine below_set ?_ GE157.out | refine below_set ?_ GE158.out | refine below_set ?_ GE159.out | refine below_set ?_ GE160.out | refine below_set ?_ GE171.out | refine below_set ?_ GE172.out | refine below_set ?_ GE173.out) | exact HB.out)), fun _ _ => NB172_171.out, fun _ _ => NB171_172.out, fun _ _ => NB173_171.out, fun _ _ => NB171_173.out, fun _ _ => NB173_172.out, fun _ _ => NB172_173.out, fun _ h1_ => absurd ((hon 12 (by kernel_rfl)).symm.trans h1_) (by decide), fun _ => GW171.out, fun _ => GE171.out, fun _ => NB157_171.out, fun _ => NB171_157.out, fun _ => NB158_171.out, fun _ => NB171_158.out, fun _ => NB159_171.out, fun _ => NB171_159.out, fun _ => NB160_171.out, fun _ => NB171_160.out, fun _ h1_ => absurd ((hon 13 (by kernel_rfl)).symm.trans h1_) (by decide), fun _ => GW172.out, fun _ => GE172.out, fun _ => NB157_172.out, fun _ => NB172_157.out, fun _ => NB158_172.out, fun _ => NB172_158.out, fun _ => NB159_172.out, fun _ => NB172_159.out, fun _ => NB160_172.out, fun _ => NB172_160.out, fun _ h1_ => absurd ((up_self b 14).symm.trans h1_) (by decide), fun _ => GW173.out, fun _ => GE173.out, fun _ => NB157_173.out, fun _ => NB173_157.out, fun _ => NB158_173.out, fun _ => NB173_158.out, fun _ => NB159_173.out, fun _ => NB173_159.out, fun _ => NB160_173.out, fun _ => NB173_160.out, fun _ => (by (with_reducible repeat (first | refine blk_drewN ?_ _ | refine blk_drew ?_ | refine blk_alloc ?_ _)); refine blk_far ?_ NB171_173.out _; (with_reducible repeat (first | refine blk_drewN ?_ _ | refine blk_drew ?_ | refine blk_alloc ?_ _)); refine blk_far ?_ NB171_173.out _; (with_reducible repeat (first | refine blk_drewN ?_ _ | refine blk_drew ?_ | refine blk_alloc ?_ _)); exact BK171.out), fun _ => (by (with_reducible repeat (first | refine blk_drewN ?_ _ | refine blk_drew ?_ | refine blk_alloc ?_ _)); refine blk_far ?_ NB172_173.out _; (with_reducible repeat (first | refine blk_drewN ?_ _ | refine blk_drew ?_ | refine blk_alloc ?_ _)); refine blk_far ?_ NB172_173.out _; (with_reducible repeat (first | refine blk_drewN ?_ _ | refine blk_drew ?_ | refine blk_alloc ?_ _)); exact BK172.out), fun _ => (by (with_reducible repeat (first | refine blk_drewN ?_ _ | refine blk_drew ?_ | refine blk_alloc ?_ _)); refine blk_put (cs := #[.int .i64 t169, .int .i64 0]) ?_ 1 _ rfl; (with_reducible repeat (first | refine blk_drewN ?_ _ | refine blk_drew ?_ | refine blk_alloc ?_ _)); refine blk_put (cs := #[.int .i64 0, .int .i64 0]) ?_ 0 _ rfl; (with_reducible repeat (first | refine blk_drewN ?_ _ | refine blk_drew ?_ | refine blk_alloc ?_ _)); exact BK173.out), Q_X9_, Q_X10_, Q_X11_⟩
   exact steps_nil
  rintro b a w53 hall ⟨gb171, gb172, gb173, m9_, m10_, m11_, ha, Q_BK157, Q_BK158, Q_BK159, Q_BK160, Q_HB, Q_NB172_171, Q_NB171_172, Q_NB173_171, Q_NB171_173, Q_NB173_172, Q_NB172_173, Q_BK171, Q_GW171, Q_GE171, Q_NB157_171, Q_NB171_157, Q_NB158_171, Q_NB171_158, Q_NB159_171, Q_NB171_159, Q_NB160_171, Q_NB171_160, Q_BK172, Q_GW172, Q_GE172, Q_NB157_172, Q_NB172_157, Q_NB158_172, Q_NB172_158, Q_NB159_172, Q_NB172_159, Q_NB160_172, Q_NB172_160, Q_BK173, Q_GW173, Q_GE173, Q_NB157_173, Q_NB173_157, Q_NB158_173, Q_NB173_158, Q_NB159_173, Q_NB173_159, Q_NB160_173, Q_NB173_160, Q_BK171_e12, Q_BK172_e13, Q_BK173_e14, Q_X9_, Q_X10_, Q_X11_⟩
  clear BK157 BK158 BK159 BK160 HB
  have hb0_ := hall 0 (by kernel_rfl)
  have hb1_ := hall 1 (by kernel_rfl)
  have hb2_ := hall 2 (by kernel_rfl)
  have hb3_ := hall 3 (by kernel_rfl)
  have hb4_ := hall 4 (by kernel_rfl)
  have hb5_ := hall 5 (by kernel_rfl)
  have hb6_ := hall 6 (by kernel_rfl)
  have hb7_ := hall 7 (by kernel_rfl)
  have hb8_ := hall 8 (by kernel_rfl)
  have hb9_ := hall 9 (by kernel_rfl)
  have hb10_ := hall 10 (by kernel_rfl)
  have hb11_ := hall 11 (by kernel_rfl)
  have hb12_ := hall 12 (by kernel_rfl)
  have hb13_ := hall 13 (by kernel_rfl)
  have hb14_ := hall 14 (by kernel_rfl)
  subst ha
  obtain rfl := Q_X9_ hb9_
  obtain rfl := Q_X10_ hb10_
  obtain rfl := Q_X11_ hb11_
  simp only [putSel, hb0_, hb1_, hb2_, hb3_, hb4_, hb5_, hb6_, hb7_, hb8_, hb9_, hb10_, hb11_, hb12_, hb13_, hb14_, if_true, Act.put, List.setIfInBounds_toArray, List.set_cons_zero, List.set_cons_succ]
  have BK157 := Aside0.mk Q_BK157
  clear Q_BK157
  have BK158 := Aside0.mk Q_BK158
  clear Q_BK158
  have BK159 := Aside0.mk Q_BK159
  clear Q_BK159
  have BK160 := Aside0.mk Q_BK160
  clear Q_BK160
  have HB := Aside0.mk Q_HB
  clear Q_HB
  have NB172_171 := Aside0.mk (Q_NB172_171 hb9_ hb10_)
  clear Q_NB172_171
  have NB171_172 := Aside0.mk (Q_NB171_172 hb9_ hb10_)
  clear Q_NB171_172
  have NB173_171 := Aside0.mk (Q_NB173_171 hb9_ hb11_)
  clear Q_NB173_171
  have NB171_173 := Aside0.mk (Q_NB171_173 hb9_ hb11_)
  clear Q_NB171_173
  have NB173_172 := Aside0.mk (Q_NB173_172 hb10_ hb11_)
  clear Q_NB173_172
  have NB172_173 := Aside0.mk (Q_NB172_173 hb10_ hb11_)
  clear Q_NB172_173
  clear Q_BK171
  have GW171 := Aside0.mk (Q_GW171 hb9_)
  clear Q_GW171
  have GE171 := Aside0.mk (Q_GE171 hb9_)
  clear Q_GE171
  have NB157_171 := Aside0.mk (Q_NB157_171 hb9_)
  clear Q_NB157_171
  have NB171_157 := Aside0.mk (Q_NB171_157 hb9_)
  clear Q_NB171_157
  have NB158_171 := Aside0.mk (Q_NB158_171 hb9_)
  clear Q_NB158_171
  have NB171_158 := Aside0.mk (Q_NB171_158 hb9_)
  clear Q_NB171_158
  have NB159_171 := Aside0.mk (Q_NB159_171 hb9_)
  clear Q_NB159_171
  have NB171_159 := Aside0.mk (Q_NB171_159 hb9_)
  clear Q_NB171_159
  have NB160_171 := Aside0.mk (Q_NB160_171 hb9_)
  clear Q_NB160_171
  have NB171_160 := Aside0.mk (Q_NB171_160 hb9_)
  clear Q_NB171_160
  clear Q_BK172
  have GW172 := Aside0.mk (Q_GW172 hb10_)
  clear Q_GW172
  have GE172 := Aside0.mk (Q_GE172 hb10_)
  clear Q_GE172
  have NB157_172 := Aside0.mk (Q_NB157_172 hb10_)
  clear Q_NB157_172
  have NB172_157 := Aside0.mk (Q_NB172_157 hb10_)
  clear Q_NB172_157
  have NB158_172 := Aside0.mk (Q_NB158_172 hb10_)
  clear Q_NB158_172
  have NB172_158 := Aside0.mk (Q_NB172_158 hb10_)
  clear Q_NB172_158
  have NB159_172 := Aside0.mk (Q_NB159_172 hb10_)
  clear Q_NB159_172
  have NB172_159 := Aside0.mk (Q_NB172_159 hb10_)
  clear Q_NB172_159
  have NB160_172 := Aside0.mk (Q_NB160_172 hb10_)
  clear Q_NB160_172
  have NB172_160 := Aside0.mk (Q_NB172_160 hb10_)
  clear Q_NB172_160
  clear Q_BK173
  have GW173 := Aside0.mk (Q_GW173 hb11_)
  clear Q_GW173
  have GE173 := Aside0.mk (Q_GE173 hb11_)
  clear Q_GE173
  have NB157_173 := Aside0.mk (Q_NB157_173 hb11_)
  clear Q_NB157_173
  have NB173_157 := Aside0.mk (Q_NB173_157 hb11_)
  clear Q_NB173_157
  have NB158_173 := Aside0.mk (Q_NB158_173 hb11_)
  clear Q_NB158_173
  have NB173_158 := Aside0.mk (Q_NB173_158 hb11_)
  clear Q_NB173_158
  have NB159_173 := Aside0.mk (Q_NB159_173 hb11_)
  clear Q_NB159_173
  have NB173_159 := Aside0.mk (Q_NB173_159 hb11_)
  clear Q_NB173_159
  have NB160_173 := Aside0.mk (Q_NB160_173 hb11_)
  clear Q_NB160_173
  have NB173_160 := Aside0.mk (Q_NB173_160 hb11_)
  clear Q_NB173_160
  have BK171 := Aside0.mk (Q_BK171_e12 hb12_)
  clear Q_BK171_e12
  have BK172 := Aside0.mk (Q_BK172_e13 hb13_)
  clear Q_BK172_e13
  have BK173 := Aside0.mk (Q_BK173_e14 hb14_)
  clear Q_BK173_e14
  clear hall hb0_ hb1_ hb2_ hb3_ hb4_ hb5_ hb6_ hb7_ hb8_ hb9_ hb10_ hb11_ hb12_ hb13_ hb14_
  try go_wp2
  have n0_ := Aside0.mk (blk_drew BK171.out)
  have n1_ := Aside0.mk (blk_drew BK172.out)
  have n2_ := Aside0.mk (blk_drew BK173.out)
  have n3_ := Aside0.mk (below_drew1 HB.out)
  clear BK171
  clear BK172
  clear BK173
  clear HB
  have BK171 := n0_
  have BK172 := n1_
  have BK173 := n2_
  have HB := n3_
  clear n0_ n1_ n2_ n3_
  refine start_ (n := 8) (S := fun w' => True) (ds := []) #[false, false, false, false, false, false, false, false] (by kernel_rfl) rfl rfl trivial (fun hHeld => ?_); refine with_tabW pred_InCircle.tab4 pred_InCircle.bits4 (fun HT_ HW_ => ?_)
  generalize w53.drew = w54 at BK171 BK172 BK173 HB hHeld ⊢
  refine inv_at [0, 1, 2, 3, 4, 5, 6, 7] (fun a0_ b a w' => ∃ (gb182 : Nat) (m6_ : Value), a = putSel a0_ b [(0, 29, .agg #[.int .i64 t165, .int .i64 t166]), (1, 30, .agg #[.int .i64 t174, .int .u64 t175]), (2, 31, .agg #[.int .i64 t167, .int .i64 t168]), (3, 32, .agg #[.int .i64 t169, .int .i64 t170]), (4, 33, .agg #[.int .i64 t176, .int .u64 t177]), (5, 34, .agg #[.int .u64 t178, .int .u64 t179, .int .u64 t180, .int .u64 t181]), (6, 12, m6_)] ∧ (w'.heap[gb171]? = some (.cells #[.int .i64 t165, .int .i64 t166] 23 (0, 0))) ∧ (w'.heap[gb172]? = some (.cells #[.int .i64 t167, .int .i64 t168] 23 (0, 0))) ∧ (w'.heap[gb173]? = some (.cells #[.int .i64 t169, .int .i64 t170] 23 (0, 0))) ∧ (Below w.heap.size w w') ∧ (b 6 = true → b 7 = false → w'.heap[gb182]? = some (.cells #[.int .u64 0, .int .u64 0, .int .u64 0, .int .u64 0] 50 (0, 0))) ∧ (b 6 = true → w.heap.size ≤ gb182) ∧ (b 6 = true → w.heap.size ≤ gb182) ∧ (b 6 = true → gb171 ≠ gb182) ∧ (b 6 = true → gb182 ≠ gb171) ∧ (b 6 = true → gb172 ≠ gb182) ∧ (b 6 = true → gb182 ≠ gb172) ∧ (b 6 = true → gb173 ≠ gb182) ∧ (b 6 = true → gb182 ≠ gb173) ∧ (b 7 = true → w'.heap[gb182]? = some (.cells #[.int .u64 t178, .int .u64 t179, .int .u64 t180, .int .u64 t181] 50 (0, 0))) ∧ (b 6 = true → (m6_ : Value) = .pointer (some ⟨gb182, 0, none⟩))) HT_.out HW_.out (by kernel_rfl) (by kernel_rfl) ?_ ?_ ?_
  ·exact ⟨0, .bool false, by simp only [putSel, Bool.false_eq_true, if_false], BK171.out, BK172.out, BK173.out, HB.out, fun h_ => absurd h_ (by decide), fun h_ => absurd h_ (by decide), fun h_ => absurd h_ (by decide), fun h_ => absurd h_ (by decide), fun h_ => absurd h_ (by decide), fun h_ => absurd h_ (by decide), fun h_ => absurd h_ (by decide), fun h_ => absurd h_ (by decide), fun h_ => absurd h_ (by decide), fun h_ => absurd h_ (by decide), fun h_ => absurd h_ (by decide)⟩
  ·skip
   clear BK171 BK172 BK173 HB
   refine steps_cons ?_ ?_
   ·rintro b a w' ⟨gb182, m6_, ha, Q_BK171, Q_BK172, Q_BK173, Q_HB, Q_BK182, Q_GW182, Q_GE182, Q_NB171_182, Q_NB182_171, Q_NB172_182, Q_NB182_172, Q_NB173_182, Q_NB182_173, Q_BK182_e7, Q_X6_⟩ hb_ hon hoff
    refine ⟨_, rfl, fun K hK => ?_⟩
    have e9 : a.tmps[9]? = some (.pointer (some ⟨gb171, 0, none⟩)) := by rw [ha]; exact (putSel_off rfl).trans rfl
    replace ha := Aside0.mk ha
    have BK171 := Aside0.mk Q_BK171
    have BK172 := Aside0.mk Q_BK172
    have BK173 := Aside0.mk Q_BK173
    have HB := Aside0.mk Q_HB
    have hc0_ : w'.cell? ⟨gb171, 0, none⟩ = some (.int .i64 t165) := (blk_cell BK171.out 0).trans rfl
    have hc1_ : w'.cell? ⟨gb171, 1, none⟩ = some (.int .i64 t166) := (blk_cell BK171.out 1).trans rfl
    refine value_ (w1 := w') (v := .agg #[.int .i64 t165, .int .i64 t166]) (by rfl) rfl ?_ ?_
    ·go_simp
     (try simp only [i64_w])
     try rfl
    refine hK.out _ _ ⟨gb182, m6_, (by rw [ha.out]; exact putSel_upk 0 hb_ rfl rfl rfl), Q_BK171, Q_BK172, Q_BK173, Q_HB, Q_BK182, Q_GW182, Q_GE182, Q_NB171_182, Q_NB182_171, Q_NB172_182, Q_NB182_172, Q_NB173_182, Q_NB182_173, fun h0_ => absurd ((hoff 7 (by kernel_rfl)).symm.trans h0_) (by decide), Q_X6_⟩
   refine steps_cons ?_ ?_
   ·rintro b a w' ⟨gb182, m6_, ha, Q_BK171, Q_BK172, Q_BK173, Q_HB, Q_BK182, Q_GW182, Q_GE182, Q_NB171_182, Q_NB182_171, Q_NB172_182, Q_NB182_172, Q_NB173_182, Q_NB182_173, Q_BK182_e7, Q_X6_⟩ hb_ hon hoff
    refine ⟨_, rfl, fun K hK => ?_⟩
    have e29 : a.tmps[29]? = some (.agg #[.int .i64 t165, .int .i64 t166]) := by rw [ha]; exact putSel_on (e := (0, 29, .agg #[.int .i64 t165, .int .i64 t166])) 0 rfl rfl (hon 0 (by kernel_rfl)) rfl
    replace ha := Aside0.mk ha
    have BK171 := Aside0.mk Q_BK171
    have BK172 := Aside0.mk Q_BK172
    have BK173 := Aside0.mk Q_BK173
    have HB := Aside0.mk Q_HB
    refine goes_ Try.func26 (by kernel_rfl) rfl #[.agg #[.int .i64 t165, .int .i64 t166]] (by rfl) rfl rfl (by first | (simp only [List.map_toArray, List.map_cons, List.map_nil, Act.eval, Array.getD_eq_getD_getElem?, Option.getD_some, e29]; done) | (simp only [List.map_toArray, List.map_cons, List.map_nil, Act.eval, Array.getD_eq_getD_getElem?, Option.getD_some, e29]; rfl)) ?_
    with_reducible refine (pred_square.calls t165 t166 t174 t175 _ A10.out).mono ?_
    rintro e w55 ⟨rfl, hb⟩
    refine ⟨_, rfl, ?_⟩
    have n0_ := Aside0.mk (blk_below (bk BK171.out) hb)
    have n1_ := Aside0.mk (blk_below (bk BK172.out) hb)
    have n2_ := Aside0.mk (blk_below (bk BK173.out) hb)
    have n3_ := Aside0.mk (below_step (bw HB.out) hb)
    have z_BK182 := fun (h0_ : b 6 = true) (h1_ : b 7 = false) => (show w55.heap[gb182]? = some (.cells #[.int .u64 0, .int .u64 0, .int .u64 0, .int .u64 0] 50 (0, 0)) from by first | exact (blk_below (g := gb182) (o := .cells #[.int .u64 0, .int .u64 0, .int .u64 0, .int .u64 0] 50 (0, 0)) (bk (Q_BK182 h0_ h1_)) hb))
    clear BK171
    clear BK172
    clear BK173
    clear HB
    have BK171 := n0_
    have BK172 := n1_
    have BK173 := n2_
    have HB := n3_
    clear n0_ n1_ n2_ n3_
    (try clear hb)
    (try clear hb2)
    (try clear hk)
    (try clear hi)
    refine hK.out _ _ ⟨gb182, m6_, (by rw [ha.out]; exact putSel_upk 1 hb_ rfl rfl rfl), (bk BK171.out), (bk BK172.out), (bk BK173.out), (bw HB.out), z_BK182, Q_GW182, Q_GE182, Q_NB171_182, Q_NB182_171, Q_NB172_182, Q_NB182_172, Q_NB173_182, Q_NB182_173, fun h0_ => absurd ((hoff 7 (by kernel_rfl)).symm.trans h0_) (by decide), Q_X6_⟩
   refine steps_cons ?_ ?_
   ·rintro b a w' ⟨gb182, m6_, ha, Q_BK171, Q_BK172, Q_BK173, Q_HB, Q_BK182, Q_GW182, Q_GE182, Q_NB171_182, Q_NB182_171, Q_NB172_182, Q_NB182_172, Q_NB173_182, Q_NB182_173, Q_BK182_e7, Q_X6_⟩ hb_ hon hoff
    refine ⟨_, rfl, fun K hK => ?_⟩
    have e10 : a.tmps[10]? = some (.pointer (some ⟨gb172, 0, none⟩)) := by rw [ha]; exact (putSel_off rfl).trans rfl
    replace ha := Aside0.mk ha
    have BK171 := Aside0.mk Q_BK171
    have BK172 := Aside0.mk Q_BK172
    have BK173 := Aside0.mk Q_BK173
    have HB := Aside0.mk Q_HB
    have hc0_ : w'.cell? ⟨gb172, 0, none⟩ = some (.int .i64 t167) := (blk_cell BK172.out 0).trans rfl
    have hc1_ : w'.cell? ⟨gb172, 1, none⟩ = some (.int .i64 t168) := (blk_cell BK172.out 1).trans rfl
    refine value_ (w1 := w') (v := .agg #[.int .i64 t167, .int .i64 t168]) (by rfl) rfl ?_ ?_
    ·go_simp
     (try simp only [i64_w])
     try rfl
    refine hK.out _ _ ⟨gb182, m6_, (by rw [ha.out]; exact putSel_upk 2 hb_ rfl rfl rfl), Q_BK171, Q_BK172, Q_BK173, Q_HB, Q_BK182, Q_GW182, Q_GE182, Q_NB171_182, Q_NB182_171, Q_NB172_182, Q_NB182_172, Q_NB173_182, Q_NB182_173, fun h0_ => absurd ((hoff 7 (by kernel_rfl)).symm.trans h0_) (by decide), Q_X6_⟩
   refine steps_cons ?_ ?_
   ·rintro b a w' ⟨gb182, m6_, ha, Q_BK171, Q_BK172, Q_BK173, Q_HB, Q_BK182, Q_GW182, Q_GE182, Q_NB171_182, Q_NB182_171, Q_NB172_182, Q_NB182_172, Q_NB173_182, Q_NB182_173, Q_BK182_e7, Q_X6_⟩ hb_ hon hoff
    refine ⟨_, rfl, fun K hK => ?_⟩
    have e11 : a.tmps[11]? = some (.pointer (some ⟨gb173, 0, none⟩)) := by rw [ha]; exact (putSel_off rfl).trans rfl
    replace ha := Aside0.mk ha
    have BK171 := Aside0.mk Q_BK171
    have BK172 := Aside0.mk Q_BK172
    have BK173 := Aside0.mk Q_BK173
    have HB := Aside0.mk Q_HB
    have hc0_ : w'.cell? ⟨gb173, 0, none⟩ = some (.int .i64 t169) := (blk_cell BK173.out 0).trans rfl
    have hc1_ : w'.cell? ⟨gb173, 1, none⟩ = some (.int .i64 t170) := (blk_cell BK173.out 1).trans rfl
    refine value_ (w1 := w') (v := .agg #[.int .i64 t169, .int .i64 t170]) (by rfl) rfl ?_ ?_
    ·go_simp
     (try simp only [i64_w])
     try rfl
    refine hK.out _ _ ⟨gb182, m6_, (by rw [ha.out]; exact putSel_upk 3 hb_ rfl rfl rfl), Q_BK171, Q_BK172, Q_BK173, Q_HB, Q_BK182, Q_GW182, Q_GE182, Q_NB171_182, Q_NB182_171, Q_NB172_182, Q_NB182_172, Q_NB173_182, Q_NB182_173, fun h0_ => absurd ((hoff 7 (by kernel_rfl)).symm.trans h0_) (by decide), Q_X6_⟩
   refine steps_cons ?_ ?_
   ·rintro b a w' ⟨gb182, m6_, ha, Q_BK171, Q_BK172, Q_BK173, Q_HB, Q_BK182, Q_GW182, Q_GE182, Q_NB171_182, Q_NB182_171, Q_NB172_182, Q_NB182_172, Q_NB173_182, Q_NB182_173, Q_BK182_e7, Q_X6_⟩ hb_ hon hoff
    refine ⟨_, rfl, fun K hK => ?_⟩
    have e31 : a.tmps[31]? = some (.agg #[.int .i64 t167, .int .i64 t168]) := by rw [ha]; exact putSel_on (e := (2, 31, .agg #[.int .i64 t167, .int .i64 t168])) 2 rfl rfl (hon 2 (by kernel_rfl)) rfl
    have e32 : a.tmps[32]? = some (.agg #[.int .i64 t169, .int .i64 t170]) := by rw [ha]; exact putSel_on (e := (3, 32, .agg #[.int .i64 t169, .int .i64 t170])) 3 rfl rfl (hon 3 (by kernel_rfl)) rfl
    replace ha := Aside0.mk ha
    have BK171 := Aside0.mk Q_BK171
    have BK172 := Aside0.mk Q_BK172
    have BK173 := Aside0.mk Q_BK173
    have HB := Aside0.mk Q_HB
    refine goes_ Try.func27 (by kernel_rfl) rfl #[.agg #[.int .i64 t167, .int .i64 t168], .agg #[.int .i64 t169, .int .i64 t170]] (by rfl) rfl rfl (by first | (simp only [List.map_toArray, List.map_cons, List.map_nil, Act.eval, Array.getD_eq_getD_getElem?, Option.getD_some, e31, e32]; done) | (simp only [List.map_toArray, List.map_cons, List.map_nil, Act.eval, Array.getD_eq_getD_getElem?, Option.getD_some, e31, e32]; rfl)) ?_
    with_reducible refine (pred_across.calls t167 t168 t169 t170 t176 t177 _ A11.out).mono ?_
    rintro e w57 ⟨rfl, hb⟩
    refine ⟨_, rfl, ?_⟩
    have n0_ := Aside0.mk (blk_below (bk BK171.out) hb)
    have n1_ := Aside0.mk (blk_below (bk BK172.out) hb)
    have n2_ := Aside0.mk (blk_below (bk BK173.out) hb)
    have n3_ := Aside0.mk (below_step (bw HB.out) hb)
    have z_BK182 := fun (h0_ : b 6 = true) (h1_ : b 7 = false) => (show w57.heap[gb182]? = some (.cells #[.int .u64 0, .int .u64 0, .int .u64 0, .int .u64 0] 50 (0, 0)) from by first | exact (blk_below (g := gb182) (o := .cells #[.int .u64 0, .int .u64 0, .int .u64 0, .int .u64 0] 50 (0, 0)) (bk (Q_BK182 h0_ h1_)) hb))
    clear BK171
    clear BK172
    clear BK173
    clear HB
    have BK171 := n0_
    have BK172 := n1_
    have BK173 := n2_
    have HB := n3_
    clear n0_ n1_ n2_ n3_
    (try clear hb)
    (try clear hb2)
    (try clear hk)
    (try clear hi)
    refine hK.out _ _ ⟨gb182, m6_, (by rw [ha.out]; exact putSel_upk 4 hb_ rfl rfl rfl), (bk BK171.out), (bk BK172.out), (bk BK173.out), (bw HB.out), z_BK182, Q_GW182, Q_GE182, Q_NB171_182, Q_NB182_171, Q_NB172_182, Q_NB182_172, Q_NB173_182, Q_NB182_173, fun h0_ => absurd ((hoff 7 (by kernel_rfl)).symm.trans h0_) (by decide), Q_X6_⟩
   refine steps_cons ?_ ?_
   ·rintro b a w' ⟨gb182, m6_, ha, Q_BK171, Q_BK172, Q_BK173, Q_HB, Q_BK182, Q_GW182, Q_GE182, Q_NB171_182, Q_NB182_171, Q_NB172_182, Q_NB182_172, Q_NB173_182, Q_NB182_173, Q_BK182_e7, Q_X6_⟩ hb_ hon hoff
    refine ⟨_, rfl, fun K hK => ?_⟩
    have e30 : a.tmps[30]? = some (.agg #[.int .i64 t174, .int .u64 t175]) := by rw [ha]; exact putSel_on (e := (1, 30, .agg #[.int .i64 t174, .int .u64 t175])) 1 rfl rfl (hon 1 (by kernel_rfl)) rfl
    have e33 : a.tmps[33]? = some (.agg #[.int .i64 t176, .int .u64 t177]) := by rw [ha]; exact putSel_on (e := (4, 33, .agg #[.int .i64 t176, .int .u64 t177])) 4 rfl rfl (hon 4 (by kernel_rfl)) rfl
    replace ha := Aside0.mk ha
    have BK171 := Aside0.mk Q_BK171
    have BK172 := Aside0.mk Q_BK172
    have BK173 := Aside0.mk Q_BK173
    have HB := Aside0.mk Q_HB
    refine goes_ Try.func25 (by kernel_rfl) rfl #[.agg #[.int .i64 t174, .int .u64 t175], .agg #[.int .i64 t176, .int .u64 t177]] (by rfl) rfl rfl (by first | (simp only [List.map_toArray, List.map_cons, List.map_nil, Act.eval, Array.getD_eq_getD_getElem?, Option.getD_some, e30, e33]; done) | (simp only [List.map_toArray, List.map_cons, List.map_nil, Act.eval, Array.getD_eq_getD_getElem?, Option.getD_some, e30, e33]; rfl)) ?_
    with_reducible refine (quad_Mul.calls t174 t175 t176 t177 t178 t179 t180 t181 _ A12.out).mono ?_
    rintro e w58 ⟨rfl, hb⟩
    refine ⟨_, rfl, ?_⟩
    have n0_ := Aside0.mk (blk_below (bk BK171.out) hb)
    have n1_ := Aside0.mk (blk_below (bk BK172.out) hb)
    have n2_ := Aside0.mk (blk_below (bk BK173.out) hb)
    have n3_ := Aside0.mk (below_step (bw HB.out) hb)
    have z_BK182 := fun (h0_ : b 6 = true) (h1_ : b 7 = false) => (show w58.heap[gb182]? = some (.cells #[.int .u64 0, .int .u64 0, .int .u64 0, .int .u64 0] 50 (0, 0)) from by first | exact (blk_below (g := gb182) (o := .cells #[.int .u64 0, .int .u64 0, .int .u64 0, .int .u64 0] 50 (0, 0)) (bk (Q_BK182 h0_ h1_)) hb))
    clear BK171
    clear BK172
    clear BK173
    clear HB
    have BK171 := n0_
    have BK172 := n1_
    have BK173 := n2_
    have HB := n3_
    clear n0_ n1_ n2_ n3_
    (try clear hb)
    (try clear hb2)
    (try clear hk)
    (try clear hi)
    refine hK.out _ _ ⟨gb182, m6_, (by rw [ha.out]; exact putSel_upk 5 hb_ rfl rfl rfl), (bk BK171.out), (bk BK172.out), (bk BK173.out), (bw HB.out), z_BK182, Q_GW182, Q_GE182, Q_NB171_182, Q_NB182_171, Q_NB172_182, Q_NB182_172, Q_NB173_182, Q_NB182_173, fun h0_ => absurd ((hoff 7 (by kernel_rfl)).symm.trans h0_) (by decide), Q_X6_⟩
   refine steps_cons ?_ ?_
   ·rintro b a w' ⟨gb182, m6_, ha, Q_BK171, Q_BK172, Q_BK173, Q_HB, Q_BK182, Q_GW182, Q_GE182, Q_NB171_182, Q_NB182_171, Q_NB172_182, Q_NB182_172, Q_NB173_182, Q_NB182_173, Q_BK182_e7, Q_X6_⟩ hb_ hon hoff
    refine ⟨_, rfl, fun K hK => ?_⟩
    replace ha := Aside0.mk ha
    have BK171 := Aside0.mk Q_BK171
    have BK172 := Aside0.mk Q_BK172
    have BK173 := Aside0.mk Q_BK173
    have HB := Aside0.mk Q_HB
    refine box_step ?hg (N := 12) ?hd (cs := #[.int .u64 0, .int .u64 0, .int .u64 0, .int .u64 0]) (t := 50) ?hr ?_; (case hd => rfl); (case hg => rfl); (case hr => first | (go_simp; done) | (go_simp; rfl))
    intro gb182 hg w55 hbox hb
    have n0_ := Aside0.mk (blk_below (bk BK171.out) hb)
    have n1_ := Aside0.mk (blk_below (bk BK172.out) hb)
    have n2_ := Aside0.mk (blk_below (bk BK173.out) hb)
    have n3_ := Aside0.mk (below_step (bw HB.out) hb)
    have n4_ := Aside0.mk (hbox)
    have n5_ := Aside0.mk ((by rw [hg]; exact (below_size (bw HB.out)) : w.heap.size ≤ gb182))
    have n6_ := Aside0.mk ((by rw [hg]; exact (below_size (bw HB.out)) : w.heap.size ≤ gb182))
    have n7_ := Aside0.mk ((by rw [hg]; exact Nat.ne_of_lt (blk_lt (bk BK171.out)) : gb171 ≠ gb182))
    have n8_ := Aside0.mk ((by rw [hg]; exact Nat.ne_of_gt (blk_lt (bk BK171.out)) : gb182 ≠ gb171))
    have n9_ := Aside0.mk ((by rw [hg]; exact Nat.ne_of_lt (blk_lt (bk BK172.out)) : gb172 ≠ gb182))
    have n10_ := Aside0.mk ((by rw [hg]; exact Nat.ne_of_gt (blk_lt (bk BK172.out)) : gb182 ≠ gb172))
    have n11_ := Aside0.mk ((by rw [hg]; exact Nat.ne_of_lt (blk_lt (bk BK173.out)) : gb173 ≠ gb182))
    have n12_ := Aside0.mk ((by rw [hg]; exact Nat.ne_of_gt (blk_lt (bk BK173.out)) : gb182 ≠ gb173))
    clear BK171
    clear BK172
    clear BK173
    clear HB
    have BK171 := n0_
    have BK172 := n1_
    have BK173 := n2_
    have HB := n3_
    have BK182 := n4_
    have GW182 := n5_
    have GE182 := n6_
    have NB171_182 := n7_
    have NB182_171 := n8_
    have NB172_182 := n9_
    have NB182_172 := n10_
    have NB173_182 := n11_
    have NB182_173 := n12_
    clear n0_ n1_ n2_ n3_ n4_ n5_ n6_ n7_ n8_ n9_ n10_ n11_ n12_
    clear hb hbox hg
    refine hK.out _ _ ⟨gb182, (.pointer (some ⟨gb182, 0, none⟩)), (by rw [ha.out]; exact putSel_upk 6 hb_ rfl rfl rfl), (bk BK171.out), (bk BK172.out), (bk BK173.out), (bw HB.out), fun _ _ => (bk BK182.out), fun _ => GW182.out, fun _ => GE182.out, fun _ => NB171_182.out, fun _ => NB182_171.out, fun _ => NB172_182.out, fun _ => NB182_172.out, fun _ => NB173_182.out, fun _ => NB182_173.out, fun h0_ => absurd ((hoff 7 (by kernel_rfl)).symm.trans h0_) (by decide), fun _ => rfl⟩
   refine steps_cons ?_ ?_
   ·rintro b a w' ⟨gb182, m6_, ha, Q_BK171, Q_BK172, Q_BK173, Q_HB, Q_BK182, Q_GW182, Q_GE182, Q_NB171_182, Q_NB182_171, Q_NB172_182, Q_NB182_172, Q_NB173_182, Q_NB182_173, Q_BK182_e7, Q_X6_⟩ hb_ hon hoff
    refine ⟨_, rfl, fun K hK => ?_⟩
    have e12 : a.tmps[12]? = some (m6_) := by rw [ha]; exact putSel_on (e := (6, 12, m6_)) 6 rfl rfl (hon 6 (by kernel_rfl)) rfl
    rw [Q_X6_ (hon 6 (by kernel_rfl))] at e12
    have e34 : a.tmps[34]? = some (.agg #[.int .u64 t178, .int .u64 t179, .int .u64 t180, .int .u64 t181]) := by rw [ha]; exact putSel_on (e := (5, 34, .agg #[.int .u64 t178, .int .u64 t179, .int .u64 t180, .int .u64 t181])) 5 rfl rfl (hon 5 (by kernel_rfl)) rfl
    replace ha := Aside0.mk ha
    have BK171 := Aside0.mk Q_BK171
    have BK172 := Aside0.mk Q_BK172
    have BK173 := Aside0.mk Q_BK173
    have HB := Aside0.mk Q_HB
    have BK182 := Aside0.mk (Q_BK182 (hon 6 (by kernel_rfl)) hb_)
    have GW182 := Aside0.mk (Q_GW182 (hon 6 (by kernel_rfl)))
    have GE182 := Aside0.mk (Q_GE182 (hon 6 (by kernel_rfl)))
    have NB171_182 := Aside0.mk (Q_NB171_182 (hon 6 (by kernel_rfl)))
    have NB182_171 := Aside0.mk (Q_NB182_171 (hon 6 (by kernel_rfl)))
    have NB172_182 := Aside0.mk (Q_NB172_182 (hon 6 (by kernel_rfl)))
    have NB182_172 := Aside0.mk (Q_NB182_172 (hon 6 (by kernel_rfl)))
    have NB173_182 := Aside0.mk (Q_NB173_182 (hon 6 (by kernel_rfl)))
    have NB182_173 := Aside0.mk (Q_NB182_173 (hon 6 (by kernel_rfl)))
    have hs60 : w'.cell? ⟨gb182, 0, none⟩ = some (.int .u64 0) := (blk_cell BK182.out 0).trans rfl
    have hfs60 := blk_frozen BK182.out 0
    have hns60_0 := NB171_182.out
    have hns60_1 := NB172_182.out
    have hns60_2 := NB173_182.out
    have hms60_0 := NB182_171.out
    have hms60_1 := NB182_172.out
    have hms60_2 := NB182_173.out
    have hs61 : w'.cell? ⟨gb182, 1, none⟩ = some (.int .u64 0) := (blk_cell BK182.out 1).trans rfl
    have hfs61 := blk_frozen BK182.out 1
    have hns61_0 := NB171_182.out
    have hns61_1 := NB172_182.out
    have hns61_2 := NB173_182.out
    have hms61_0 := NB182_171.out
    have hms61_1 := NB182_172.out
    have hms61_2 := NB182_173.out
    have hs62 : w'.cell? ⟨gb182, 2, none⟩ = some (.int .u64 0) := (blk_cell BK182.out 2).trans rfl
    have hfs62 := blk_frozen BK182.out 2
    have hns62_0 := NB171_182.out
    have hns62_1 := NB172_182.out
    have hns62_2 := NB173_182.out
    have hms62_0 := NB182_171.out
    have hms62_1 := NB182_172.out
    have hms62_2 := NB182_173.out
    have hs63 : w'.cell? ⟨gb182, 3, none⟩ = some (.int .u64 0) := (blk_cell BK182.out 3).trans rfl
    have hfs63 := blk_frozen BK182.out 3
    have hns63_0 := NB171_182.out
    have hns63_1 := NB172_182.out
    have hns63_2 := NB173_182.out
    have hms63_0 := NB182_171.out
    have hms63_1 := NB182_172.out
    have hms63_2 := NB182_173.out
    refine skip_ (w1 := ?_) (by rfl) rfl ?_ ?_
    rotate_left
    ·go_simp
     rfl
    refine hK.out _ _ ⟨gb182, m6_, (by rw [ha.out]; exact putSel_none (v := undef) rfl), (by (with_reducible repeat (first | refine blk_drewN ?_ _ | refine blk_drew ?_ | refine blk_alloc ?_ _)); refine blk_far ?_ NB171_182.out _; (with_reducible repeat (first | refine blk_drewN ?_ _ | refine blk_drew ?_ | refine blk_alloc ?_ _)); refine blk_far ?_ NB171_182.out _; (with_reducible repeat (first | refine blk_drewN ?_ _ | refine blk_drew ?_ | refine blk_alloc ?_ _)); refine blk_far ?_ NB171_182.out _; (with_reducible repeat (first | refine blk_drewN ?_ _ | refine blk_drew ?_ | refine blk_alloc ?_ _)); refine blk_far ?_ NB171_182.out _; (with_reducible repeat (first | refine blk_drewN ?_ _ | refine blk_drew ?_ | refine blk_alloc ?_ _)); exact BK171.out), (by (with_reducible repeat (first | refine blk_drewN ?_ _ | refine blk_drew ?_ | refine blk_alloc ?_ _)); refine blk_far ?_ NB172_182.out _; (with_reducible repeat (first | refine blk_drewN ?_ _ | refine blk_drew ?_ | refine blk_alloc ?_ _)); refine blk_far ?_ NB172_182.out _; (with_reducible repeat (first | refine blk_drewN ?_ _ | refine blk_drew ?_ | refine blk_alloc ?_ _)); refine blk_far ?_ NB172_182.out _; (with_reducible repeat (first | refine blk_drewN ?_ _ | refine blk_drew ?_ | refine blk_alloc ?_ _)); refine blk_far ?_ NB172_182.out _; (with_reducible repeat (first | refine blk_drewN ?_ _ | refine blk_drew ?_ | refine blk_alloc ?_ _)); exact BK172.out), (by (with_reducible repeat (first | refine blk_drewN ?_ _ | refine blk_drew ?_ | refine blk_alloc ?_ _)); refine blk_far ?_ NB173_182.out _; (with_reducible repeat (first | refine blk_drewN ?_ _ | refine blk_drew ?_ | refine blk_alloc ?_ _)); refine blk_far ?_ NB173_182.out _; (with_reducible repeat (first | refine blk_drewN ?_ _ | refine blk_drew ?_ | refine blk_alloc ?_ _)); refine blk_far ?_ NB173_182.out _; (with_reducible repeat (first | refine blk_drewN ?_ _ | refine blk_drew ?_ | refine blk_alloc ?_ _)); refine blk_far ?_ NB173_182.out _; (with_reducible repeat (first | refine blk_drewN ?_ _ | refine blk_drew ?_ | refine blk_alloc ?_ _)); exact BK173.out), (by repeat (first | (with_reducible first | exact HB.out | apply below_alloc | apply pw_below_drewN | apply below_drew1 | refine below_set ?_ GE171.out | refine below_set ?_ GE172.out | refine below_set ?_ GE173.out | refine below_set ?_ GE182.out) | exact HB.out)), fun _ h1_ => absurd ((up_self b 7).symm.trans h1_) (by decide), fun _ => GW182.out, fun _ => GE182.out, fun _ => NB171_182.out, fun _ => NB182_171.out, fun _ => NB172_182.out, fun _ => NB182_172.out, fun _ => NB173_182.out, fun _ => NB182_173.out, fun _ => (by (with_reducible repeat (first | refine blk_drewN ?_ _ | refine blk_drew ?_ | refine blk_alloc ?_ _)); refine blk_put (cs := #[.int .u64 t178, .int .u64 t179, .int .u64 t180, .int .u64 0]) ?_ 3 _ rfl; (with_reducible repeat (first | refine blk_drewN ?_ _ | refine blk_drew ?_ | refine blk_alloc ?_ _)); refine blk_put (cs := #[.int .u64 t178, .int .u64 t179, .int .u64 0, .int .u64 0]) ?_ 2 _ rfl; (with_reducible repeat (first | refine blk_drewN ?_ _ | refine blk_drew ?_ | refine blk_alloc ?_ _)); refine blk_put (cs := #[.int .u64 t178, .int .u64 0, .int .u64 0, .int .u64 0]) ?_ 1 _ rfl; (with_reducible repeat (first | refine blk_drewN ?_ _ | refine blk_drew ?_ | refine blk_alloc ?_ _)); refine blk_put (cs := #[.int .u64 0, .int .u64 0, .int .u64 0, .int .u64 0]) ?_ 0 _ rfl; (with_reducible repeat (first | refine blk_drewN ?_ _ | refine blk_drew ?_ | refine blk_alloc ?_ _)); exact BK182.out), Q_X6_⟩
   exact steps_nil
  rintro b a w63 hall ⟨gb182, m6_, ha, Q_BK171, Q_BK172, Q_BK173, Q_HB, Q_BK182, Q_GW182, Q_GE182, Q_NB171_182, Q_NB182_171, Q_NB172_182, Q_NB182_172, Q_NB173_182, Q_NB182_173, Q_BK182_e7, Q_X6_⟩
  clear BK171 BK172 BK173 HB
  have hb0_ := hall 0 (by kernel_rfl)
  have hb1_ := hall 1 (by kernel_rfl)
  have hb2_ := hall 2 (by kernel_rfl)
  have hb3_ := hall 3 (by kernel_rfl)
  have hb4_ := hall 4 (by kernel_rfl)
  have hb5_ := hall 5 (by kernel_rfl)
  have hb6_ := hall 6 (by kernel_rfl)
  have hb7_ := hall 7 (by kernel_rfl)
  subst ha
  obtain rfl := Q_X6_ hb6_
  simp only [putSel, hb0_, hb1_, hb2_, hb3_, hb4_, hb5_, hb6_, hb7_, if_true, Act.put, List.setIfInBounds_toArray, List.set_cons_zero, List.set_cons_succ]
  have BK171 := Aside0.mk Q_BK171
  clear Q_BK171
  have BK172 := Aside0.mk Q_BK172
  clear Q_BK172
  have BK173 := Aside0.mk Q_BK173
  clear Q_BK173
  have HB := Aside0.mk Q_HB
  clear Q_HB
  clear Q_BK182
  have GW182 := Aside0.mk (Q_GW182 hb6_)
  clear Q_GW182
  have GE182 := Aside0.mk (Q_GE182 hb6_)
  clear Q_GE182
  have NB171_182 := Aside0.mk (Q_NB171_182 hb6_)
  clear Q_NB171_182
  have NB182_171 := Aside0.mk (Q_NB182_171 hb6_)
  clear Q_NB182_171
  have NB172_182 := Aside0.mk (Q_NB172_182 hb6_)
  clear Q_NB172_182
  have NB182_172 := Aside0.mk (Q_NB182_172 hb6_)
  clear Q_NB182_172
  have NB173_182 := Aside0.mk (Q_NB173_182 hb6_)
  clear Q_NB173_182
  have NB182_173 := Aside0.mk (Q_NB182_173 hb6_)
  clear Q_NB182_173
  have BK182 := Aside0.mk (Q_BK182_e7 hb7_)
  clear Q_BK182_e7
  clear hall hb0_ hb1_ hb2_ hb3_ hb4_ hb5_ hb6_ hb7_
  try go_wp2
  have n0_ := Aside0.mk (blk_drew BK171.out)
  have n1_ := Aside0.mk (blk_drew BK172.out)
  have n2_ := Aside0.mk (blk_drew BK173.out)
  have n3_ := Aside0.mk (blk_drew BK182.out)
  have n4_ := Aside0.mk (below_drew1 HB.out)
  clear BK171
  clear BK172
  clear BK173
  clear BK182
  clear HB
  have BK171 := n0_
  have BK172 := n1_
  have BK173 := n2_
  have BK182 := n3_
  have HB := n4_
  clear n0_ n1_ n2_ n3_ n4_
  refine start_ (n := 9) (S := fun w' => w'.cell? ⟨gb182, 0, none⟩ = some (.int .u64 t178) ∧ w'.cell? ⟨gb182, 1, none⟩ = some (.int .u64 t179) ∧ w'.cell? ⟨gb182, 2, none⟩ = some (.int .u64 t180) ∧ w'.cell? ⟨gb182, 3, none⟩ = some (.int .u64 t181) ∧ w'.cell? ⟨gb172, 0, none⟩ = some (.int .i64 t167) ∧ w'.cell? ⟨gb172, 1, none⟩ = some (.int .i64 t168) ∧ w'.cell? ⟨gb173, 0, none⟩ = some (.int .i64 t169) ∧ w'.cell? ⟨gb173, 1, none⟩ = some (.int .i64 t170) ∧ w'.cell? ⟨gb171, 0, none⟩ = some (.int .i64 t165) ∧ w'.cell? ⟨gb171, 1, none⟩ = some (.int .i64 t166)) (ds := [8]) #[false, false, false, false, false, false, false, false, false] (by kernel_rfl) rfl rfl ⟨(blk_cell BK182.out 0).trans rfl, (blk_cell BK182.out 1).trans rfl, (blk_cell BK182.out 2).trans rfl, (blk_cell BK182.out 3).trans rfl, (blk_cell BK172.out 0).trans rfl, (blk_cell BK172.out 1).trans rfl, (blk_cell BK173.out 0).trans rfl, (blk_cell BK173.out 1).trans rfl, (blk_cell BK171.out 0).trans rfl, (blk_cell BK171.out 1).trans rfl⟩ (fun hHeld => ?_); refine with_tabW pred_InCircle.tab5 pred_InCircle.bits5 (fun HT_ HW_ => ?_)
  generalize w63.drew = w64 at BK171 BK172 BK173 BK182 HB hHeld ⊢
  refine take_ (i := 0) (N := some 35) (v := ?_) (a' := ?_) #[true, false, false, false, false, false, false, false, false] rfl rfl (take_ofW HT_.out HW_.out (by kernel_rfl)) (fun _ _ _ h => h) (Or.inl ⟨by rfl, ?_⟩) hHeld ?_ ?_
  rotate_left
  ·rintro w' ⟨s0, s1, s2, s3, s4, s5, s6, s7, s8, s9⟩
   go_simp
   with_reducible rfl
  rotate_left
  ·simp only [Act.put, List.setIfInBounds_toArray, List.set_cons_zero, List.set_cons_succ, i64_w, i32_w]
   rfl
  refine take_ (i := 1) (N := some 36) (v := ?_) (a' := ?_) #[true, true, false, false, false, false, false, false, false] rfl rfl (take_ofW HT_.out HW_.out (by kernel_rfl)) (fun _ _ _ h => h) (Or.inl ⟨by rfl, ?_⟩) hHeld ?_ ?_
  rotate_left
  ·rintro w' ⟨s0, s1, s2, s3, s4, s5, s6, s7, s8, s9⟩
   go_simp
   with_reducible rfl
  rotate_left
  ·simp only [Act.put, List.setIfInBounds_toArray, List.set_cons_zero, List.set_cons_succ, i64_w, i32_w]
   rfl
  refine take_ (i := 3) (N := some 38) (v := ?_) (a' := ?_) #[true, true, false, true, false, false, false, false, false] rfl rfl (take_ofW HT_.out HW_.out (by kernel_rfl)) (fun _ _ _ h => h) (Or.inl ⟨by rfl, ?_⟩) hHeld ?_ ?_
  rotate_left
  ·rintro w' ⟨s0, s1, s2, s3, s4, s5, s6, s7, s8, s9⟩
   go_simp
   with_reducible rfl
  rotate_left
  ·simp only [Act.put, List.setIfInBounds_toArray, List.set_cons_zero, List.set_cons_succ, i64_w, i32_w]
   rfl
  refine take_ (i := 4) (N := some 39) (v := ?_) (a' := ?_) #[true, true, false, true, true, false, false, false, false] rfl rfl (take_ofW HT_.out HW_.out (by kernel_rfl)) (fun _ _ _ h => h) (Or.inl ⟨by rfl, ?_⟩) hHeld ?_ ?_
  rotate_left
  ·rintro w' ⟨s0, s1, s2, s3, s4, s5, s6, s7, s8, s9⟩
   go_simp
   with_reducible rfl
  rotate_left
  ·simp only [Act.put, List.setIfInBounds_toArray, List.set_cons_zero, List.set_cons_succ, i64_w, i32_w]
   rfl
  refine one_ (i := 2) (N := some 37) #[true, true, true, true, true, false, false, false, false] rfl rfl (one_of HT_.out (by kernel_rfl)) (by decide) (fun K hK => ?_)
  refine goes_ Try.func26 (by kernel_rfl) rfl #[.agg #[.int .i64 t167, .int .i64 t168]] (by rfl) rfl rfl (by (try simp only [List.map_toArray, List.map_cons, List.map_nil]); first | done | rfl | (simp only [List.length_drop, List.length_take]; rfl)) ?_
  with_reducible refine (pred_square.calls t167 t168 t183 t184 _ A13.out).mono ?_
  rintro e w65 ⟨rfl, hb⟩
  refine ⟨_, rfl, ?_⟩
  have n0_ := Aside0.mk (blk_below (bk BK171.out) hb)
  have n1_ := Aside0.mk (blk_below (bk BK172.out) hb)
  have n2_ := Aside0.mk (blk_below (bk BK173.out) hb)
  have n3_ := Aside0.mk (blk_below (bk BK182.out) hb)
  have n4_ := Aside0.mk (below_step (bw HB.out) hb)
  clear BK171
  clear BK172
  clear BK173
  clear BK182
  clear HB
  have BK171 := n0_
  have BK172 := n1_
  have BK173 := n2_
  have BK182 := n3_
  have HB := n4_
  clear n0_ n1_ n2_ n3_ n4_
  (try clear hb)
  (try clear hb2)
  (try clear hk)
  (try clear hi)
  refine hK.out _ _ ⟨(blk_cell BK182.out 0).trans rfl, (blk_cell BK182.out 1).trans rfl, (blk_cell BK182.out 2).trans rfl, (blk_cell BK182.out 3).trans rfl, (blk_cell BK172.out 0).trans rfl, (blk_cell BK172.out 1).trans rfl, (blk_cell BK173.out 0).trans rfl, (blk_cell BK173.out 1).trans rfl, (blk_cell BK171.out 0).trans rfl, (blk_cell BK171.out 1).trans rfl⟩ (fun hHeld => ?_)
  clear hK K
  refine norm_ (a' := ?_) ?_ ?_
  rotate_left
  ·show Act.put _ (some 37) _ = _
   simp only [Act.put, List.setIfInBounds_toArray, List.set_cons_zero, List.set_cons_succ, i64_w, i32_w]
   rfl
  refine one_ (i := 5) (N := some 40) #[true, true, true, true, true, true, false, false, false] rfl rfl (one_of HT_.out (by kernel_rfl)) (by decide) (fun K hK => ?_)
  refine goes_ Try.func27 (by kernel_rfl) rfl #[.agg #[.int .i64 t169, .int .i64 t170], .agg #[.int .i64 t165, .int .i64 t166]] (by rfl) rfl rfl (by (try simp only [List.map_toArray, List.map_cons, List.map_nil]); first | done | rfl | (simp only [List.length_drop, List.length_take]; rfl)) ?_
  with_reducible refine (pred_across.calls t169 t170 t165 t166 t185 t186 _ A14.out).mono ?_
  rintro e w66 ⟨rfl, hb⟩
  refine ⟨_, rfl, ?_⟩
  have n0_ := Aside0.mk (blk_below (bk BK171.out) hb)
  have n1_ := Aside0.mk (blk_below (bk BK172.out) hb)
  have n2_ := Aside0.mk (blk_below (bk BK173.out) hb)
  have n3_ := Aside0.mk (blk_below (bk BK182.out) hb)
  have n4_ := Aside0.mk (below_step (bw HB.out) hb)
  clear BK171
  clear BK172
  clear BK173
  clear BK182
  clear HB
  have BK171 := n0_
  have BK172 := n1_
  have BK173 := n2_
  have BK182 := n3_
  have HB := n4_
  clear n0_ n1_ n2_ n3_ n4_
  (try clear hb)
  (try clear hb2)
  (try clear hk)
  (try clear hi)
  refine hK.out _ _ ⟨(blk_cell BK182.out 0).trans rfl, (blk_cell BK182.out 1).trans rfl, (blk_cell BK182.out 2).trans rfl, (blk_cell BK182.out 3).trans rfl, (blk_cell BK172.out 0).trans rfl, (blk_cell BK172.out 1).trans rfl, (blk_cell BK173.out 0).trans rfl, (blk_cell BK173.out 1).trans rfl, (blk_cell BK171.out 0).trans rfl, (blk_cell BK171.out 1).trans rfl⟩ (fun hHeld => ?_)
  clear hK K
  refine norm_ (a' := ?_) ?_ ?_
  rotate_left
  ·show Act.put _ (some 40) _ = _
   simp only [Act.put, List.setIfInBounds_toArray, List.set_cons_zero, List.set_cons_succ, i64_w, i32_w]
   rfl
  refine one_ (i := 6) (N := some 41) #[true, true, true, true, true, true, true, false, false] rfl rfl (one_of HT_.out (by kernel_rfl)) (by decide) (fun K hK => ?_)
  refine goes_ Try.func25 (by kernel_rfl) rfl #[.agg #[.int .i64 t183, .int .u64 t184], .agg #[.int .i64 t185, .int .u64 t186]] (by rfl) rfl rfl (by (try simp only [List.map_toArray, List.map_cons, List.map_nil]); first | done | rfl | (simp only [List.length_drop, List.length_take]; rfl)) ?_
  with_reducible refine (quad_Mul.calls t183 t184 t185 t186 t187 t188 t189 t190 _ A15.out).mono ?_
  rintro e w67 ⟨rfl, hb⟩
  refine ⟨_, rfl, ?_⟩
  have n0_ := Aside0.mk (blk_below (bk BK171.out) hb)
  have n1_ := Aside0.mk (blk_below (bk BK172.out) hb)
  have n2_ := Aside0.mk (blk_below (bk BK173.out) hb)
  have n3_ := Aside0.mk (blk_below (bk BK182.out) hb)
  have n4_ := Aside0.mk (below_step (bw HB.out) hb)
  clear BK171
  clear BK172
  clear BK173
  clear BK182
  clear HB
  have BK171 := n0_
  have BK172 := n1_
  have BK173 := n2_
  have BK182 := n3_
  have HB := n4_
  clear n0_ n1_ n2_ n3_ n4_
  (try clear hb)
  (try clear hb2)
  (try clear hk)
  (try clear hi)
  refine hK.out _ _ ⟨(blk_cell BK182.out 0).trans rfl, (blk_cell BK182.out 1).trans rfl, (blk_cell BK182.out 2).trans rfl, (blk_cell BK182.out 3).trans rfl, (blk_cell BK172.out 0).trans rfl, (blk_cell BK172.out 1).trans rfl, (blk_cell BK173.out 0).trans rfl, (blk_cell BK173.out 1).trans rfl, (blk_cell BK171.out 0).trans rfl, (blk_cell BK171.out 1).trans rfl⟩ (fun hHeld => ?_)
  clear hK K
  refine norm_ (a' := ?_) ?_ ?_
  rotate_left
  ·show Act.put _ (some 41) _ = _
   simp only [Act.put, List.setIfInBounds_toArray, List.set_cons_zero, List.set_cons_succ, i64_w, i32_w]
   rfl
  refine one_ (i := 7) (N := some 42) #[true, true, true, true, true, true, true, true, false] rfl rfl (one_of HT_.out (by kernel_rfl)) (by decide) (fun K hK => ?_)
  refine goes_ Try.func28 (by kernel_rfl) rfl #[.agg #[.int .u64 t178, .int .u64 t179, .int .u64 t180, .int .u64 t181], .agg #[.int .u64 t187, .int .u64 t188, .int .u64 t189, .int .u64 t190]] (by rfl) rfl rfl (by (try simp only [List.map_toArray, List.map_cons, List.map_nil]); first | done | rfl | (simp only [List.length_drop, List.length_take]; rfl)) ?_
  with_reducible refine (quad_Add.calls t178 t179 t180 t181 t187 t188 t189 t190 t191 t192 t193 t194 _ A16.out).mono ?_
  rintro e w68 ⟨rfl, hb⟩
  refine ⟨_, rfl, ?_⟩
  have n0_ := Aside0.mk (blk_below (bk BK171.out) hb)
  have n1_ := Aside0.mk (blk_below (bk BK172.out) hb)
  have n2_ := Aside0.mk (blk_below (bk BK173.out) hb)
  have n3_ := Aside0.mk (blk_below (bk BK182.out) hb)
  have n4_ := Aside0.mk (below_step (bw HB.out) hb)
  clear BK171
  clear BK172
  clear BK173
  clear BK182
  clear HB
  have BK171 := n0_
  have BK172 := n1_
  have BK173 := n2_
  have BK182 := n3_
  have HB := n4_
  clear n0_ n1_ n2_ n3_ n4_
  (try clear hb)
  (try clear hb2)
  (try clear hk)
  (try clear hi)
  refine hK.out _ _ ⟨(blk_cell BK182.out 0).trans rfl, (blk_cell BK182.out 1).trans rfl, (blk_cell BK182.out 2).trans rfl, (blk_cell BK182.out 3).trans rfl, (blk_cell BK172.out 0).trans rfl, (blk_cell BK172.out 1).trans rfl, (blk_cell BK173.out 0).trans rfl, (blk_cell BK173.out 1).trans rfl, (blk_cell BK171.out 0).trans rfl, (blk_cell BK171.out 1).trans rfl⟩ (fun hHeld => ?_)
  clear hK K
  refine norm_ (a' := ?_) ?_ ?_
  rotate_left
  ·show Act.put _ (some 42) _ = _
   simp only [Act.put, List.setIfInBounds_toArray, List.set_cons_zero, List.set_cons_succ, i64_w, i32_w]
   rfl
  refine last_ (i := 8) (N := none) #[true, true, true, true, true, true, true, true, true] rfl rfl (one_of HT_.out (by kernel_rfl)) (by decide) (fun K hK => ?_)
  have hs69 : w68.cell? ⟨gb182, 0, none⟩ = some (.int .u64 t178) := (blk_cell BK182.out 0).trans rfl
  have hfs69 := blk_frozen BK182.out 0
  have hns69_0 := NB171_182.out
  have hns69_1 := NB172_182.out
  have hns69_2 := NB173_182.out
  have hms69_0 := NB182_171.out
  have hms69_1 := NB182_172.out
  have hms69_2 := NB182_173.out
  have hs70 : w68.cell? ⟨gb182, 1, none⟩ = some (.int .u64 t179) := (blk_cell BK182.out 1).trans rfl
  have hfs70 := blk_frozen BK182.out 1
  have hns70_0 := NB171_182.out
  have hns70_1 := NB172_182.out
  have hns70_2 := NB173_182.out
  have hms70_0 := NB182_171.out
  have hms70_1 := NB182_172.out
  have hms70_2 := NB182_173.out
  have hs71 : w68.cell? ⟨gb182, 2, none⟩ = some (.int .u64 t180) := (blk_cell BK182.out 2).trans rfl
  have hfs71 := blk_frozen BK182.out 2
  have hns71_0 := NB171_182.out
  have hns71_1 := NB172_182.out
  have hns71_2 := NB173_182.out
  have hms71_0 := NB182_171.out
  have hms71_1 := NB182_172.out
  have hms71_2 := NB182_173.out
  have hs72 : w68.cell? ⟨gb182, 3, none⟩ = some (.int .u64 t181) := (blk_cell BK182.out 3).trans rfl
  have hfs72 := blk_frozen BK182.out 3
  have hns72_0 := NB171_182.out
  have hns72_1 := NB172_182.out
  have hns72_2 := NB173_182.out
  have hms72_0 := NB182_171.out
  have hms72_1 := NB182_172.out
  have hms72_2 := NB182_173.out
  refine skip_ (w1 := ?_) (by rfl) rfl ?_ ?_
  rotate_left
  ·go_simp
   rfl
  refine hK.out _ _ ?_
  clear hK K
  refine done_ (done_of HT_.out (by kernel_rfl)) ?_
  try go_wp2
  have n0_ : Aside0 (((((w68.setCell ⟨gb182, 0, none⟩ (.int .u64 t191)).setCell ⟨gb182, 1, none⟩ (.int .u64 t192)).setCell ⟨gb182, 2, none⟩ (.int .u64 t193)).setCell ⟨gb182, 3, none⟩ (.int .u64 t194)).heap[gb171]? = some (.cells #[.int .i64 t165, .int .i64 t166] 23 (0, 0))) := ⟨by (with_reducible repeat (first | refine blk_drewN ?_ _ | refine blk_drew ?_ | refine blk_alloc ?_ _)); refine blk_far ?_ NB171_182.out _; (with_reducible repeat (first | refine blk_drewN ?_ _ | refine blk_drew ?_ | refine blk_alloc ?_ _)); refine blk_far ?_ NB171_182.out _; (with_reducible repeat (first | refine blk_drewN ?_ _ | refine blk_drew ?_ | refine blk_alloc ?_ _)); refine blk_far ?_ NB171_182.out _; (with_reducible repeat (first | refine blk_drewN ?_ _ | refine blk_drew ?_ | refine blk_alloc ?_ _)); refine blk_far ?_ NB171_182.out _; (with_reducible repeat (first | refine blk_drewN ?_ _ | refine blk_drew ?_ | refine blk_alloc ?_ _)); exact BK171.out⟩
  have n1_ : Aside0 (((((w68.setCell ⟨gb182, 0, none⟩ (.int .u64 t191)).setCell ⟨gb182, 1, none⟩ (.int .u64 t192)).setCell ⟨gb182, 2, none⟩ (.int .u64 t193)).setCell ⟨gb182, 3, none⟩ (.int .u64 t194)).heap[gb172]? = some (.cells #[.int .i64 t167, .int .i64 t168] 23 (0, 0))) := ⟨by (with_reducible repeat (first | refine blk_drewN ?_ _ | refine blk_drew ?_ | refine blk_alloc ?_ _)); refine blk_far ?_ NB172_182.out _; (with_reducible repeat (first | refine blk_drewN ?_ _ | refine blk_drew ?_ | refine blk_alloc ?_ _)); refine blk_far ?_ NB172_182.out _; (with_reducible repeat (first | refine blk_drewN ?_ _ | refine blk_drew ?_ | refine blk_alloc ?_ _)); refine blk_far ?_ NB172_182.out _; (with_reducible repeat (first | refine blk_drewN ?_ _ | refine blk_drew ?_ | refine blk_alloc ?_ _)); refine blk_far ?_ NB172_182.out _; (with_reducible repeat (first | refine blk_drewN ?_ _ | refine blk_drew ?_ | refine blk_alloc ?_ _)); exact BK172.out⟩
  have n2_ : Aside0 (((((w68.setCell ⟨gb182, 0, none⟩ (.int .u64 t191)).setCell ⟨gb182, 1, none⟩ (.int .u64 t192)).setCell ⟨gb182, 2, none⟩ (.int .u64 t193)).setCell ⟨gb182, 3, none⟩ (.int .u64 t194)).heap[gb173]? = some (.cells #[.int .i64 t169, .int .i64 t170] 23 (0, 0))) := ⟨by (with_reducible repeat (first | refine blk_drewN ?_ _ | refine blk_drew ?_ | refine blk_alloc ?_ _)); refine blk_far ?_ NB173_182.out _; (with_reducible repeat (first | refine blk_drewN ?_ _ | refine blk_drew ?_ | refine blk_alloc ?_ _)); refine blk_far ?_ NB173_182.out _; (with_reducible repeat (first | refine blk_drewN ?_ _ | refine blk_drew ?_ | refine blk_alloc ?_ _)); refine blk_far ?_ NB173_182.out _; (with_reducible repeat (first | refine blk_drewN ?_ _ | refine blk_drew ?_ | refine blk_alloc ?_ _)); refine blk_far ?_ NB173_182.out _; (with_reducible repeat (first | refine blk_drewN ?_ _ | refine blk_drew ?_ | refine blk_alloc ?_ _)); exact BK173.out⟩
  have n3_ : Aside0 (((((w68.setCell ⟨gb182, 0, none⟩ (.int .u64 t191)).setCell ⟨gb182, 1, none⟩ (.int .u64 t192)).setCell ⟨gb182, 2, none⟩ (.int .u64 t193)).setCell ⟨gb182, 3, none⟩ (.int .u64 t194)).heap[gb182]? = some (.cells #[.int .u64 t191, .int .u64 t192, .int .u64 t193, .int .u64 t194] 50 (0, 0))) := ⟨by (with_reducible repeat (first | refine blk_drewN ?_ _ | refine blk_drew ?_ | refine blk_alloc ?_ _)); refine blk_put (cs := #[.int .u64 t191, .int .u64 t192, .int .u64 t193, .int .u64 t181]) ?_ 3 _ rfl; (with_reducible repeat (first | refine blk_drewN ?_ _ | refine blk_drew ?_ | refine blk_alloc ?_ _)); refine blk_put (cs := #[.int .u64 t191, .int .u64 t192, .int .u64 t180, .int .u64 t181]) ?_ 2 _ rfl; (with_reducible repeat (first | refine blk_drewN ?_ _ | refine blk_drew ?_ | refine blk_alloc ?_ _)); refine blk_put (cs := #[.int .u64 t191, .int .u64 t179, .int .u64 t180, .int .u64 t181]) ?_ 1 _ rfl; (with_reducible repeat (first | refine blk_drewN ?_ _ | refine blk_drew ?_ | refine blk_alloc ?_ _)); refine blk_put (cs := #[.int .u64 t178, .int .u64 t179, .int .u64 t180, .int .u64 t181]) ?_ 0 _ rfl; (with_reducible repeat (first | refine blk_drewN ?_ _ | refine blk_drew ?_ | refine blk_alloc ?_ _)); exact BK182.out⟩
  have n4_ : Aside0 (Below w.heap.size w ((((w68.setCell ⟨gb182, 0, none⟩ (.int .u64 t191)).setCell ⟨gb182, 1, none⟩ (.int .u64 t192)).setCell ⟨gb182, 2, none⟩ (.int .u64 t193)).setCell ⟨gb182, 3, none⟩ (.int .u64 t194))) := ⟨by repeat (first | (with_reducible first | exact HB.out | apply below_alloc | apply pw_below_drewN | apply below_drew1 | refine below_set ?_ GE171.out | refine below_set ?_ GE172.out | refine below_set ?_ GE173.out | refine below_set ?_ GE182.out) | exact HB.out)⟩
  (try clear BK171)
  (try clear BK172)
  (try clear BK173)
  (try clear BK182)
  (try clear HB)
  generalize ((((w68.setCell ⟨gb182, 0, none⟩ (.int .u64 t191)).setCell ⟨gb182, 1, none⟩ (.int .u64 t192)).setCell ⟨gb182, 2, none⟩ (.int .u64 t193)).setCell ⟨gb182, 3, none⟩ (.int .u64 t194)) = w73 at n0_ n1_ n2_ n3_ n4_ ⊢
  have BK171 := n0_
  have BK172 := n1_
  have BK173 := n2_
  have BK182 := n3_
  have HB := n4_
  clear n0_ n1_ n2_ n3_ n4_
  have n0_ := Aside0.mk (blk_drew BK171.out)
  have n1_ := Aside0.mk (blk_drew BK172.out)
  have n2_ := Aside0.mk (blk_drew BK173.out)
  have n3_ := Aside0.mk (blk_drew BK182.out)
  have n4_ := Aside0.mk (below_drew1 HB.out)
  clear BK171
  clear BK172
  clear BK173
  clear BK182
  clear HB
  have BK171 := n0_
  have BK172 := n1_
  have BK173 := n2_
  have BK182 := n3_
  have HB := n4_
  clear n0_ n1_ n2_ n3_ n4_
  refine start_ (n := 9) (S := fun w' => w'.cell? ⟨gb182, 0, none⟩ = some (.int .u64 t191) ∧ w'.cell? ⟨gb182, 1, none⟩ = some (.int .u64 t192) ∧ w'.cell? ⟨gb182, 2, none⟩ = some (.int .u64 t193) ∧ w'.cell? ⟨gb182, 3, none⟩ = some (.int .u64 t194) ∧ w'.cell? ⟨gb173, 0, none⟩ = some (.int .i64 t169) ∧ w'.cell? ⟨gb173, 1, none⟩ = some (.int .i64 t170) ∧ w'.cell? ⟨gb171, 0, none⟩ = some (.int .i64 t165) ∧ w'.cell? ⟨gb171, 1, none⟩ = some (.int .i64 t166) ∧ w'.cell? ⟨gb172, 0, none⟩ = some (.int .i64 t167) ∧ w'.cell? ⟨gb172, 1, none⟩ = some (.int .i64 t168)) (ds := [8]) #[false, false, false, false, false, false, false, false, false] (by kernel_rfl) rfl rfl ⟨(blk_cell BK182.out 0).trans rfl, (blk_cell BK182.out 1).trans rfl, (blk_cell BK182.out 2).trans rfl, (blk_cell BK182.out 3).trans rfl, (blk_cell BK173.out 0).trans rfl, (blk_cell BK173.out 1).trans rfl, (blk_cell BK171.out 0).trans rfl, (blk_cell BK171.out 1).trans rfl, (blk_cell BK172.out 0).trans rfl, (blk_cell BK172.out 1).trans rfl⟩ (fun hHeld => ?_); refine with_tabW pred_InCircle.tab6 pred_InCircle.bits6 (fun HT_ HW_ => ?_)
  generalize w73.drew = w74 at BK171 BK172 BK173 BK182 HB hHeld ⊢
  refine take_ (i := 0) (N := some 43) (v := ?_) (a' := ?_) #[true, false, false, false, false, false, false, false, false] rfl rfl (take_ofW HT_.out HW_.out (by kernel_rfl)) (fun _ _ _ h => h) (Or.inl ⟨by rfl, ?_⟩) hHeld ?_ ?_
  rotate_left
  ·rintro w' ⟨s0, s1, s2, s3, s4, s5, s6, s7, s8, s9⟩
   go_simp
   with_reducible rfl
  rotate_left
  ·simp only [Act.put, List.setIfInBounds_toArray, List.set_cons_zero, List.set_cons_succ, i64_w, i32_w]
   rfl
  refine take_ (i := 1) (N := some 44) (v := ?_) (a' := ?_) #[true, true, false, false, false, false, false, false, false] rfl rfl (take_ofW HT_.out HW_.out (by kernel_rfl)) (fun _ _ _ h => h) (Or.inl ⟨by rfl, ?_⟩) hHeld ?_ ?_
  rotate_left
  ·rintro w' ⟨s0, s1, s2, s3, s4, s5, s6, s7, s8, s9⟩
   go_simp
   with_reducible rfl
  rotate_left
  ·simp only [Act.put, List.setIfInBounds_toArray, List.set_cons_zero, List.set_cons_succ, i64_w, i32_w]
   rfl
  refine take_ (i := 3) (N := some 46) (v := ?_) (a' := ?_) #[true, true, false, true, false, false, false, false, false] rfl rfl (take_ofW HT_.out HW_.out (by kernel_rfl)) (fun _ _ _ h => h) (Or.inl ⟨by rfl, ?_⟩) hHeld ?_ ?_
  rotate_left
  ·rintro w' ⟨s0, s1, s2, s3, s4, s5, s6, s7, s8, s9⟩
   go_simp
   with_reducible rfl
  rotate_left
  ·simp only [Act.put, List.setIfInBounds_toArray, List.set_cons_zero, List.set_cons_succ, i64_w, i32_w]
   rfl
  refine take_ (i := 4) (N := some 47) (v := ?_) (a' := ?_) #[true, true, false, true, true, false, false, false, false] rfl rfl (take_ofW HT_.out HW_.out (by kernel_rfl)) (fun _ _ _ h => h) (Or.inl ⟨by rfl, ?_⟩) hHeld ?_ ?_
  rotate_left
  ·rintro w' ⟨s0, s1, s2, s3, s4, s5, s6, s7, s8, s9⟩
   go_simp
   with_reducible rfl
  rotate_left
  ·simp only [Act.put, List.setIfInBounds_toArray, List.set_cons_zero, List.set_cons_succ, i64_w, i32_w]
   rfl
  refine one_ (i := 2) (N := some 45) #[true, true, true, true, true, false, false, false, false] rfl rfl (one_of HT_.out (by kernel_rfl)) (by decide) (fun K hK => ?_)
  refine goes_ Try.func26 (by kernel_rfl) rfl #[.agg #[.int .i64 t169, .int .i64 t170]] (by rfl) rfl rfl (by (try simp only [List.map_toArray, List.map_cons, List.map_nil]); first | done | rfl | (simp only [List.length_drop, List.length_take]; rfl)) ?_
  with_reducible refine (pred_square.calls t169 t170 t195 t196 _ A17.out).mono ?_
  rintro e w75 ⟨rfl, hb⟩
  refine ⟨_, rfl, ?_⟩
  have n0_ := Aside0.mk (blk_below (bk BK171.out) hb)
  have n1_ := Aside0.mk (blk_below (bk BK172.out) hb)
  have n2_ := Aside0.mk (blk_below (bk BK173.out) hb)
  have n3_ := Aside0.mk (blk_below (bk BK182.out) hb)
  have n4_ := Aside0.mk (below_step (bw HB.out) hb)
  clear BK171
  clear BK172
  clear BK173
  clear BK182
  clear HB
  have BK171 := n0_
  have BK172 := n1_
  have BK173 := n2_
  have BK182 := n3_
  have HB := n4_
  clear n0_ n1_ n2_ n3_ n4_
  (try clear hb)
  (try clear hb2)
  (try clear hk)
  (try clear hi)
  refine hK.out _ _ ⟨(blk_cell BK182.out 0).trans rfl, (blk_cell BK182.out 1).trans rfl, (blk_cell BK182.out 2).trans rfl, (blk_cell BK182.out 3).trans rfl, (blk_cell BK173.out 0).trans rfl, (blk_cell BK173.out 1).trans rfl, (blk_cell BK171.out 0).trans rfl, (blk_cell BK171.out 1).trans rfl, (blk_cell BK172.out 0).trans rfl, (blk_cell BK172.out 1).trans rfl⟩ (fun hHeld => ?_)
  clear hK K
  refine norm_ (a' := ?_) ?_ ?_
  rotate_left
  ·show Act.put _ (some 45) _ = _
   simp only [Act.put, List.setIfInBounds_toArray, List.set_cons_zero, List.set_cons_succ, i64_w, i32_w]
   rfl
  refine one_ (i := 5) (N := some 48) #[true, true, true, true, true, true, false, false, false] rfl rfl (one_of HT_.out (by kernel_rfl)) (by decide) (fun K hK => ?_)
  refine goes_ Try.func27 (by kernel_rfl) rfl #[.agg #[.int .i64 t165, .int .i64 t166], .agg #[.int .i64 t167, .int .i64 t168]] (by rfl) rfl rfl (by (try simp only [List.map_toArray, List.map_cons, List.map_nil]); first | done | rfl | (simp only [List.length_drop, List.length_take]; rfl)) ?_
  with_reducible refine (pred_across.calls t165 t166 t167 t168 t197 t198 _ A18.out).mono ?_
  rintro e w76 ⟨rfl, hb⟩
  refine ⟨_, rfl, ?_⟩
  have n0_ := Aside0.mk (blk_below (bk BK171.out) hb)
  have n1_ := Aside0.mk (blk_below (bk BK172.out) hb)
  have n2_ := Aside0.mk (blk_below (bk BK173.out) hb)
  have n3_ := Aside0.mk (blk_below (bk BK182.out) hb)
  have n4_ := Aside0.mk (below_step (bw HB.out) hb)
  clear BK171
  clear BK172
  clear BK173
  clear BK182
  clear HB
  have BK171 := n0_
  have BK172 := n1_
  have BK173 := n2_
  have BK182 := n3_
  have HB := n4_
  clear n0_ n1_ n2_ n3_ n4_
  (try clear hb)
  (try clear hb2)
  (try clear hk)
  (try clear hi)
  refine hK.out _ _ ⟨(blk_cell BK182.out 0).trans rfl, (blk_cell BK182.out 1).trans rfl, (blk_cell BK182.out 2).trans rfl, (blk_cell BK182.out 3).trans rfl, (blk_cell BK173.out 0).trans rfl, (blk_cell BK173.out 1).trans rfl, (blk_cell BK171.out 0).trans rfl, (blk_cell BK171.out 1).trans rfl, (blk_cell BK172.out 0).trans rfl, (blk_cell BK172.out 1).trans rfl⟩ (fun hHeld => ?_)
  clear hK K
  refine norm_ (a' := ?_) ?_ ?_
  rotate_left
  ·show Act.put _ (some 48) _ = _
   simp only [Act.put, List.setIfInBounds_toArray, List.set_cons_zero, List.set_cons_succ, i64_w, i32_w]
   rfl
  refine one_ (i := 6) (N := some 49) #[true, true, true, true, true, true, true, false, false] rfl rfl (one_of HT_.out (by kernel_rfl)) (by decide) (fun K hK => ?_)
  refine goes_ Try.func25 (by kernel_rfl) rfl #[.agg #[.int .i64 t195, .int .u64 t196], .agg #[.int .i64 t197, .int .u64 t198]] (by rfl) rfl rfl (by (try simp only [List.map_toArray, List.map_cons, List.map_nil]); first | done | rfl | (simp only [List.length_drop, List.length_take]; rfl)) ?_
  with_reducible refine (quad_Mul.calls t195 t196 t197 t198 t199 t200 t201 t202 _ A19.out).mono ?_
  rintro e w77 ⟨rfl, hb⟩
  refine ⟨_, rfl, ?_⟩
  have n0_ := Aside0.mk (blk_below (bk BK171.out) hb)
  have n1_ := Aside0.mk (blk_below (bk BK172.out) hb)
  have n2_ := Aside0.mk (blk_below (bk BK173.out) hb)
  have n3_ := Aside0.mk (blk_below (bk BK182.out) hb)
  have n4_ := Aside0.mk (below_step (bw HB.out) hb)
  clear BK171
  clear BK172
  clear BK173
  clear BK182
  clear HB
  have BK171 := n0_
  have BK172 := n1_
  have BK173 := n2_
  have BK182 := n3_
  have HB := n4_
  clear n0_ n1_ n2_ n3_ n4_
  (try clear hb)
  (try clear hb2)
  (try clear hk)
  (try clear hi)
  refine hK.out _ _ ⟨(blk_cell BK182.out 0).trans rfl, (blk_cell BK182.out 1).trans rfl, (blk_cell BK182.out 2).trans rfl, (blk_cell BK182.out 3).trans rfl, (blk_cell BK173.out 0).trans rfl, (blk_cell BK173.out 1).trans rfl, (blk_cell BK171.out 0).trans rfl, (blk_cell BK171.out 1).trans rfl, (blk_cell BK172.out 0).trans rfl, (blk_cell BK172.out 1).trans rfl⟩ (fun hHeld => ?_)
  clear hK K
  refine norm_ (a' := ?_) ?_ ?_
  rotate_left
  ·show Act.put _ (some 49) _ = _
   simp only [Act.put, List.setIfInBounds_toArray, List.set_cons_zero, List.set_cons_succ, i64_w, i32_w]
   rfl
  refine one_ (i := 7) (N := some 50) #[true, true, true, true, true, true, true, true, false] rfl rfl (one_of HT_.out (by kernel_rfl)) (by decide) (fun K hK => ?_)
  refine goes_ Try.func28 (by kernel_rfl) rfl #[.agg #[.int .u64 t191, .int .u64 t192, .int .u64 t193, .int .u64 t194], .agg #[.int .u64 t199, .int .u64 t200, .int .u64 t201, .int .u64 t202]] (by rfl) rfl rfl (by (try simp only [List.map_toArray, List.map_cons, List.map_nil]); first | done | rfl | (simp only [List.length_drop, List.length_take]; rfl)) ?_
  with_reducible refine (quad_Add.calls t191 t192 t193 t194 t199 t200 t201 t202 t203 t204 t205 t206 _ A20.out).mono ?_
  rintro e w78 ⟨rfl, hb⟩
  refine ⟨_, rfl, ?_⟩
  have n0_ := Aside0.mk (blk_below (bk BK171.out) hb)
  have n1_ := Aside0.mk (blk_below (bk BK172.out) hb)
  have n2_ := Aside0.mk (blk_below (bk BK173.out) hb)
  have n3_ := Aside0.mk (blk_below (bk BK182.out) hb)
  have n4_ := Aside0.mk (below_step (bw HB.out) hb)
  clear BK171
  clear BK172
  clear BK173
  clear BK182
  clear HB
  have BK171 := n0_
  have BK172 := n1_
  have BK173 := n2_
  have BK182 := n3_
  have HB := n4_
  clear n0_ n1_ n2_ n3_ n4_
  (try clear hb)
  (try clear hb2)
  (try clear hk)
  (try clear hi)
  refine hK.out _ _ ⟨(blk_cell BK182.out 0).trans rfl, (blk_cell BK182.out 1).trans rfl, (blk_cell BK182.out 2).trans rfl, (blk_cell BK182.out 3).trans rfl, (blk_cell BK173.out 0).trans rfl, (blk_cell BK173.out 1).trans rfl, (blk_cell BK171.out 0).trans rfl, (blk_cell BK171.out 1).trans rfl, (blk_cell BK172.out 0).trans rfl, (blk_cell BK172.out 1).trans rfl⟩ (fun hHeld => ?_)
  clear hK K
  refine norm_ (a' := ?_) ?_ ?_
  rotate_left
  ·show Act.put _ (some 50) _ = _
   simp only [Act.put, List.setIfInBounds_toArray, List.set_cons_zero, List.set_cons_succ, i64_w, i32_w]
   rfl
  refine last_ (i := 8) (N := none) #[true, true, true, true, true, true, true, true, true] rfl rfl (one_of HT_.out (by kernel_rfl)) (by decide) (fun K hK => ?_)
  have hs79 : w78.cell? ⟨gb182, 0, none⟩ = some (.int .u64 t191) := (blk_cell BK182.out 0).trans rfl
  have hfs79 := blk_frozen BK182.out 0
  have hns79_0 := NB171_182.out
  have hns79_1 := NB172_182.out
  have hns79_2 := NB173_182.out
  have hms79_0 := NB182_171.out
  have hms79_1 := NB182_172.out
  have hms79_2 := NB182_173.out
  have hs80 : w78.cell? ⟨gb182, 1, none⟩ = some (.int .u64 t192) := (blk_cell BK182.out 1).trans rfl
  have hfs80 := blk_frozen BK182.out 1
  have hns80_0 := NB171_182.out
  have hns80_1 := NB172_182.out
  have hns80_2 := NB173_182.out
  have hms80_0 := NB182_171.out
  have hms80_1 := NB182_172.out
  have hms80_2 := NB182_173.out
  have hs81 : w78.cell? ⟨gb182, 2, none⟩ = some (.int .u64 t193) := (blk_cell BK182.out 2).trans rfl
  have hfs81 := blk_frozen BK182.out 2
  have hns81_0 := NB171_182.out
  have hns81_1 := NB172_182.out
  have hns81_2 := NB173_182.out
  have hms81_0 := NB182_171.out
  have hms81_1 := NB182_172.out
  have hms81_2 := NB182_173.out
  have hs82 : w78.cell? ⟨gb182, 3, none⟩ = some (.int .u64 t194) := (blk_cell BK182.out 3).trans rfl
  have hfs82 := blk_frozen BK182.out 3
  have hns82_0 := NB171_182.out
  have hns82_1 := NB172_182.out
  have hns82_2 := NB173_182.out
  have hms82_0 := NB182_171.out
  have hms82_1 := NB182_172.out
  have hms82_2 := NB182_173.out
  refine skip_ (w1 := ?_) (by rfl) rfl ?_ ?_
  rotate_left
  ·go_simp
   rfl
  refine hK.out _ _ ?_
  clear hK K
  refine done_ (done_of HT_.out (by kernel_rfl)) ?_
  have hnb83 := NB182_171.out
  have hnc83 := NB171_182.out
  have hnb84 := NB182_172.out
  have hnc84 := NB172_182.out
  have hnb85 := NB182_173.out
  have hnc85 := NB173_182.out
  have hcz86_0 : w78.cell? ⟨gb182, 0, none⟩ = some (.int .u64 t191) := (blk_cell BK182.out 0).trans rfl
  have hcz86_1 : w78.cell? ⟨gb182, 1, none⟩ = some (.int .u64 t192) := (blk_cell BK182.out 1).trans rfl
  have hcz86_2 : w78.cell? ⟨gb182, 2, none⟩ = some (.int .u64 t193) := (blk_cell BK182.out 2).trans rfl
  have hcz86_3 : w78.cell? ⟨gb182, 3, none⟩ = some (.int .u64 t194) := (blk_cell BK182.out 3).trans rfl
  have hfz86_0 := blk_frozen BK182.out 0
  have hfz86_1 := blk_frozen BK182.out 1
  have hfz86_2 := blk_frozen BK182.out 2
  have hfz86_3 := blk_frozen BK182.out 3
  try go_wp2_with (first | ((with_reducible refine gate_callee (f := 29) rfl ?_); refine goesL_ (some 52) rfl rfl Try.func29 (by kernel_rfl) rfl #[.agg #[.int .u64 t203, .int .u64 t204, .int .u64 t205, .int .u64 t206]] rfl (by (try simp only [List.map_toArray, List.map_cons, List.map_nil]); first | done | rfl | (simp only [List.length_drop, List.length_take]; rfl)) ?_; (with_reducible refine (quad_Sign.calls t203 t204 t205 t206 t207 _ A21.out).mono ?_); rintro e w87 ⟨rfl, hb⟩; refine ⟨_, rfl, ?_⟩; have n0_ := Aside0.mk (blk_below (g := gb171) (o := .cells #[.int .i64 t165, .int .i64 t166] 23 (0, 0)) (by (with_reducible repeat (first | refine blk_drewN ?_ _ | refine blk_drew ?_ | refine blk_alloc ?_ _)); refine blk_far ?_ NB171_182.out _; (with_reducible repeat (first | refine blk_drewN ?_ _ | refine blk_drew ?_ | refine blk_alloc ?_ _)); refine blk_far ?_ NB171_182.out _; (with_reducible repeat (first | refine blk_drewN ?_ _ | refine blk_drew ?_ | refine blk_alloc ?_ _)); refine blk_far ?_ NB171_182.out _; (with_reducible repeat (first | refine blk_drewN ?_ _ | refine blk_drew ?_ | refine blk_alloc ?_ _)); refine blk_far ?_ NB171_182.out _; (with_reducible repeat (first | refine blk_drewN ?_ _ | refine blk_drew ?_ | refine blk_alloc ?_ _)); exact BK171.out) hb); have n1_ := Aside0.mk (blk_below (g := gb172) (o := .cells #[.int .i64 t167, .int .i64 t168] 23 (0, 0)) (by (with_reducible repeat (first | refine blk_drewN ?_ _ | refine blk_drew ?_ | refine blk_alloc ?_ _)); refine blk_far ?_ NB172_182.out _; (with_reducible repeat (first | refine blk_drewN ?_ _ | refine blk_drew ?_ | refine blk_alloc ?_ _)); refine blk_far ?_ NB172_182.out _; (with_reducible repeat (first | refine blk_drewN ?_ _ | refine blk_drew ?_ | refine blk_alloc ?_ _)); refine blk_far ?_ NB172_182.out _; (with_reducible repeat (first | refine blk_drewN ?_ _ | refine blk_drew ?_ | refine blk_alloc ?_ _)); refine blk_far ?_ NB172_182.out _; (with_reducible repeat (first | refine blk_drewN ?_ _ | refine blk_drew ?_ | refine blk_alloc ?_ _)); exact BK172.out) hb); have n2_ := Aside0.mk (blk_below (g := gb173) (o := .cells #[.int .i64 t169, .int .i64 t170] 23 (0, 0)) (by (with_reducible repeat (first | refine blk_drewN ?_ _ | refine blk_drew ?_ | refine blk_alloc ?_ _)); refine blk_far ?_ NB173_182.out _; (with_reducible repeat (first | refine blk_drewN ?_ _ | refine blk_drew ?_ | refine blk_alloc ?_ _)); refine blk_far ?_ NB173_182.out _; (with_reducible repeat (first | refine blk_drewN ?_ _ | refine blk_drew ?_ | refine blk_alloc ?_ _)); refine blk_far ?_ NB173_182.out _; (with_reducible repeat (first | refine blk_drewN ?_ _ | refine blk_drew ?_ | refine blk_alloc ?_ _)); refine blk_far ?_ NB173_182.out _; (with_reducible repeat (first | refine blk_drewN ?_ _ | refine blk_drew ?_ | refine blk_alloc ?_ _)); exact BK173.out) hb); have n3_ := Aside0.mk (blk_below (g := gb182) (o := .cells #[.int .u64 t203, .int .u64 t204, .int .u64 t205, .int .u64 t206] 50 (0, 0)) (by (with_reducible repeat (first | refine blk_drewN ?_ _ | refine blk_drew ?_ | refine blk_alloc ?_ _)); refine blk_put (cs := #[.int .u64 t203, .int .u64 t204, .int .u64 t205, .int .u64 t194]) ?_ 3 _ rfl; (with_reducible repeat (first | refine blk_drewN ?_ _ | refine blk_drew ?_ | refine blk_alloc ?_ _)); refine blk_put (cs := #[.int .u64 t203, .int .u64 t204, .int .u64 t193, .int .u64 t194]) ?_ 2 _ rfl; (with_reducible repeat (first | refine blk_drewN ?_ _ | refine blk_drew ?_ | refine blk_alloc ?_ _)); refine blk_put (cs := #[.int .u64 t203, .int .u64 t192, .int .u64 t193, .int .u64 t194]) ?_ 1 _ rfl; (with_reducible repeat (first | refine blk_drewN ?_ _ | refine blk_drew ?_ | refine blk_alloc ?_ _)); refine blk_put (cs := #[.int .u64 t191, .int .u64 t192, .int .u64 t193, .int .u64 t194]) ?_ 0 _ rfl; (with_reducible repeat (first | refine blk_drewN ?_ _ | refine blk_drew ?_ | refine blk_alloc ?_ _)); exact BK182.out) hb); have n4_ := Aside0.mk (below_step (by repeat (first | (with_reducible first | exact HB.out | apply below_alloc | apply pw_below_drewN | apply below_drew1 | refine below_set ?_ GE171.out | refine below_set ?_ GE172.out | refine below_set ?_ GE173.out | refine below_set ?_ GE182.out) | exact HB.out)) hb); clear BK171; clear BK172; clear BK173; clear BK182; clear HB; have BK171 := n0_; have BK172 := n1_; have BK173 := n2_; have BK182 := n3_; have HB := n4_; clear n0_ n1_ n2_ n3_ n4_; clear hb))
  go_ret
  exact ⟨by first | rfl | (simp [*, errW_none, errW_some] <;> rfl), bw HB.out⟩
 ·replace c6 := Bool.eq_false_iff.mpr c6
  subst c6
  have H1 : (some 0) = some r := by rw [if_neg (show ¬ (false = true) by decide)] at H; exact H
  clear H
  have H := H1
  clear H1
  obtain rfl := Option.some.inj H
  go_enter Try.func8, Try.ntmps8
  go_wp2_with (first | ((with_reducible refine gate_dst (N := 4) rfl ?_); refine box_event ?hg (N := 4) ?hd (cs := #[.int .i64 a0_0, .int .i64 a0_1]) (t := 23) ?hr ?_; (case hd => rfl); (case hg => rfl); (case hr => first | (go_simp; done) | (go_simp; rfl)); intro gb157 hg w88 hbox hb; have BK157 := Aside0.mk hbox; have GW157 := u3 hg HB; have GE157 := u3 hg HB; replace HB := u2 HB hb; clear hb hbox hg) | ((with_reducible refine gate_dst (N := 5) rfl ?_); refine box_event ?hg (N := 5) ?hd (cs := #[.int .i64 a1_0, .int .i64 a1_1]) (t := 23) ?hr ?_; (case hd => rfl); (case hg => rfl); (case hr => first | (go_simp; done) | (go_simp; rfl)); intro gb158 hg w89 hbox hb; have BK158 := Aside0.mk hbox; have GW158 := u3 hg HB; have GE158 := u3 hg HB; have NB157_158 := u4 hg BK157; have NB158_157 := u5 hg BK157; replace BK157 := u1 BK157 hb; replace HB := u2 HB hb; clear hb hbox hg) | ((with_reducible refine gate_dst (N := 6) rfl ?_); refine box_event ?hg (N := 6) ?hd (cs := #[.int .i64 a2_0, .int .i64 a2_1]) (t := 23) ?hr ?_; (case hd => rfl); (case hg => rfl); (case hr => first | (go_simp; done) | (go_simp; rfl)); intro gb159 hg w90 hbox hb; have BK159 := Aside0.mk hbox; have GW159 := u3 hg HB; have GE159 := u3 hg HB; have NB157_159 := u4 hg BK157; have NB159_157 := u5 hg BK157; have NB158_159 := u4 hg BK158; have NB159_158 := u5 hg BK158; replace BK157 := u1 BK157 hb; replace BK158 := u1 BK158 hb; replace HB := u2 HB hb; clear hb hbox hg) | ((with_reducible refine gate_dst (N := 7) rfl ?_); refine box_event ?hg (N := 7) ?hd (cs := #[.int .i64 a3_0, .int .i64 a3_1]) (t := 23) ?hr ?_; (case hd => rfl); (case hg => rfl); (case hr => first | (go_simp; done) | (go_simp; rfl)); intro gb160 hg w91 hbox hb; have BK160 := Aside0.mk hbox; have GW160 := u3 hg HB; have GE160 := u3 hg HB; have NB157_160 := u4 hg BK157; have NB160_157 := u5 hg BK157; have NB158_160 := u4 hg BK158; have NB160_158 := u5 hg BK158; have NB159_160 := u4 hg BK159; have NB160_159 := u5 hg BK159; replace BK157 := u1 BK157 hb; replace BK158 := u1 BK158 hb; replace BK159 := u1 BK159 hb; replace HB := u2 HB hb; clear hb hbox hg; have hnb92 := NB157_158.out; have hnc92 := NB158_157.out; have hnb93 := NB157_159.out; have hnc93 := NB159_157.out; have hnb94 := NB157_160.out; have hnc94 := NB160_157.out; obtain ⟨_, _, _, _⟩ := p2 BK157; have hnb96 := NB158_159.out; have hnc96 := NB159_158.out; have hnb97 := NB158_160.out; have hnc97 := NB160_158.out; obtain ⟨_, _, _, _⟩ := p2 BK158; have hnb99 := NB159_160.out; have hnc99 := NB160_159.out; obtain ⟨_, _, _, _⟩ := p2 BK159; obtain ⟨_, _, _, _⟩ := p2 BK160) | ((with_reducible refine gate_dst (N := 17) rfl ?_); refine Kd.R_lit k23 _ 23 ?hg (N := 17) ?hd (xs := ([(⟨a0_0, a0_1⟩ : S23), (⟨a1_0, a1_1⟩ : S23), (⟨a2_0, a2_1⟩ : S23), (⟨a3_0, a3_1⟩ : S23)] : List (S23))) (inner := [.int .i64 a0_0, .int .i64 a0_1, .int .i64 a1_0, .int .i64 a1_1, .int .i64 a2_0, .int .i64 a2_1, .int .i64 a3_0, .int .i64 a3_1]) (ok := fun _ => True) (okp := fun _ => True) ?hr ?hp (fun _ hk => hk) trivial (Below.refl _ _) (Nat.le_refl _) (by simp) ?_; (case hd => rfl); (case hg => rfl); (case hr => first | (go_simp; done) | (go_simp; rfl)); (case hp => exact (Reps.c2 (show Kd.M k23 _ _ _ (⟨a0_0, a0_1⟩ : S23) [.int .i64 a0_0, .int .i64 a0_1] from (k23_mkM _ _ _ (⟨a0_0, a0_1⟩ : S23) )) (Reps.c2 (show Kd.M k23 _ _ _ (⟨a1_0, a1_1⟩ : S23) [.int .i64 a1_0, .int .i64 a1_1] from (k23_mkM _ _ _ (⟨a1_0, a1_1⟩ : S23) )) (Reps.c2 (show Kd.M k23 _ _ _ (⟨a2_0, a2_1⟩ : S23) [.int .i64 a2_0, .int .i64 a2_1] from (k23_mkM _ _ _ (⟨a2_0, a2_1⟩ : S23) )) (Reps.c2 (show Kd.M k23 _ _ _ (⟨a3_0, a3_1⟩ : S23) [.int .i64 a3_0, .int .i64 a3_1] from (k23_mkM _ _ _ (⟨a3_0, a3_1⟩ : S23) )) (Reps.none _ _)))))); intro v162 w102 ho103 hb hg_ hnew_; clear hg_ hnew_; (first | rw [← Ny161.out] at ho103 | (simp only [Int.reduceToNat] at ho103; rw [← Ny161.out] at ho103)); have n0_ := Aside0.mk (Kd.R_lower (Kd.R_newB (Kd.R_newB (Kd.R_newB (Kd.R_newB ho103 (bk BK157.out)) (bk BK158.out)) (bk BK159.out)) (bk BK160.out)) (below_size (bw HB.out))); have n1_ := u1 BK157 hb; have n2_ := u1 BK158 hb; have n3_ := u1 BK159 hb; have n4_ := u1 BK160 hb; have n5_ := u2 HB hb; clear BK157; clear BK158; clear BK159; clear BK160; clear HB; have HO163 := n0_; have BK157 := n1_; have BK158 := n2_; have BK159 := n3_; have BK160 := n4_; have HB := n5_; clear n0_ n1_ n2_ n3_ n4_ n5_; clear hb ho103; obtain ⟨Ao104, co104, eo104⟩ := Kd.R_slice HO163.out; subst eo104) | ((with_reducible refine gate_callee (f := 23) rfl ?_); refine goesL_ (some 18) rfl rfl Try.func23 (by kernel_rfl) rfl #[.slice Ao104 y161.length co104] rfl (by (try simp only [List.map_toArray, List.map_cons, List.map_nil]); first | done | rfl | (simp only [List.length_drop, List.length_take]; rfl)) ?_; (with_reducible refine (pred_can.calls k _ _ y161 false _ ?side1 ?side2 A5.out).mono ?_); (case side1 => repeat (first | exact (Kd.R_reads' HO163.out).2.2 | (with_reducible refine Kd.C_alloc ?_ _) | (with_reducible refine Kd.C_drewN ?_ _) | (with_reducible refine Kd.C_drew ?_))); (case side2 => exact (Kd.R_reads' HO163.out).2.1); rintro e w105 ⟨rfl, hb⟩; refine ⟨_, rfl, ?_⟩; have n0_ := Aside0.mk (Kd.R_below (by (with_reducible repeat (first | apply Kd.R_alloc | apply Kd.R_drewN | apply Kd.R_drew)); exact HO163.out) hb); have n1_ := u1 BK157 hb; have n2_ := u1 BK158 hb; have n3_ := u1 BK159 hb; have n4_ := u1 BK160 hb; have n5_ := u2 HB hb; clear HO163; clear BK157; clear BK158; clear BK159; clear BK160; clear HB; have HO163 := n0_; have BK157 := n1_; have BK158 := n2_; have BK159 := n3_; have BK160 := n4_; have HB := n5_; clear n0_ n1_ n2_ n3_ n4_ n5_; clear hb))
  go_ret
  exact ⟨by first | rfl | (simp [*, errW_none, errW_some] <;> rfl), bw HB.out⟩
end Go.Proofs.Ytmeckkckjikjiaa.F
end
section
namespace Go.Proofs.Ytmeckkckjikjiaa.F
open Go.RowKit Go.Proofs.YtmeckkckjikjiaaW.PrintWords Go.Proofs.YtmeckkckjikjiaaW.PrintLast Go.Proofs.YtmeckkckjikjiaaW.PrintMore
attribute [local go_sem] max2_int min2_int max_two min_two max_three min_three max_four min_four
set_option linter.unusedVariables false
set_option linter.unusedSimpArgs false
def zelligelaw07_lives.f (k : Nat)  : Option (Bool) := (pred_InCircle.f k 0 0 1 0 1 1 0 1).bind fun t378 => (if t378 = 0 then ((pred_Orient.f k 0 0 1 0 1 1).bind fun t379 => (if t379 = 1 then ((pred_Where.f k 0 0 1 0 1 1 0 1).bind fun t380 => (some (t380 == (-1)))) else (some false))) else (some false))
theorem zelligelaw07_lives.mono : ∀ k, LeO (zelligelaw07_lives.f k ) (zelligelaw07_lives.f (k + 1) ) := by
 intro  k
 unfold zelligelaw07_lives.f
 repeat' first
   | (with_reducible exact pred_InCircle.mono _ _ _ _ _ _ _ _ _)
   | (with_reducible exact pred_Orient.mono _ _ _ _ _ _ _)
   | (with_reducible exact pred_Where.mono _ _ _ _ _ _ _ _ _)
   | (with_reducible exact LeO.refl _)
   | (with_reducible exact LeO.none _)
   | (with_reducible refine LeO.ite ?_ ?_)
   | (with_reducible refine LeO.bind ?_ (fun _ => ?_))
   | exact pred_InCircle.mono _ _ _ _ _ _ _ _ _
   | exact pred_Orient.mono _ _ _ _ _ _ _
   | exact pred_Where.mono _ _ _ _ _ _ _ _ _
   | exact LeO.none _
   | refine LeO.ite ?_ ?_
   | refine LeO.bind ?_ (fun _ => ?_)
set_option maxHeartbeats 8000000 in
set_option maxRecDepth 100000 in
theorem zelligelaw07_lives.calls (k : Nat)  (r : Bool) (w : World) (h : zelligelaw07_lives.f k  = some r) :
  Calls Try.prog 10 #[] w fun e w' => e = .returned (.bool r) ∧ Below w.heap.size w w' := by
 have hu23 := Try.underlying23
 have HB := Aside0.mk (Below.refl w.heap.size w)
 have H : ((pred_InCircle.f k 0 0 1 0 1 1 0 1).bind fun t378 => (if t378 = 0 then ((pred_Orient.f k 0 0 1 0 1 1).bind fun t379 => (if t379 = 1 then ((pred_Where.f k 0 0 1 0 1 1 0 1).bind fun t380 => (some (t380 == (-1)))) else (some false))) else (some false))) = some r := h
 clear h
 replace H := Option.bind_eq_some_iff.mp H
 obtain ⟨t378, A10, H⟩ := H
 replace H : (if t378 = 0 then ((pred_Orient.f k 0 0 1 0 1 1).bind fun t379 => (if t379 = 1 then ((pred_Where.f k 0 0 1 0 1 1 0 1).bind fun t380 => (some (t380 == (-1)))) else (some false))) else (some false)) = some r := H
 have A1 := Aside0.mk A10
 clear A10
 by_cases c2 : t378 = 0
 ·rw [if_pos c2] at H
  have c2b0 : (t378 == 0) = true := beq_iff_eq.mpr c2
  have c2b1 : (t378 != 0) = false := bne_eq_false_iff_eq.mpr c2
  clear c2
  replace H := Option.bind_eq_some_iff.mp H
  obtain ⟨t379, A30, H⟩ := H
  replace H : (if t379 = 1 then ((pred_Where.f k 0 0 1 0 1 1 0 1).bind fun t380 => (some (t380 == (-1)))) else (some false)) = some r := H
  have A3 := Aside0.mk A30
  clear A30
  by_cases c4 : t379 = 1
  ·rw [if_pos c4] at H
   have c4b0 : (t379 == 1) = true := beq_iff_eq.mpr c4
   have c4b1 : (t379 != 1) = false := bne_eq_false_iff_eq.mpr c4
   clear c4
   replace H := Option.bind_eq_some_iff.mp H
   obtain ⟨t380, A50, H⟩ := H
   replace H : (some (t380 == (-1))) = some r := H
   have A5 := Aside0.mk A50
   clear A50
   obtain rfl := Option.some.inj H
   go_enter Try.func10, Try.ntmps10
   go_wp2_with (first | ((with_reducible refine gate_dst (N := 1) rfl ?_); refine box_event ?hg (N := 1) ?hd (cs := #[.int .i64 0, .int .i64 0]) (t := 23) ?hr ?_; (case hd => rfl); (case hg => rfl); (case hr => first | (go_simp; done) | (go_simp; rfl)); intro gb374 hg w6 hbox hb; have n0_ := Aside0.mk (below_step (by repeat (first | (with_reducible first | exact HB.out | apply below_alloc | apply pw_below_drewN | apply below_drew1) | exact HB.out)) hb); have n1_ := Aside0.mk hbox; have n2_ := Aside0.mk ((by rw [hg]; exact (below_size (by repeat (first | (with_reducible first | exact HB.out | apply below_alloc | apply pw_below_drewN | apply below_drew1) | exact HB.out))) : w.heap.size ≤ gb374)); have n3_ := Aside0.mk ((by rw [hg]; exact (below_size (by repeat (first | (with_reducible first | exact HB.out | apply below_alloc | apply pw_below_drewN | apply below_drew1) | exact HB.out))) : w.heap.size ≤ gb374)); clear HB; have HB := n0_; have BK374 := n1_; have GW374 := n2_; have GE374 := n3_; clear n0_ n1_ n2_ n3_; clear hb hbox hg) | ((with_reducible refine gate_dst (N := 2) rfl ?_); refine box_event ?hg (N := 2) ?hd (cs := #[.int .i64 0, .int .i64 0]) (t := 23) ?hr ?_; (case hd => rfl); (case hg => rfl); (case hr => first | (go_simp; done) | (go_simp; rfl)); intro gb375 hg w7 hbox hb; have n0_ := u1 BK374 hb; have n1_ := Aside0.mk (below_step (by repeat (first | (with_reducible first | exact HB.out | apply below_alloc | apply pw_below_drewN | apply below_drew1 | refine below_set ?_ GE374.out) | exact HB.out)) hb); have n2_ := Aside0.mk hbox; have n3_ := Aside0.mk ((by rw [hg]; exact (below_size (by repeat (first | (with_reducible first | exact HB.out | apply below_alloc | apply pw_below_drewN | apply below_drew1 | refine below_set ?_ GE374.out) | exact HB.out))) : w.heap.size ≤ gb375)); have n4_ := Aside0.mk ((by rw [hg]; exact (below_size (by repeat (first | (with_reducible first | exact HB.out | apply below_alloc | apply pw_below_drewN | apply below_drew1 | refine below_set ?_ GE374.out) | exact HB.out))) : w.heap.size ≤ gb375)); have n5_ := u4 hg BK374; have n6_ := u5 hg BK374; clear BK374; clear HB; have BK374 := n0_; have HB := n1_; have BK375 := n2_; have GW375 := n3_; have GE375 := n4_; have NB374_375 := n5_; have NB375_374 := n6_; clear n0_ n1_ n2_ n3_ n4_ n5_ n6_; clear hb hbox hg) | ((with_reducible refine gate_dst (N := 3) rfl ?_); refine box_event ?hg (N := 3) ?hd (cs := #[.int .i64 0, .int .i64 0]) (t := 23) ?hr ?_; (case hd => rfl); (case hg => rfl); (case hr => first | (go_simp; done) | (go_simp; rfl)); intro gb376 hg w8 hbox hb; have n0_ := u1 BK374 hb; have n1_ := u1 BK375 hb; have n2_ := Aside0.mk (below_step (by repeat (first | (with_reducible first | exact HB.out | apply below_alloc | apply pw_below_drewN | apply below_drew1 | refine below_set ?_ GE374.out | refine below_set ?_ GE375.out) | exact HB.out)) hb); have n3_ := Aside0.mk hbox; have n4_ := Aside0.mk ((by rw [hg]; exact (below_size (by repeat (first | (with_reducible first | exact HB.out | apply below_alloc | apply pw_below_drewN | apply below_drew1 | refine below_set ?_ GE374.out | refine below_set ?_ GE375.out) | exact HB.out))) : w.heap.size ≤ gb376)); have n5_ := Aside0.mk ((by rw [hg]; exact (below_size (by repeat (first | (with_reducible first | exact HB.out | apply below_alloc | apply pw_below_drewN | apply below_drew1 | refine below_set ?_ GE374.out | refine below_set ?_ GE375.out) | exact HB.out))) : w.heap.size ≤ gb376)); have n6_ := u4 hg BK374; have n7_ := u5 hg BK374; have n8_ := u4 hg BK375; have n9_ := u5 hg BK375; clear BK374; clear BK375; clear HB; have BK374 := n0_; have BK375 := n1_; have HB := n2_; have BK376 := n3_; have GW376 := n4_; have GE376 := n5_; have NB374_376 := n6_; have NB376_374 := n7_; have NB375_376 := n8_; have NB376_375 := n9_; clear n0_ n1_ n2_ n3_ n4_ n5_ n6_ n7_ n8_ n9_; clear hb hbox hg) | ((with_reducible refine gate_dst (N := 4) rfl ?_); refine box_event ?hg (N := 4) ?hd (cs := #[.int .i64 0, .int .i64 0]) (t := 23) ?hr ?_; (case hd => rfl); (case hg => rfl); (case hr => first | (go_simp; done) | (go_simp; rfl)); intro gb377 hg w9 hbox hb; have n0_ := u1 BK374 hb; have n1_ := u1 BK375 hb; have n2_ := u1 BK376 hb; have n3_ := Aside0.mk (below_step (by repeat (first | (with_reducible first | exact HB.out | apply below_alloc | apply pw_below_drewN | apply below_drew1 | refine below_set ?_ GE374.out | refine below_set ?_ GE375.out | refine below_set ?_ GE376.out) | exact HB.out)) hb); have n4_ := Aside0.mk hbox; have n5_ := Aside0.mk ((by rw [hg]; exact (below_size (by repeat (first | (with_reducible first | exact HB.out | apply below_alloc | apply pw_below_drewN | apply below_drew1 | refine below_set ?_ GE374.out | refine below_set ?_ GE375.out | refine below_set ?_ GE376.out) | exact HB.out))) : w.heap.size ≤ gb377)); have n6_ := Aside0.mk ((by rw [hg]; exact (below_size (by repeat (first | (with_reducible first | exact HB.out | apply below_alloc | apply pw_below_drewN | apply below_drew1 | refine below_set ?_ GE374.out | refine below_set ?_ GE375.out | refine below_set ?_ GE376.out) | exact HB.out))) : w.heap.size ≤ gb377)); have n7_ := u4 hg BK374; have n8_ := u5 hg BK374; have n9_ := u4 hg BK375; have n10_ := u5 hg BK375; have n11_ := u4 hg BK376; have n12_ := u5 hg BK376; clear BK374; clear BK375; clear BK376; clear HB; have BK374 := n0_; have BK375 := n1_; have BK376 := n2_; have HB := n3_; have BK377 := n4_; have GW377 := n5_; have GE377 := n6_; have NB374_377 := n7_; have NB377_374 := n8_; have NB375_377 := n9_; have NB377_375 := n10_; have NB376_377 := n11_; have NB377_376 := n12_; clear n0_ n1_ n2_ n3_ n4_ n5_ n6_ n7_ n8_ n9_ n10_ n11_ n12_; clear hb hbox hg; have hnb10 := NB374_375.out; have hnc10 := NB375_374.out; have hnb11 := NB374_376.out; have hnc11 := NB376_374.out; have hnb12 := NB374_377.out; have hnc12 := NB377_374.out; obtain ⟨_, _, _, _⟩ := p2 BK374; have hnb14 := NB375_376.out; have hnc14 := NB376_375.out; have hnb15 := NB375_377.out; have hnc15 := NB377_375.out; obtain ⟨_, _, _, _⟩ := p2 BK375; have hnb17 := NB376_377.out; have hnc17 := NB377_376.out; obtain ⟨_, _, _, _⟩ := p2 BK376; obtain ⟨_, _, _, _⟩ := p2 BK377) | ((with_reducible refine gate_callee (f := 8) rfl ?_); refine goesL_ (some 13) rfl rfl Try.func8 (by kernel_rfl) rfl #[.agg #[.int .i64 0, .int .i64 0], .agg #[.int .i64 1, .int .i64 0], .agg #[.int .i64 1, .int .i64 1], .agg #[.int .i64 0, .int .i64 1]] rfl (by (try simp only [List.map_toArray, List.map_cons, List.map_nil]); first | done | rfl | (simp only [List.length_drop, List.length_take]; rfl)) ?_; (with_reducible refine (pred_InCircle.calls k 0 0 1 0 1 1 0 1 t378 _ A1.out).mono ?_); rintro e w20 ⟨rfl, hb⟩; refine ⟨_, rfl, ?_⟩; have n0_ := Aside0.mk (blk_below (g := gb374) (o := .cells #[.int .i64 0, .int .i64 0] 23 (0, 0)) (by (with_reducible repeat (first | refine blk_drewN ?_ _ | refine blk_drew ?_ | refine blk_alloc ?_ _)); refine blk_far ?_ NB374_377.out _; (with_reducible repeat (first | refine blk_drewN ?_ _ | refine blk_drew ?_ | refine blk_alloc ?_ _)); refine blk_far ?_ NB374_377.out _; (with_reducible repeat (first | refine blk_drewN ?_ _ | refine blk_drew ?_ | refine blk_alloc ?_ _)); refine blk_far ?_ NB374_376.out _; (with_reducible repeat (first | refine blk_drewN ?_ _ | refine blk_drew ?_ | refine blk_alloc ?_ _)); refine blk_far ?_ NB374_376.out _; (with_reducible repeat (first | refine blk_drewN ?_ _ | refine blk_drew ?_ | refine blk_alloc ?_ _)); refine blk_far ?_ NB374_375.out _; (with_reducible repeat (first | refine blk_drewN ?_ _ | refine blk_drew ?_ | refine blk_alloc ?_ _)); refine blk_far ?_ NB374_375.out _; (with_reducible repeat (first | refine blk_drewN ?_ _ | refine blk_drew ?_ | refine blk_alloc ?_ _)); refine blk_put (cs := #[.int .i64 0, .int .i64 0]) ?_ 1 _ rfl; (with_reducible repeat (first | refine blk_drewN ?_ _ | refine blk_drew ?_ | refine blk_alloc ?_ _)); refine blk_put (cs := #[.int .i64 0, .int .i64 0]) ?_ 0 _ rfl; (with_reducible repeat (first | refine blk_drewN ?_ _ | refine blk_drew ?_ | refine blk_alloc ?_ _)); exact BK374.out) hb); have n1_ := Aside0.mk (blk_below (g := gb375) (o := .cells #[.int .i64 1, .int .i64 0] 23 (0, 0)) (by (with_reducible repeat (first | refine blk_drewN ?_ _ | refine blk_drew ?_ | refine blk_alloc ?_ _)); refine blk_far ?_ NB375_377.out _; (with_reducible repeat (first | refine blk_drewN ?_ _ | refine blk_drew ?_ | refine blk_alloc ?_ _)); refine blk_far ?_ NB375_377.out _; (with_reducible repeat (first | refine blk_drewN ?_ _ | refine blk_drew ?_ | refine blk_alloc ?_ _)); refine blk_far ?_ NB375_376.out _; (with_reducible repeat (first | refine blk_drewN ?_ _ | refine blk_drew ?_ | refine blk_alloc ?_ _)); refine blk_far ?_ NB375_376.out _; (with_reducible repeat (first | refine blk_drewN ?_ _ | refine blk_drew ?_ | refine blk_alloc ?_ _)); refine blk_put (cs := #[.int .i64 1, .int .i64 0]) ?_ 1 _ rfl; (with_reducible repeat (first | refine blk_drewN ?_ _ | refine blk_drew ?_ | refine blk_alloc ?_ _)); refine blk_put (cs := #[.int .i64 0, .int .i64 0]) ?_ 0 _ rfl; (with_reducible repeat (first | refine blk_drewN ?_ _ | refine blk_drew ?_ | refine blk_alloc ?_ _)); refine blk_far ?_ NB375_374.out _; (with_reducible repeat (first | refine blk_drewN ?_ _ | refine blk_drew ?_ | refine blk_alloc ?_ _)); refine blk_far ?_ NB375_374.out _; (with_reducible repeat (first | refine blk_drewN ?_ _ | refine blk_drew ?_ | refine blk_alloc ?_ _)); exact BK375.out) hb); have n2_ := Aside0.mk (blk_below (g := gb376) (o := .cells #[.int .i64 1, .int .i64 1] 23 (0, 0)) (by (with_reducible repeat (first | refine blk_drewN ?_ _ | refine blk_drew ?_ | refine blk_alloc ?_ _)); refine blk_far ?_ NB376_377.out _; (with_reducible repeat (first | refine blk_drewN ?_ _ | refine blk_drew ?_ | refine blk_alloc ?_ _)); refine blk_far ?_ NB376_377.out _; (with_reducible repeat (first | refine blk_drewN ?_ _ | refine blk_drew ?_ | refine blk_alloc ?_ _)); refine blk_put (cs := #[.int .i64 1, .int .i64 0]) ?_ 1 _ rfl; (with_reducible repeat (first | refine blk_drewN ?_ _ | refine blk_drew ?_ | refine blk_alloc ?_ _)); refine blk_put (cs := #[.int .i64 0, .int .i64 0]) ?_ 0 _ rfl; (with_reducible repeat (first | refine blk_drewN ?_ _ | refine blk_drew ?_ | refine blk_alloc ?_ _)); refine blk_far ?_ NB376_375.out _; (with_reducible repeat (first | refine blk_drewN ?_ _ | refine blk_drew ?_ | refine blk_alloc ?_ _)); refine blk_far ?_ NB376_375.out _; (with_reducible repeat (first | refine blk_drewN ?_ _ | refine blk_drew ?_ | refine blk_alloc ?_ _)); refine blk_far ?_ NB376_374.out _; (with_reducible repeat (first | refine blk_drewN ?_ _ | refine blk_drew ?_ | refine blk_alloc ?_ _)); refine blk_far ?_ NB376_374.out _; (with_reducible repeat (first | refine blk_drewN ?_ _ | refine blk_drew ?_ | refine blk_alloc ?_ _)); exact BK376.out) hb); have n3_ := Aside0.mk (blk_below (g := gb377) (o := .cells #[.int .i64 0, .int .i64 1] 23 (0, 0)) (by (with_reducible repeat (first | refine blk_drewN ?_ _ | refine blk_drew ?_ | refine blk_alloc ?_ _)); refine blk_put (cs := #[.int .i64 0, .int .i64 0]) ?_ 1 _ rfl; (with_reducible repeat (first | refine blk_drewN ?_ _ | refine blk_drew ?_ | refine blk_alloc ?_ _)); refine blk_put (cs := #[.int .i64 0, .int .i64 0]) ?_ 0 _ rfl; (with_reducible repeat (first | refine blk_drewN ?_ _ | refine blk_drew ?_ | refine blk_alloc ?_ _)); refine blk_far ?_ NB377_376.out _; (with_reducible repeat (first | refine blk_drewN ?_ _ | refine blk_drew ?_ | refine blk_alloc ?_ _)); refine blk_far ?_ NB377_376.out _; (with_reducible repeat (first | refine blk_drewN ?_ _ | refine blk_drew ?_ | refine blk_alloc ?_ _)); refine blk_far ?_ NB377_375.out _; (with_reducible repeat (first | refine blk_drewN ?_ _ | refine blk_drew ?_ | refine blk_alloc ?_ _)); refine blk_far ?_ NB377_375.out _; (with_reducible repeat (first | refine blk_drewN ?_ _ | refine blk_drew ?_ | refine blk_alloc ?_ _)); refine blk_far ?_ NB377_374.out _; (with_reducible repeat (first | refine blk_drewN ?_ _ | refine blk_drew ?_ | refine blk_alloc ?_ _)); refine blk_far ?_ NB377_374.out _; (with_reducible repeat (first | refine blk_drewN ?_ _ | refine blk_drew ?_ | refine blk_alloc ?_ _)); exact BK377.out) hb); have n4_ := Aside0.mk (below_step (by repeat (first | (with_reducible first | exact HB.out | apply below_alloc | apply pw_below_drewN | apply below_drew1 | refine below_set ?_ GE374.out | refine below_set ?_ GE375.out | refine below_set ?_ GE376.out | refine below_set ?_ GE377.out) | exact HB.out)) hb); clear BK374; clear BK375; clear BK376; clear BK377; clear HB; have BK374 := n0_; have BK375 := n1_; have BK376 := n2_; have BK377 := n3_; have HB := n4_; clear n0_ n1_ n2_ n3_ n4_; clear hb; obtain ⟨_, _, _, _⟩ := p2 BK374; obtain ⟨_, _, _, _⟩ := p2 BK375; obtain ⟨_, _, _, _⟩ := p2 BK376) | (go_at_call 14; (with_reducible refine (pred_Orient.calls k 0 0 1 0 1 1 t379 _ A3.out).mono ?_); rintro e w24 ⟨rfl, hb⟩; have n0_ := u1 BK374 hb; have n1_ := u1 BK375 hb; have n2_ := u1 BK376 hb; have n3_ := u1 BK377 hb; have n4_ := Aside0.mk (below_step (by repeat (first | (with_reducible first | exact HB.out | apply below_alloc | apply pw_below_drewN | apply below_drew1 | refine below_set ?_ GE374.out | refine below_set ?_ GE375.out | refine below_set ?_ GE376.out | refine below_set ?_ GE377.out) | exact HB.out)) hb); clear BK374; clear BK375; clear BK376; clear BK377; clear HB; have BK374 := n0_; have BK375 := n1_; have BK376 := n2_; have BK377 := n3_; have HB := n4_; clear n0_ n1_ n2_ n3_ n4_; clear hb; obtain ⟨_, _, _, _⟩ := p2 BK374; obtain ⟨_, _, _, _⟩ := p2 BK375; obtain ⟨_, _, _, _⟩ := p2 BK376; obtain ⟨_, _, _, _⟩ := p2 BK377) | (go_at_call 12; (with_reducible refine (pred_Where.calls k 0 0 1 0 1 1 0 1 t380 _ A5.out).mono ?_); rintro e w29 ⟨rfl, hb⟩; have n0_ := u1 BK374 hb; have n1_ := u1 BK375 hb; have n2_ := u1 BK376 hb; have n3_ := u1 BK377 hb; have n4_ := Aside0.mk (below_step (by repeat (first | (with_reducible first | exact HB.out | apply below_alloc | apply pw_below_drewN | apply below_drew1 | refine below_set ?_ GE374.out | refine below_set ?_ GE375.out | refine below_set ?_ GE376.out | refine below_set ?_ GE377.out) | exact HB.out)) hb); clear BK374; clear BK375; clear BK376; clear BK377; clear HB; have BK374 := n0_; have BK375 := n1_; have BK376 := n2_; have BK377 := n3_; have HB := n4_; clear n0_ n1_ n2_ n3_ n4_; clear hb))
   go_ret
   exact ⟨by first | rfl | (simp [*, errW_none, errW_some] <;> rfl), bw HB.out⟩
  ·rw [if_neg c4] at H
   have c4b0 : (t379 == 1) = false := beq_eq_false_iff_ne.mpr c4
   have c4b1 : (t379 != 1) = true := bne_iff_ne.mpr c4
   obtain rfl := Option.some.inj H
   go_enter Try.func10, Try.ntmps10
   go_wp2_with (first | ((with_reducible refine gate_dst (N := 1) rfl ?_); refine box_event ?hg (N := 1) ?hd (cs := #[.int .i64 0, .int .i64 0]) (t := 23) ?hr ?_; (case hd => rfl); (case hg => rfl); (case hr => first | (go_simp; done) | (go_simp; rfl)); intro gb374 hg w30 hbox hb; have n0_ := Aside0.mk (below_step (by repeat (first | (with_reducible first | exact HB.out | apply below_alloc | apply pw_below_drewN | apply below_drew1) | exact HB.out)) hb); have n1_ := Aside0.mk hbox; have n2_ := Aside0.mk ((by rw [hg]; exact (below_size (by repeat (first | (with_reducible first | exact HB.out | apply below_alloc | apply pw_below_drewN | apply below_drew1) | exact HB.out))) : w.heap.size ≤ gb374)); have n3_ := Aside0.mk ((by rw [hg]; exact (below_size (by repeat (first | (with_reducible first | exact HB.out | apply below_alloc | apply pw_below_drewN | apply below_drew1) | exact HB.out))) : w.heap.size ≤ gb374)); clear HB; have HB := n0_; have BK374 := n1_; have GW374 := n2_; have GE374 := n3_; clear n0_ n1_ n2_ n3_; clear hb hbox hg) | ((with_reducible refine gate_dst (N := 2) rfl ?_); refine box_event ?hg (N := 2) ?hd (cs := #[.int .i64 0, .int .i64 0]) (t := 23) ?hr ?_; (case hd => rfl); (case hg => rfl); (case hr => first | (go_simp; done) | (go_simp; rfl)); intro gb375 hg w31 hbox hb; have n0_ := u1 BK374 hb; have n1_ := Aside0.mk (below_step (by repeat (first | (with_reducible first | exact HB.out | apply below_alloc | apply pw_below_drewN | apply below_drew1 | refine below_set ?_ GE374.out) | exact HB.out)) hb); have n2_ := Aside0.mk hbox; have n3_ := Aside0.mk ((by rw [hg]; exact (below_size (by repeat (first | (with_reducible first | exact HB.out | apply below_alloc | apply pw_below_drewN | apply below_drew1 | refine below_set ?_ GE374.out) | exact HB.out))) : w.heap.size ≤ gb375)); have n4_ := Aside0.mk ((by rw [hg]; exact (below_size (by repeat (first | (with_reducible first | exact HB.out | apply below_alloc | apply pw_below_drewN | apply below_drew1 | refine below_set ?_ GE374.out) | exact HB.out))) : w.heap.size ≤ gb375)); have n5_ := u4 hg BK374; have n6_ := u5 hg BK374; clear BK374; clear HB; have BK374 := n0_; have HB := n1_; have BK375 := n2_; have GW375 := n3_; have GE375 := n4_; have NB374_375 := n5_; have NB375_374 := n6_; clear n0_ n1_ n2_ n3_ n4_ n5_ n6_; clear hb hbox hg) | ((with_reducible refine gate_dst (N := 3) rfl ?_); refine box_event ?hg (N := 3) ?hd (cs := #[.int .i64 0, .int .i64 0]) (t := 23) ?hr ?_; (case hd => rfl); (case hg => rfl); (case hr => first | (go_simp; done) | (go_simp; rfl)); intro gb376 hg w32 hbox hb; have n0_ := u1 BK374 hb; have n1_ := u1 BK375 hb; have n2_ := Aside0.mk (below_step (by repeat (first | (with_reducible first | exact HB.out | apply below_alloc | apply pw_below_drewN | apply below_drew1 | refine below_set ?_ GE374.out | refine below_set ?_ GE375.out) | exact HB.out)) hb); have n3_ := Aside0.mk hbox; have n4_ := Aside0.mk ((by rw [hg]; exact (below_size (by repeat (first | (with_reducible first | exact HB.out | apply below_alloc | apply pw_below_drewN | apply below_drew1 | refine below_set ?_ GE374.out | refine below_set ?_ GE375.out) | exact HB.out))) : w.heap.size ≤ gb376)); have n5_ := Aside0.mk ((by rw [hg]; exact (below_size (by repeat (first | (with_reducible first | exact HB.out | apply below_alloc | apply pw_below_drewN | apply below_drew1 | refine below_set ?_ GE374.out | refine below_set ?_ GE375.out) | exact HB.out))) : w.heap.size ≤ gb376)); have n6_ := u4 hg BK374; have n7_ := u5 hg BK374; have n8_ := u4 hg BK375; have n9_ := u5 hg BK375; clear BK374; clear BK375; clear HB; have BK374 := n0_; have BK375 := n1_; have HB := n2_; have BK376 := n3_; have GW376 := n4_; have GE376 := n5_; have NB374_376 := n6_; have NB376_374 := n7_; have NB375_376 := n8_; have NB376_375 := n9_; clear n0_ n1_ n2_ n3_ n4_ n5_ n6_ n7_ n8_ n9_; clear hb hbox hg) | ((with_reducible refine gate_dst (N := 4) rfl ?_); refine box_event ?hg (N := 4) ?hd (cs := #[.int .i64 0, .int .i64 0]) (t := 23) ?hr ?_; (case hd => rfl); (case hg => rfl); (case hr => first | (go_simp; done) | (go_simp; rfl)); intro gb377 hg w33 hbox hb; have n0_ := u1 BK374 hb; have n1_ := u1 BK375 hb; have n2_ := u1 BK376 hb; have n3_ := Aside0.mk (below_step (by repeat (first | (with_reducible first | exact HB.out | apply below_alloc | apply pw_below_drewN | apply below_drew1 | refine below_set ?_ GE374.out | refine below_set ?_ GE375.out | refine below_set ?_ GE376.out) | exact HB.out)) hb); have n4_ := Aside0.mk hbox; have n5_ := Aside0.mk ((by rw [hg]; exact (below_size (by repeat (first | (with_reducible first | exact HB.out | apply below_alloc | apply pw_below_drewN | apply below_drew1 | refine below_set ?_ GE374.out | refine below_set ?_ GE375.out | refine below_set ?_ GE376.out) | exact HB.out))) : w.heap.size ≤ gb377)); have n6_ := Aside0.mk ((by rw [hg]; exact (below_size (by repeat (first | (with_reducible first | exact HB.out | apply below_alloc | apply pw_below_drewN | apply below_drew1 | refine below_set ?_ GE374.out | refine below_set ?_ GE375.out | refine below_set ?_ GE376.out) | exact HB.out))) : w.heap.size ≤ gb377)); have n7_ := u4 hg BK374; have n8_ := u5 hg BK374; have n9_ := u4 hg BK375; have n10_ := u5 hg BK375; have n11_ := u4 hg BK376; have n12_ := u5 hg BK376; clear BK374; clear BK375; clear BK376; clear HB; have BK374 := n0_; have BK375 := n1_; have BK376 := n2_; have HB := n3_; have BK377 := n4_; have GW377 := n5_; have GE377 := n6_; have NB374_377 := n7_; have NB377_374 := n8_; have NB375_377 := n9_; have NB377_375 := n10_; have NB376_377 := n11_; have NB377_376 := n12_; clear n0_ n1_ n2_ n3_ n4_ n5_ n6_ n7_ n8_ n9_ n10_ n11_ n12_; clear hb hbox hg; have hnb34 := NB374_375.out; have hnc34 := NB375_374.out; have hnb35 := NB374_376.out; have hnc35 := NB376_374.out; have hnb36 := NB374_377.out; have hnc36 := NB377_374.out; obtain ⟨_, _, _, _⟩ := p2 BK374; have hnb38 := NB375_376.out; have hnc38 := NB376_375.out; have hnb39 := NB375_377.out; have hnc39 := NB377_375.out; obtain ⟨_, _, _, _⟩ := p2 BK375; have hnb41 := NB376_377.out; have hnc41 := NB377_376.out; obtain ⟨_, _, _, _⟩ := p2 BK376; obtain ⟨_, _, _, _⟩ := p2 BK377) | ((with_reducible refine gate_callee (f := 8) rfl ?_); refine goesL_ (some 13) rfl rfl Try.func8 (by kernel_rfl) rfl #[.agg #[.int .i64 0, .int .i64 0], .agg #[.int .i64 1, .int .i64 0], .agg #[.int .i64 1, .int .i64 1], .agg #[.int .i64 0, .int .i64 1]] rfl (by (try simp only [List.map_toArray, List.map_cons, List.map_nil]); first | done | rfl | (simp only [List.length_drop, List.length_take]; rfl)) ?_; (with_reducible refine (pred_InCircle.calls k 0 0 1 0 1 1 0 1 t378 _ A1.out).mono ?_); rintro e w44 ⟨rfl, hb⟩; refine ⟨_, rfl, ?_⟩; have n0_ := Aside0.mk (blk_below (g := gb374) (o := .cells #[.int .i64 0, .int .i64 0] 23 (0, 0)) (by (with_reducible repeat (first | refine blk_drewN ?_ _ | refine blk_drew ?_ | refine blk_alloc ?_ _)); refine blk_far ?_ NB374_377.out _; (with_reducible repeat (first | refine blk_drewN ?_ _ | refine blk_drew ?_ | refine blk_alloc ?_ _)); refine blk_far ?_ NB374_377.out _; (with_reducible repeat (first | refine blk_drewN ?_ _ | refine blk_drew ?_ | refine blk_alloc ?_ _)); refine blk_far ?_ NB374_376.out _; (with_reducible repeat (first | refine blk_drewN ?_ _ | refine blk_drew ?_ | refine blk_alloc ?_ _)); refine blk_far ?_ NB374_376.out _; (with_reducible repeat (first | refine blk_drewN ?_ _ | refine blk_drew ?_ | refine blk_alloc ?_ _)); refine blk_far ?_ NB374_375.out _; (with_reducible repeat (first | refine blk_drewN ?_ _ | refine blk_drew ?_ | refine blk_alloc ?_ _)); refine blk_far ?_ NB374_375.out _; (with_reducible repeat (first | refine blk_drewN ?_ _ | refine blk_drew ?_ | refine blk_alloc ?_ _)); refine blk_put (cs := #[.int .i64 0, .int .i64 0]) ?_ 1 _ rfl; (with_reducible repeat (first | refine blk_drewN ?_ _ | refine blk_drew ?_ | refine blk_alloc ?_ _)); refine blk_put (cs := #[.int .i64 0, .int .i64 0]) ?_ 0 _ rfl; (with_reducible repeat (first | refine blk_drewN ?_ _ | refine blk_drew ?_ | refine blk_alloc ?_ _)); exact BK374.out) hb); have n1_ := Aside0.mk (blk_below (g := gb375) (o := .cells #[.int .i64 1, .int .i64 0] 23 (0, 0)) (by (with_reducible repeat (first | refine blk_drewN ?_ _ | refine blk_drew ?_ | refine blk_alloc ?_ _)); refine blk_far ?_ NB375_377.out _; (with_reducible repeat (first | refine blk_drewN ?_ _ | refine blk_drew ?_ | refine blk_alloc ?_ _)); refine blk_far ?_ NB375_377.out _; (with_reducible repeat (first | refine blk_drewN ?_ _ | refine blk_drew ?_ | refine blk_alloc ?_ _)); refine blk_far ?_ NB375_376.out _; (with_reducible repeat (first | refine blk_drewN ?_ _ | refine blk_drew ?_ | refine blk_alloc ?_ _)); refine blk_far ?_ NB375_376.out _; (with_reducible repeat (first | refine blk_drewN ?_ _ | refine blk_drew ?_ | refine blk_alloc ?_ _)); refine blk_put (cs := #[.int .i64 1, .int .i64 0]) ?_ 1 _ rfl; (with_reducible repeat (first | refine blk_drewN ?_ _ | refine blk_drew ?_ | refine blk_alloc ?_ _)); refine blk_put (cs := #[.int .i64 0, .int .i64 0]) ?_ 0 _ rfl; (with_reducible repeat (first | refine blk_drewN ?_ _ | refine blk_drew ?_ | refine blk_alloc ?_ _)); refine blk_far ?_ NB375_374.out _; (with_reducible repeat (first | refine blk_drewN ?_ _ | refine blk_drew ?_ | refine blk_alloc ?_ _)); refine blk_far ?_ NB375_374.out _; (with_reducible repeat (first | refine blk_drewN ?_ _ | refine blk_drew ?_ | refine blk_alloc ?_ _)); exact BK375.out) hb); have n2_ := Aside0.mk (blk_below (g := gb376) (o := .cells #[.int .i64 1, .int .i64 1] 23 (0, 0)) (by (with_reducible repeat (first | refine blk_drewN ?_ _ | refine blk_drew ?_ | refine blk_alloc ?_ _)); refine blk_far ?_ NB376_377.out _; (with_reducible repeat (first | refine blk_drewN ?_ _ | refine blk_drew ?_ | refine blk_alloc ?_ _)); refine blk_far ?_ NB376_377.out _; (with_reducible repeat (first | refine blk_drewN ?_ _ | refine blk_drew ?_ | refine blk_alloc ?_ _)); refine blk_put (cs := #[.int .i64 1, .int .i64 0]) ?_ 1 _ rfl; (with_reducible repeat (first | refine blk_drewN ?_ _ | refine blk_drew ?_ | refine blk_alloc ?_ _)); refine blk_put (cs := #[.int .i64 0, .int .i64 0]) ?_ 0 _ rfl; (with_reducible repeat (first | refine blk_drewN ?_ _ | refine blk_drew ?_ | refine blk_alloc ?_ _)); refine blk_far ?_ NB376_375.out _; (with_reducible repeat (first | refine blk_drewN ?_ _ | refine blk_drew ?_ | refine blk_alloc ?_ _)); refine blk_far ?_ NB376_375.out _; (with_reducible repeat (first | refine blk_drewN ?_ _ | refine blk_drew ?_ | refine blk_alloc ?_ _)); refine blk_far ?_ NB376_374.out _; (with_reducible repeat (first | refine blk_drewN ?_ _ | refine blk_drew ?_ | refine blk_alloc ?_ _)); refine blk_far ?_ NB376_374.out _; (with_reducible repeat (first | refine blk_drewN ?_ _ | refine blk_drew ?_ | refine blk_alloc ?_ _)); exact BK376.out) hb); have n3_ := Aside0.mk (blk_below (g := gb377) (o := .cells #[.int .i64 0, .int .i64 1] 23 (0, 0)) (by (with_reducible repeat (first | refine blk_drewN ?_ _ | refine blk_drew ?_ | refine blk_alloc ?_ _)); refine blk_put (cs := #[.int .i64 0, .int .i64 0]) ?_ 1 _ rfl; (with_reducible repeat (first | refine blk_drewN ?_ _ | refine blk_drew ?_ | refine blk_alloc ?_ _)); refine blk_put (cs := #[.int .i64 0, .int .i64 0]) ?_ 0 _ rfl; (with_reducible repeat (first | refine blk_drewN ?_ _ | refine blk_drew ?_ | refine blk_alloc ?_ _)); refine blk_far ?_ NB377_376.out _; (with_reducible repeat (first | refine blk_drewN ?_ _ | refine blk_drew ?_ | refine blk_alloc ?_ _)); refine blk_far ?_ NB377_376.out _; (with_reducible repeat (first | refine blk_drewN ?_ _ | refine blk_drew ?_ | refine blk_alloc ?_ _)); refine blk_far ?_ NB377_375.out _; (with_reducible repeat (first | refine blk_drewN ?_ _ | refine blk_drew ?_ | refine blk_alloc ?_ _)); refine blk_far ?_ NB377_375.out _; (with_reducible repeat (first | refine blk_drewN ?_ _ | refine blk_drew ?_ | refine blk_alloc ?_ _)); refine blk_far ?_ NB377_374.out _; (with_reducible repeat (first | refine blk_drewN ?_ _ | refine blk_drew ?_ | refine blk_alloc ?_ _)); refine blk_far ?_ NB377_374.out _; (with_reducible repeat (first | refine blk_drewN ?_ _ | refine blk_drew ?_ | refine blk_alloc ?_ _)); exact BK377.out) hb); have n4_ := Aside0.mk (below_step (by repeat (first | (with_reducible first | exact HB.out | apply below_alloc | apply pw_below_drewN | apply below_drew1 | refine below_set ?_ GE374.out | refine below_set ?_ GE375.out | refine below_set ?_ GE376.out | refine below_set ?_ GE377.out) | exact HB.out)) hb); clear BK374; clear BK375; clear BK376; clear BK377; clear HB; have BK374 := n0_; have BK375 := n1_; have BK376 := n2_; have BK377 := n3_; have HB := n4_; clear n0_ n1_ n2_ n3_ n4_; clear hb; obtain ⟨_, _, _, _⟩ := p2 BK374; obtain ⟨_, _, _, _⟩ := p2 BK375; obtain ⟨_, _, _, _⟩ := p2 BK376) | (go_at_call 14; (with_reducible refine (pred_Orient.calls k 0 0 1 0 1 1 t379 _ A3.out).mono ?_); rintro e w48 ⟨rfl, hb⟩; have n0_ := u1 BK374 hb; have n1_ := u1 BK375 hb; have n2_ := u1 BK376 hb; have n3_ := u1 BK377 hb; have n4_ := Aside0.mk (below_step (by repeat (first | (with_reducible first | exact HB.out | apply below_alloc | apply pw_below_drewN | apply below_drew1 | refine below_set ?_ GE374.out | refine below_set ?_ GE375.out | refine below_set ?_ GE376.out | refine below_set ?_ GE377.out) | exact HB.out)) hb); clear BK374; clear BK375; clear BK376; clear BK377; clear HB; have BK374 := n0_; have BK375 := n1_; have BK376 := n2_; have BK377 := n3_; have HB := n4_; clear n0_ n1_ n2_ n3_ n4_; clear hb))
   go_ret
   exact ⟨by first | rfl | (simp [*, errW_none, errW_some] <;> rfl), bw HB.out⟩
 ·rw [if_neg c2] at H
  have c2b0 : (t378 == 0) = false := beq_eq_false_iff_ne.mpr c2
  have c2b1 : (t378 != 0) = true := bne_iff_ne.mpr c2
  obtain rfl := Option.some.inj H
  go_enter Try.func10, Try.ntmps10
  go_wp2_with (first | ((with_reducible refine gate_dst (N := 1) rfl ?_); refine box_event ?hg (N := 1) ?hd (cs := #[.int .i64 0, .int .i64 0]) (t := 23) ?hr ?_; (case hd => rfl); (case hg => rfl); (case hr => first | (go_simp; done) | (go_simp; rfl)); intro gb374 hg w49 hbox hb; have n0_ := Aside0.mk (below_step (by repeat (first | (with_reducible first | exact HB.out | apply below_alloc | apply pw_below_drewN | apply below_drew1) | exact HB.out)) hb); have n1_ := Aside0.mk hbox; have n2_ := Aside0.mk ((by rw [hg]; exact (below_size (by repeat (first | (with_reducible first | exact HB.out | apply below_alloc | apply pw_below_drewN | apply below_drew1) | exact HB.out))) : w.heap.size ≤ gb374)); have n3_ := Aside0.mk ((by rw [hg]; exact (below_size (by repeat (first | (with_reducible first | exact HB.out | apply below_alloc | apply pw_below_drewN | apply below_drew1) | exact HB.out))) : w.heap.size ≤ gb374)); clear HB; have HB := n0_; have BK374 := n1_; have GW374 := n2_; have GE374 := n3_; clear n0_ n1_ n2_ n3_; clear hb hbox hg) | ((with_reducible refine gate_dst (N := 2) rfl ?_); refine box_event ?hg (N := 2) ?hd (cs := #[.int .i64 0, .int .i64 0]) (t := 23) ?hr ?_; (case hd => rfl); (case hg => rfl); (case hr => first | (go_simp; done) | (go_simp; rfl)); intro gb375 hg w50 hbox hb; have n0_ := u1 BK374 hb; have n1_ := Aside0.mk (below_step (by repeat (first | (with_reducible first | exact HB.out | apply below_alloc | apply pw_below_drewN | apply below_drew1 | refine below_set ?_ GE374.out) | exact HB.out)) hb); have n2_ := Aside0.mk hbox; have n3_ := Aside0.mk ((by rw [hg]; exact (below_size (by repeat (first | (with_reducible first | exact HB.out | apply below_alloc | apply pw_below_drewN | apply below_drew1 | refine below_set ?_ GE374.out) | exact HB.out))) : w.heap.size ≤ gb375)); have n4_ := Aside0.mk ((by rw [hg]; exact (below_size (by repeat (first | (with_reducible first | exact HB.out | apply below_alloc | apply pw_below_drewN | apply below_drew1 | refine below_set ?_ GE374.out) | exact HB.out))) : w.heap.size ≤ gb375)); have n5_ := u4 hg BK374; have n6_ := u5 hg BK374; clear BK374; clear HB; have BK374 := n0_; have HB := n1_; have BK375 := n2_; have GW375 := n3_; have GE375 := n4_; have NB374_375 := n5_; have NB375_374 := n6_; clear n0_ n1_ n2_ n3_ n4_ n5_ n6_; clear hb hbox hg) | ((with_reducible refine gate_dst (N := 3) rfl ?_); refine box_event ?hg (N := 3) ?hd (cs := #[.int .i64 0, .int .i64 0]) (t := 23) ?hr ?_; (case hd => rfl); (case hg => rfl); (case hr => first | (go_simp; done) | (go_simp; rfl)); intro gb376 hg w51 hbox hb; have n0_ := u1 BK374 hb; have n1_ := u1 BK375 hb; have n2_ := Aside0.mk (below_step (by repeat (first | (with_reducible first | exact HB.out | apply below_alloc | apply pw_below_drewN | apply below_drew1 | refine below_set ?_ GE374.out | refine below_set ?_ GE375.out) | exact HB.out)) hb); have n3_ := Aside0.mk hbox; have n4_ := Aside0.mk ((by rw [hg]; exact (below_size (by repeat (first | (with_reducible first | exact HB.out | apply below_alloc | apply pw_below_drewN | apply below_drew1 | refine below_set ?_ GE374.out | refine below_set ?_ GE375.out) | exact HB.out))) : w.heap.size ≤ gb376)); have n5_ := Aside0.mk ((by rw [hg]; exact (below_size (by repeat (first | (with_reducible first | exact HB.out | apply below_alloc | apply pw_below_drewN | apply below_drew1 | refine below_set ?_ GE374.out | refine below_set ?_ GE375.out) | exact HB.out))) : w.heap.size ≤ gb376)); have n6_ := u4 hg BK374; have n7_ := u5 hg BK374; have n8_ := u4 hg BK375; have n9_ := u5 hg BK375; clear BK374; clear BK375; clear HB; have BK374 := n0_; have BK375 := n1_; have HB := n2_; have BK376 := n3_; have GW376 := n4_; have GE376 := n5_; have NB374_376 := n6_; have NB376_374 := n7_; have NB375_376 := n8_; have NB376_375 := n9_; clear n0_ n1_ n2_ n3_ n4_ n5_ n6_ n7_ n8_ n9_; clear hb hbox hg) | ((with_reducible refine gate_dst (N := 4) rfl ?_); refine box_event ?hg (N := 4) ?hd (cs := #[.int .i64 0, .int .i64 0]) (t := 23) ?hr ?_; (case hd => rfl); (case hg => rfl); (case hr => first | (go_simp; done) | (go_simp; rfl)); intro gb377 hg w52 hbox hb; have n0_ := u1 BK374 hb; have n1_ := u1 BK375 hb; have n2_ := u1 BK376 hb; have n3_ := Aside0.mk (below_step (by repeat (first | (with_reducible first | exact HB.out | apply below_alloc | apply pw_below_drewN | apply below_drew1 | refine below_set ?_ GE374.out | refine below_set ?_ GE375.out | refine below_set ?_ GE376.out) | exact HB.out)) hb); have n4_ := Aside0.mk hbox; have n5_ := Aside0.mk ((by rw [hg]; exact (below_size (by repeat (first | (with_reducible first | exact HB.out | apply below_alloc | apply pw_below_drewN | apply below_drew1 | refine below_set ?_ GE374.out | refine below_set ?_ GE375.out | refine below_set ?_ GE376.out) | exact HB.out))) : w.heap.size ≤ gb377)); have n6_ := Aside0.mk ((by rw [hg]; exact (below_size (by repeat (first | (with_reducible first | exact HB.out | apply below_alloc | apply pw_below_drewN | apply below_drew1 | refine below_set ?_ GE374.out | refine below_set ?_ GE375.out | refine below_set ?_ GE376.out) | exact HB.out))) : w.heap.size ≤ gb377)); have n7_ := u4 hg BK374; have n8_ := u5 hg BK374; have n9_ := u4 hg BK375; have n10_ := u5 hg BK375; have n11_ := u4 hg BK376; have n12_ := u5 hg BK376; clear BK374; clear BK375; clear BK376; clear HB; have BK374 := n0_; have BK375 := n1_; have BK376 := n2_; have HB := n3_; have BK377 := n4_; have GW377 := n5_; have GE377 := n6_; have NB374_377 := n7_; have NB377_374 := n8_; have NB375_377 := n9_; have NB377_375 := n10_; have NB376_377 := n11_; have NB377_376 := n12_; clear n0_ n1_ n2_ n3_ n4_ n5_ n6_ n7_ n8_ n9_ n10_ n11_ n12_; clear hb hbox hg; have hnb53 := NB374_375.out; have hnc53 := NB375_374.out; have hnb54 := NB374_376.out; have hnc54 := NB376_374.out; have hnb55 := NB374_377.out; have hnc55 := NB377_374.out; obtain ⟨_, _, _, _⟩ := p2 BK374; have hnb57 := NB375_376.out; have hnc57 := NB376_375.out; have hnb58 := NB375_377.out; have hnc58 := NB377_375.out; obtain ⟨_, _, _, _⟩ := p2 BK375; have hnb60 := NB376_377.out; have hnc60 := NB377_376.out; obtain ⟨_, _, _, _⟩ := p2 BK376; obtain ⟨_, _, _, _⟩ := p2 BK377) | ((with_reducible refine gate_callee (f := 8) rfl ?_); refine goesL_ (some 13) rfl rfl Try.func8 (by kernel_rfl) rfl #[.agg #[.int .i64 0, .int .i64 0], .agg #[.int .i64 1, .int .i64 0], .agg #[.int .i64 1, .int .i64 1], .agg #[.int .i64 0, .int .i64 1]] rfl (by (try simp only [List.map_toArray, List.map_cons, List.map_nil]); first | done | rfl | (simp only [List.length_drop, List.length_take]; rfl)) ?_; (with_reducible refine (pred_InCircle.calls k 0 0 1 0 1 1 0 1 t378 _ A1.out).mono ?_); rintro e w63 ⟨rfl, hb⟩; refine ⟨_, rfl, ?_⟩; have n0_ := Aside0.mk (blk_below (g := gb374) (o := .cells #[.int .i64 0, .int .i64 0] 23 (0, 0)) (by (with_reducible repeat (first | refine blk_drewN ?_ _ | refine blk_drew ?_ | refine blk_alloc ?_ _)); refine blk_far ?_ NB374_377.out _; (with_reducible repeat (first | refine blk_drewN ?_ _ | refine blk_drew ?_ | refine blk_alloc ?_ _)); refine blk_far ?_ NB374_377.out _; (with_reducible repeat (first | refine blk_drewN ?_ _ | refine blk_drew ?_ | refine blk_alloc ?_ _)); refine blk_far ?_ NB374_376.out _; (with_reducible repeat (first | refine blk_drewN ?_ _ | refine blk_drew ?_ | refine blk_alloc ?_ _)); refine blk_far ?_ NB374_376.out _; (with_reducible repeat (first | refine blk_drewN ?_ _ | refine blk_drew ?_ | refine blk_alloc ?_ _)); refine blk_far ?_ NB374_375.out _; (with_reducible repeat (first | refine blk_drewN ?_ _ | refine blk_drew ?_ | refine blk_alloc ?_ _)); refine blk_far ?_ NB374_375.out _; (with_reducible repeat (first | refine blk_drewN ?_ _ | refine blk_drew ?_ | refine blk_alloc ?_ _)); refine blk_put (cs := #[.int .i64 0, .int .i64 0]) ?_ 1 _ rfl; (with_reducible repeat (first | refine blk_drewN ?_ _ | refine blk_drew ?_ | refine blk_alloc ?_ _)); refine blk_put (cs := #[.int .i64 0, .int .i64 0]) ?_ 0 _ rfl; (with_reducible repeat (first | refine blk_drewN ?_ _ | refine blk_drew ?_ | refine blk_alloc ?_ _)); exact BK374.out) hb); have n1_ := Aside0.mk (blk_below (g := gb375) (o := .cells #[.int .i64 1, .int .i64 0] 23 (0, 0)) (by (with_reducible repeat (first | refine blk_drewN ?_ _ | refine blk_drew ?_ | refine blk_alloc ?_ _)); refine blk_far ?_ NB375_377.out _; (with_reducible repeat (first | refine blk_drewN ?_ _ | refine blk_drew ?_ | refine blk_alloc ?_ _)); refine blk_far ?_ NB375_377.out _; (with_reducible repeat (first | refine blk_drewN ?_ _ | refine blk_drew ?_ | refine blk_alloc ?_ _)); refine blk_far ?_ NB375_376.out _; (with_reducible repeat (first | refine blk_drewN ?_ _ | refine blk_drew ?_ | refine blk_alloc ?_ _)); refine blk_far ?_ NB375_376.out _; (with_reducible repeat (first | refine blk_drewN ?_ _ | refine blk_drew ?_ | refine blk_alloc ?_ _)); refine blk_put (cs := #[.int .i64 1, .int .i64 0]) ?_ 1 _ rfl; (with_reducible repeat (first | refine blk_drewN ?_ _ | refine blk_drew ?_ | refine blk_alloc ?_ _)); refine blk_put (cs := #[.int .i64 0, .int .i64 0]) ?_ 0 _ rfl; (with_reducible repeat (first | refine blk_drewN ?_ _ | refine blk_drew ?_ | refine blk_alloc ?_ _)); refine blk_far ?_ NB375_374.out _; (with_reducible repeat (first | refine blk_drewN ?_ _ | refine blk_drew ?_ | refine blk_alloc ?_ _)); refine blk_far ?_ NB375_374.out _; (with_reducible repeat (first | refine blk_drewN ?_ _ | refine blk_drew ?_ | refine blk_alloc ?_ _)); exact BK375.out) hb); have n2_ := Aside0.mk (blk_below (g := gb376) (o := .cells #[.int .i64 1, .int .i64 1] 23 (0, 0)) (by (with_reducible repeat (first | refine blk_drewN ?_ _ | refine blk_drew ?_ | refine blk_alloc ?_ _)); refine blk_far ?_ NB376_377.out _; (with_reducible repeat (first | refine blk_drewN ?_ _ | refine blk_drew ?_ | refine blk_alloc ?_ _)); refine blk_far ?_ NB376_377.out _; (with_reducible repeat (first | refine blk_drewN ?_ _ | refine blk_drew ?_ | refine blk_alloc ?_ _)); refine blk_put (cs := #[.int .i64 1, .int .i64 0]) ?_ 1 _ rfl; (with_reducible repeat (first | refine blk_drewN ?_ _ | refine blk_drew ?_ | refine blk_alloc ?_ _)); refine blk_put (cs := #[.int .i64 0, .int .i64 0]) ?_ 0 _ rfl; (with_reducible repeat (first | refine blk_drewN ?_ _ | refine blk_drew ?_ | refine blk_alloc ?_ _)); refine blk_far ?_ NB376_375.out _; (with_reducible repeat (first | refine blk_drewN ?_ _ | refine blk_drew ?_ | refine blk_alloc ?_ _)); refine blk_far ?_ NB376_375.out _; (with_reducible repeat (first | refine blk_drewN ?_ _ | refine blk_drew ?_ | refine blk_alloc ?_ _)); refine blk_far ?_ NB376_374.out _; (with_reducible repeat (first | refine blk_drewN ?_ _ | refine blk_drew ?_ | refine blk_alloc ?_ _)); refine blk_far ?_ NB376_374.out _; (with_reducible repeat (first | refine blk_drewN ?_ _ | refine blk_drew ?_ | refine blk_alloc ?_ _)); exact BK376.out) hb); have n3_ := Aside0.mk (blk_below (g := gb377) (o := .cells #[.int .i64 0, .int .i64 1] 23 (0, 0)) (by (with_reducible repeat (first | refine blk_drewN ?_ _ | refine blk_drew ?_ | refine blk_alloc ?_ _)); refine blk_put (cs := #[.int .i64 0, .int .i64 0]) ?_ 1 _ rfl; (with_reducible repeat (first | refine blk_drewN ?_ _ | refine blk_drew ?_ | refine blk_alloc ?_ _)); refine blk_put (cs := #[.int .i64 0, .int .i64 0]) ?_ 0 _ rfl; (with_reducible repeat (first | refine blk_drewN ?_ _ | refine blk_drew ?_ | refine blk_alloc ?_ _)); refine blk_far ?_ NB377_376.out _; (with_reducible repeat (first | refine blk_drewN ?_ _ | refine blk_drew ?_ | refine blk_alloc ?_ _)); refine blk_far ?_ NB377_376.out _; (with_reducible repeat (first | refine blk_drewN ?_ _ | refine blk_drew ?_ | refine blk_alloc ?_ _)); refine blk_far ?_ NB377_375.out _; (with_reducible repeat (first | refine blk_drewN ?_ _ | refine blk_drew ?_ | refine blk_alloc ?_ _)); refine blk_far ?_ NB377_375.out _; (with_reducible repeat (first | refine blk_drewN ?_ _ | refine blk_drew ?_ | refine blk_alloc ?_ _)); refine blk_far ?_ NB377_374.out _; (with_reducible repeat (first | refine blk_drewN ?_ _ | refine blk_drew ?_ | refine blk_alloc ?_ _)); refine blk_far ?_ NB377_374.out _; (with_reducible repeat (first | refine blk_drewN ?_ _ | refine blk_drew ?_ | refine blk_alloc ?_ _)); exact BK377.out) hb); have n4_ := Aside0.mk (below_step (by repeat (first | (with_reducible first | exact HB.out | apply below_alloc | apply pw_below_drewN | apply below_drew1 | refine below_set ?_ GE374.out | refine below_set ?_ GE375.out | refine below_set ?_ GE376.out | refine below_set ?_ GE377.out) | exact HB.out)) hb); clear BK374; clear BK375; clear BK376; clear BK377; clear HB; have BK374 := n0_; have BK375 := n1_; have BK376 := n2_; have BK377 := n3_; have HB := n4_; clear n0_ n1_ n2_ n3_ n4_; clear hb))
  go_ret
  exact ⟨by first | rfl | (simp [*, errW_none, errW_some] <;> rfl), bw HB.out⟩
end Go.Proofs.Ytmeckkckjikjiaa.F
end
section
namespace Go.Proofs.Ytmeckkckjikjiaa.Pd
open Go Go.RowKit Go.Proofs.YtmeckkckjikjiaaW.PrintWords Go.Proofs.Ytmeckkckjikjiaa.F Go.Proofs.Ytmeckkckjikjiaa.Wd Go.Proofs.Ytmeckkckjikjiaa.Pm
set_option linter.unusedVariables false
theorem q256 (n : Int) : qv (q0 n) (q1 n) (q2 n) (q3 n) = n % 115792089237316195423570985008687907853269984665640564039457584007913129639936 := by unfold qv q0 q1 q2 q3; omega
theorem qcong {n m : Int} (h : n % 115792089237316195423570985008687907853269984665640564039457584007913129639936 = m % 115792089237316195423570985008687907853269984665640564039457584007913129639936) : qq4 n = qq4 m := by
 have e : n = m + 115792089237316195423570985008687907853269984665640564039457584007913129639936 * (n / 115792089237316195423570985008687907853269984665640564039457584007913129639936 - m / 115792089237316195423570985008687907853269984665640564039457584007913129639936) := by omega
 generalize n / 115792089237316195423570985008687907853269984665640564039457584007913129639936 - m / 115792089237316195423570985008687907853269984665640564039457584007913129639936 = t at e
 subst e
 clear h
 unfold qq4 q0 q1 q2 q3
 have d1 : (m + 115792089237316195423570985008687907853269984665640564039457584007913129639936 * t) / 18446744073709551616 = m / 18446744073709551616 + 6277101735386680763835789423207666416102355444464034512896 * t := by omega
 have d2 : (m / 18446744073709551616 + 6277101735386680763835789423207666416102355444464034512896 * t) / 18446744073709551616 = m / 18446744073709551616 / 18446744073709551616 + 340282366920938463463374607431768211456 * t := by omega
 have d3 : (m / 18446744073709551616 / 18446744073709551616 + 340282366920938463463374607431768211456 * t) / 18446744073709551616 = m / 18446744073709551616 / 18446744073709551616 / 18446744073709551616 + 18446744073709551616 * t := by omega
 rw [d1, d2, d3]
 have c0 : (m + 115792089237316195423570985008687907853269984665640564039457584007913129639936 * t) % 18446744073709551616 = m % 18446744073709551616 := by omega
 have c1 : (m / 18446744073709551616 + 6277101735386680763835789423207666416102355444464034512896 * t) % 18446744073709551616 = m / 18446744073709551616 % 18446744073709551616 := by omega
 have c2 : (m / 18446744073709551616 / 18446744073709551616 + 340282366920938463463374607431768211456 * t) % 18446744073709551616 = m / 18446744073709551616 / 18446744073709551616 % 18446744073709551616 := by omega
 have c3 : (m / 18446744073709551616 / 18446744073709551616 / 18446744073709551616 + 18446744073709551616 * t) % 18446744073709551616 = m / 18446744073709551616 / 18446744073709551616 / 18446744073709551616 % 18446744073709551616 := by omega
 rw [c0, c1, c2, c3]
theorem qmul_w {n m : Int} {B C : Nat} (h : Am n B) (h' : Am m C) (hB : B ≤ 170141183460469231731687303715884105727) (hC : C ≤ 170141183460469231731687303715884105727) : quad_Mul.f (whi n) (wlo n) (whi m) (wlo m) = some (qq4 (n * m)) := by
 unfold quad_Mul.f
 rw [if_pos ⟨wok_of _, wok_of _⟩, am_w h hB, am_w h' hC]
theorem qadd_w (n m : Int) : quad_Add.f (q0 n) (q1 n) (q2 n) (q3 n) (q0 m) (q1 m) (q2 m) (q3 m) = some (qq4 (n + m)) := by
 unfold quad_Add.f
 rw [if_pos ⟨q_ok _, q_ok _⟩, qcong (m := n + m) (by rw [q256, q256]; omega)]
theorem qsign_w {n : Int} {B : Nat} (h : Am n B) (hB : B < 57896044618658097711785492504343953926634992332820282019728792003956564819968) : quad_Sign.f (q0 n) (q1 n) (q2 n) (q3 n) = some n.sign := by
 unfold quad_Sign.f
 rw [if_pos (q_ok n)]
 have b := h.le
 have e := q256 n
 obtain ⟨⟨a0, a1⟩, ⟨b0, b1⟩, ⟨c0, c1⟩, ⟨d0, d1⟩⟩ := q_ok n
 generalize q0 n = x0 at *; generalize q1 n = x1 at *; generalize q2 n = x2 at *; generalize q3 n = x3 at *
 unfold qv at e
 congr 1
 by_cases k : 9223372036854775808 ≤ x3
 ·rw [if_pos k, Int.sign_eq_neg_one_of_neg (by omega)]
 ·rw [if_neg k]
  by_cases z : x0 = 0 ∧ x1 = 0 ∧ x2 = 0 ∧ x3 = 0
  ·rw [if_pos z, show n = 0 by omega]; rfl
  ·rw [if_neg z, Int.sign_eq_one_of_pos (by omega)]
def icS (a0 a1 b0 b1 c0 c1 d0 d1 : Int) : Int := if CoP a0 a1 ∧ CoP b0 b1 ∧ CoP c0 c1 ∧ CoP d0 d1 then (dt a0 a1 b0 b1 c0 c1 d0 d1).sign else 0
theorem InCircle_f (a0 a1 b0 b1 c0 c1 d0 d1 : Int) {k : Nat} (hk : 2000 ≤ k) : pred_InCircle.f k a0 a1 b0 b1 c0 c1 d0 d1 = some (icS a0 a1 b0 b1 c0 c1 d0 d1) := by
 unfold pred_InCircle.f icS
 rw [can4 _ _ _ _ _ _ _ _ hk, Option.bind_some]
 by_cases h : CoP a0 a1 ∧ CoP b0 b1 ∧ CoP c0 c1 ∧ CoP d0 d1
 ·obtain ⟨ha, hb, hc, hd⟩ := h
  have u0 := ha.1.way hd.1; have u1 := ha.2.way hd.2
  have v0 := hb.1.way hd.1; have v1 := hb.2.way hd.2
  have t0 := hc.1.way hd.1; have t1 := hc.2.way hd.2
  have m1 := qmul_w (square_am u0 u1) (cross_am v0 v1 t0 t1) (by omega) (by omega)
  have m2 := qmul_w (square_am v0 v1) (cross_am t0 t1 u0 u1) (by omega) (by omega)
  have m3 := qmul_w (square_am t0 t1) (cross_am u0 u1 v0 v1) (by omega) (by omega)
  unfold qq4 at m1 m2 m3
  have A1 := qadd_w (((a0 - d0) * (a0 - d0) + (a1 - d1) * (a1 - d1)) * ((b0 - d0) * (c1 - d1) - (b1 - d1) * (c0 - d0))) (((b0 - d0) * (b0 - d0) + (b1 - d1) * (b1 - d1)) * ((c0 - d0) * (a1 - d1) - (c1 - d1) * (a0 - d0)))
  have A2 := qadd_w (((a0 - d0) * (a0 - d0) + (a1 - d1) * (a1 - d1)) * ((b0 - d0) * (c1 - d1) - (b1 - d1) * (c0 - d0)) + ((b0 - d0) * (b0 - d0) + (b1 - d1) * (b1 - d1)) * ((c0 - d0) * (a1 - d1) - (c1 - d1) * (a0 - d0))) (((c0 - d0) * (c0 - d0) + (c1 - d1) * (c1 - d1)) * ((a0 - d0) * (b1 - d1) - (a1 - d1) * (b0 - d0)))
  unfold qq4 at A1 A2
  have S := qsign_w (dt_am ha.1 ha.2 hb.1 hb.2 hc.1 hc.2 hd.1 hd.2) (by omega)
  unfold dt at S
  rw [if_pos (decide_eq_true ⟨ha, hb, hc, hd⟩), way_f hd ha, Option.bind_some, way_f hd hb, Option.bind_some, way_f hd hc, Option.bind_some, square_f u0 u1, Option.bind_some, across_f v0 v1 t0 t1, Option.bind_some, m1, Option.bind_some, square_f v0 v1, Option.bind_some, across_f t0 t1 u0 u1, Option.bind_some, m2, Option.bind_some, A1, Option.bind_some,
   square_f t0 t1, Option.bind_some, across_f u0 u1 v0 v1, Option.bind_some, m3, Option.bind_some, A2, Option.bind_some, S, Option.bind_some, if_pos ⟨ha, hb, hc, hd⟩]
  rfl
 ·rw [if_neg (by rw [decide_eq_true_eq]; exact h), if_neg h]
theorem lives_true {k : Nat} (hk : 2000 ≤ k) : zelligelaw07_lives.f k = some true := by
 unfold zelligelaw07_lives.f
 rw [InCircle_f _ _ _ _ _ _ _ _ hk, Option.bind_some, Orient_f _ _ _ _ _ _ hk, Option.bind_some, Where_f _ _ _ _ _ _ _ _ hk, Option.bind_some]
 decide +kernel
end Go.Proofs.Ytmeckkckjikjiaa.Pd
end
section
namespace Go.Proofs.Ytmeckkckjikjiaa.Dig
open Go Go.RowKit Go.Proofs.YtmeckkckjikjiaaW.PrintWords
theorem w64 {x : Int} (h : -9223372036854775808 ≤ x) (h' : x ≤ 9223372036854775807) : wrap64 x = x := by unfold wrap64; omega
def val : List Int → Int
 | [] => 0
 | d :: l => d + 65536 * val l
def Dg (l : List Int) : Prop := ∀ d, d ∈ l → 0 ≤ d ∧ d < 65536
def Cn (l : List Int) : Prop := Dg l ∧ (l = [] ∨ l.getD (l.length - 1) 0 ≠ 0)
def P : Nat → Int
 | 0 => 1
 | k + 1 => 65536 * P k
theorem P_pos (k : Nat) : 1 ≤ P k := by
 induction k with
 | zero => simp [P]
 | succ k ih => simp only [P]; omega
theorem P_add (a b : Nat) : P (a + b) = P a * P b := by
 induction b with
 | zero => simp [P]
 | succ b ih => rw [show a + (b + 1) = (a + b) + 1 from rfl, P, ih, P]; grind
theorem P_mono {a b : Nat} (h : a ≤ b) : P a ≤ P b := by
 obtain ⟨c, rfl⟩ : ∃ c, b = a + c := ⟨b - a, by omega⟩
 rw [P_add]
 have h1 := P_pos a
 have h2 := P_pos c
 have : P a * 1 ≤ P a * P c := Int.mul_le_mul_of_nonneg_left h2 (by omega)
 omega
theorem Dg_nil : Dg [] := fun d h => by cases h
theorem Dg_cons {d : Int} {l : List Int} : Dg (d :: l) ↔ (0 ≤ d ∧ d < 65536) ∧ Dg l := by simp [Dg]
theorem Dg_app {a b : List Int} : Dg (a ++ b) ↔ Dg a ∧ Dg b := by
 constructor
 ·intro h
  exact ⟨fun d hd => h d (List.mem_append_left _ hd), fun d hd => h d (List.mem_append_right _ hd)⟩
 ·rintro ⟨h1, h2⟩ d hd
  rcases List.mem_append.1 hd with hd | hd
  ·exact h1 d hd
  ·exact h2 d hd
theorem Dg_one {d : Int} (h : 0 ≤ d) (h' : d < 65536) : Dg [d] := fun x hx => by
 rw [List.mem_singleton.1 hx]; exact ⟨h, h'⟩
theorem Dg_take {l : List Int} (h : Dg l) (n : Nat) : Dg (l.take n) := fun d hd => h d (List.mem_of_mem_take hd)
theorem Dg_get {l : List Int} (h : Dg l) (n : Nat) : 0 ≤ l.getD n 0 ∧ l.getD n 0 < 65536 := by
 rw [List.getD_eq_getElem?_getD]
 cases e : l[n]? with
 | none => simp
 | some x => simpa using h x (List.mem_of_getElem? e)
theorem val_app (a b : List Int) : val (a ++ b) = val a + P a.length * val b := by
 induction a with
 | nil => simp [val, P]
 | cons d a ih => simp only [List.cons_append, val, ih, List.length_cons, P]; grind
theorem val_snoc (a : List Int) (d : Int) : val (a ++ [d]) = val a + P a.length * d := by
 rw [val_app]; simp [val]
theorem val_nonneg {l : List Int} (h : Dg l) : 0 ≤ val l := by
 induction l with
 | nil => simp [val]
 | cons d l ih =>
  have := (Dg_cons.1 h)
  have := ih this.2
  simp only [val]; omega
theorem val_lt {l : List Int} (h : Dg l) : val l < P l.length := by
 induction l with
 | nil => simp [val, P]
 | cons d l ih =>
  have := (Dg_cons.1 h)
  have := ih this.2
  simp only [val, List.length_cons, P]; omega
theorem val_zero_of {l : List Int} (h : ∀ d, d ∈ l → d = 0) : val l = 0 := by
 induction l with
 | nil => rfl
 | cons d l ih =>
  simp only [val]
  rw [ih (fun x hx => h x (List.mem_cons_of_mem _ hx)), h d List.mem_cons_self]; rfl
theorem val_drop {l : List Int} {i : Nat} (h : i < l.length) : val (l.drop i) = l.getD i 0 + 65536 * val (l.drop (i + 1)) := by
 rw [List.drop_eq_getElem_cons h, val]
 simp [List.getD_eq_getElem?_getD, List.getElem?_eq_getElem h]
theorem val_drop_all {l : List Int} {i : Nat} (h : l.length ≤ i) : val (l.drop i) = 0 := by
 rw [List.drop_eq_nil_of_le h]; rfl
theorem val_take_drop (l : List Int) (i : Nat) (h : i ≤ l.length) : val l = val (l.take i) + P i * val (l.drop i) := by
 have := val_app (l.take i) (l.drop i)
 rw [List.take_append_drop, List.length_take, Nat.min_eq_left h] at this
 exact this
theorem take_succ' {l : List Int} {i : Nat} (h : i < l.length) : l.take (i + 1) = l.take i ++ [l.getD i 0] := by
 rw [List.take_succ_eq_append_getElem h]
 simp [List.getD_eq_getElem?_getD, List.getElem?_eq_getElem h]
theorem Cn_nil : Cn [] := ⟨Dg_nil, .inl rfl⟩
theorem Cn_low {l : List Int} (h : Cn l) (hn : l ≠ []) : P (l.length - 1) ≤ val l := by
 obtain ⟨h1, h2 | h2⟩ := h
 ·exact absurd h2 hn
 ·have hl : 0 < l.length := List.length_pos_iff.2 hn
  have e := val_take_drop l (l.length - 1) (by omega)
  have e2 := val_drop (l := l) (i := l.length - 1) (by omega)
  rw [val_drop_all (i := l.length - 1 + 1) (by omega)] at e2
  have hg := Dg_get h1 (l.length - 1)
  have h0 := val_nonneg (Dg_take h1 (l.length - 1))
  have hp := P_pos (l.length - 1)
  have : P (l.length - 1) * 1 ≤ P (l.length - 1) * val (l.drop (l.length - 1)) := Int.mul_le_mul_of_nonneg_left (by omega) (by omega)
  omega
theorem Cn_zero {l : List Int} (h : Cn l) (h0 : val l = 0) : l = [] := by
 by_cases hn : l = []
 ·exact hn
 ·have := Cn_low h hn
  have := P_pos (l.length - 1)
  omega
theorem Cn_tail {d : Int} {l : List Int} (h : Cn (d :: l)) : Cn l := by
 refine ⟨(Dg_cons.1 h.1).2, ?_⟩
 rcases l with _ | ⟨e, l⟩
 ·exact .inl rfl
 ·refine .inr ?_
  rcases h.2 with h2 | h2
  ·cases h2
  ·simpa using h2
theorem Cn_one {a b : List Int} (ha : Cn a) (hb : Cn b) (h : val a = val b) : a = b := by
 induction a generalizing b with
 | nil => exact (Cn_zero hb (by rw [← h]; rfl)).symm
 | cons d a ih =>
  rcases b with _ | ⟨e, b⟩
  ·exact Cn_zero ha (by rw [h]; rfl)
  ·simp only [val] at h
   have h1 := (Dg_cons.1 ha.1).1
   have h2 := (Dg_cons.1 hb.1).1
   have hd : d = e := by omega
   subst hd
   rw [ih (Cn_tail ha) (Cn_tail hb) (by omega)]
theorem Cn_longer {a b : List Int} (ha : Dg a) (hb : Cn b) (h : a.length < b.length) : val a < val b := by
 have h1 := val_lt ha
 have h2 := Cn_low hb (by intro e; rw [e] at h; simp at h)
 have h3 := P_mono (a := a.length) (b := b.length - 1) (by omega)
 omega
def dig (n : Nat) : List Int := if h : n = 0 then [] else ((n % 65536 : Nat) : Int) :: dig (n / 65536)
 termination_by n
 decreasing_by omega
theorem dig_zero : dig 0 = [] := by rw [dig]; simp
theorem dig_pos {n : Nat} (h : n ≠ 0) : dig n = ((n % 65536 : Nat) : Int) :: dig (n / 65536) := by rw [dig]; simp [h]
theorem dig_val (n : Nat) : val (dig n) = n := by
 induction n using Nat.strongRecOn with
 | ind n ih =>
  by_cases h : n = 0
  ·subst h; rw [dig_zero]; rfl
  ·rw [dig_pos h, val, ih _ (by omega)]; omega
theorem dig_Dg (n : Nat) : Dg (dig n) := by
 induction n using Nat.strongRecOn with
 | ind n ih =>
  by_cases h : n = 0
  ·subst h; rw [dig_zero]; exact Dg_nil
  ·rw [dig_pos h]; exact Dg_cons.2 ⟨by omega, ih _ (by omega)⟩
theorem dig_ne {n : Nat} (h : n ≠ 0) : dig n ≠ [] := by rw [dig_pos h]; simp
theorem dig_Cn (n : Nat) : Cn (dig n) := by
 induction n using Nat.strongRecOn with
 | ind n ih =>
  by_cases h : n = 0
  ·subst h; rw [dig_zero]; exact Cn_nil
  ·refine ⟨dig_Dg n, .inr ?_⟩
   rw [dig_pos h]
   have h2 := (ih (n / 65536) (by omega)).2
   by_cases h3 : n / 65536 = 0
   ·rw [h3, dig_zero]; simp; omega
   ·rcases h2 with h2 | h2
    ·exact absurd h2 (dig_ne h3)
    ·have hl : 0 < (dig (n / 65536)).length := List.length_pos_iff.2 (dig_ne h3)
     rw [List.length_cons, show (dig (n / 65536)).length + 1 - 1 = ((dig (n / 65536)).length - 1) + 1 from by omega, List.getD_cons_succ]
     exact h2
theorem eq_dig_of {l : List Int} {n : Nat} (h : Cn l) (e : val l = n) : l = dig n := Cn_one h (dig_Cn _) (by rw [dig_val, e])
theorem dig_len {n m : Nat} (h : (n : Int) < P m) : (dig n).length ≤ m := by
 by_cases hn : n = 0
 ·subst hn; rw [dig_zero]; simp
 ·have h1 := Cn_low (dig_Cn n) (dig_ne hn)
  rw [dig_val] at h1
  rcases Nat.lt_or_ge m (dig n).length with h2 | h2
  ·have := P_mono (a := m) (b := (dig n).length - 1) (by omega)
   omega
  ·exact h2
theorem dig_len_mono {a b : Nat} (h : a ≤ b) : (dig a).length ≤ (dig b).length := by
 apply dig_len
 have := val_lt (dig_Dg b)
 rw [dig_val] at this
 omega
end Go.Proofs.Ytmeckkckjikjiaa.Dig
end
section
namespace Go.Proofs.Ytmeckkckjikjiaa.F
open Go.RowKit Go.Proofs.YtmeckkckjikjiaaW.PrintWords Go.Proofs.YtmeckkckjikjiaaW.PrintLast Go.Proofs.YtmeckkckjikjiaaW.PrintMore
attribute [local go_sem] max2_int min2_int max_two min_two max_three min_three max_four min_four
set_option linter.unusedVariables false
set_option linter.unusedSimpArgs false
def zelligeref03_Trim.l0 : Nat → List Int → Int → Option (List Int)
 | 0, _, _ => none
 | k + 1, x0, x3 => if x3 > 0 then (if 0 ≤ (wrap64 (x3 - 1)) then (if (wrap64 (x3 - 1)) < (x0.length : Int) then (if (rd x0 (wrap64 (x3 - 1))) = 0 then (zelligeref03_Trim.l0 k x0 (wrap64 (x3 - 1))) else (if 0 ≤ x3 then (if x3 ≤ (x0.length : Int) then (some (x0.take (x3 : Int).toNat)) else (none)) else (none))) else (none)) else (none)) else (if 0 ≤ x3 then (if x3 ≤ (x0.length : Int) then (some (x0.take (x3 : Int).toNat)) else (none)) else (none))
def zelligeref03_Trim.f (k : Nat) (l0 : List Int) : Option (List Int) := zelligeref03_Trim.l0 k l0 (l0.length : Int)
theorem zelligeref03_Trim.mono_l : ∀ k, (∀ y0 y1, LeO (zelligeref03_Trim.l0 k y0 y1) (zelligeref03_Trim.l0 (k + 1) y0 y1))
 | 0 => fun _ _ r h => by simp [zelligeref03_Trim.l0] at h
 | k + 1 => by
  have ih0 := zelligeref03_Trim.mono_l k
  ·intro y0 y1
   unfold zelligeref03_Trim.l0
   repeat' first
   | (with_reducible exact ih0 _ _)
   | (with_reducible exact LeO.refl _)
   | (with_reducible exact LeO.none _)
   | (with_reducible refine LeO.ite ?_ ?_)
   | (with_reducible refine LeO.bind ?_ (fun _ => ?_))
   | exact ih0 _ _
   | exact LeO.none _
   | refine LeO.ite ?_ ?_
   | refine LeO.bind ?_ (fun _ => ?_)
theorem zelligeref03_Trim.mono : ∀ a0 k, LeO (zelligeref03_Trim.f k a0) (zelligeref03_Trim.f (k + 1) a0) := by
 intro a0 k
 have ih0 := zelligeref03_Trim.mono_l k
 unfold zelligeref03_Trim.f
 repeat' first
   | (with_reducible exact ih0 _ _)
   | (with_reducible exact LeO.refl _)
   | (with_reducible exact LeO.none _)
   | (with_reducible refine LeO.ite ?_ ?_)
   | (with_reducible refine LeO.bind ?_ (fun _ => ?_))
   | exact ih0 _ _
   | exact LeO.none _
   | refine LeO.ite ?_ ?_
   | refine LeO.bind ?_ (fun _ => ?_)
set_option maxHeartbeats 8000000 in
set_option maxRecDepth 100000 in
theorem zelligeref03_Trim.calls (k : Nat) (P0_ : Nat → Prop) (u9000_ : Value) (l0 : List Int) (r : List Int) (w0 w : World) (hB : Below w0.heap.size w0 w) (ho0 : Kd.R (Kd.int .i64) 3 w w0.heap.size P0_ u9000_ l0) (h : zelligeref03_Trim.f k l0 = some r) :
  Calls Try.prog 64 #[u9000_] w fun e w' => ∃ v0_ : Value, e = .returned (v0_) ∧ Kd.R (Kd.int .i64) 3 w' w0.heap.size (fun k_ => (P0_ k_ ∨ w.heap.size ≤ k_)) v0_ r ∧ Below w0.heap.size w0 w' ∧ Kept w w' (fun k_ => P0_ k_) := by
 have HO0 := Aside0.mk (show Kd.R (Kd.int .i64) 3 w w0.heap.size (fun k_ => (P0_ k_ ∨ w.heap.size ≤ k_)) u9000_ l0 from Kd.R_mono ho0 (fun k_ hk => (.inl hk)))
 have HK := Aside0.mk (Kept.refl w (fun k_ => P0_ k_))
 have HW0 := Aside0.mk hB.size
 have HB := Aside0.mk hB
 clear hB
 have H : (zelligeref03_Trim.l0 k l0 (l0.length : Int)) = some r := h
 clear h
 have H' := Aside0.mk H
 clear H
 obtain ⟨Ao2, co2, eo2⟩ := Kd.R_slice HO0.out
 subst eo2
 go_enter Try.func64, Try.ntmps64
 go_wp2
 go_loopg [3] k (fun kq v3 w' => ∃ (x3_1 : Int), v3 = .int .i64 x3_1 ∧ Aside0 (zelligeref03_Trim.l0 kq l0 x3_1 = some r) ∧ Aside0 (kq ≤ k) ∧ Aside0 (Kd.R (Kd.int .i64) 3 w' w0.heap.size (fun k_ => (P0_ k_ ∨ w.heap.size ≤ k_)) (.slice Ao2 l0.length co2) l0) ∧ Aside0 (Kept w w' (fun k_ => P0_ k_)) ∧ Aside0 (Below w0.heap.size w0 w'))
 case atStart => exact ⟨((l0.length : Int)), (by first | rfl | (simp; done) | (simp [*]; done)), H', ⟨Nat.le_refl _⟩, ⟨by (with_reducible repeat (first | apply Kd.R_alloc | apply Kd.R_drewN | apply Kd.R_drew)); exact HO0.out⟩, ⟨by repeat (first | (with_reducible first | exact HK.out | apply Kept.alloc | apply Kept.drewN | apply Kept.drew) | exact HK.out)⟩, ⟨bw HB.out⟩⟩
 case round =>
  clear H'
  try clear p2
  obtain ⟨x3_1, rfl, HA, HK1, HO_0, HK, HB⟩ := hrel
  cases gk with
  | zero => exact absurd HA.out (by simp [zelligeref03_Trim.l0])
  | succ k1 =>
   have H := HA.out
   clear HA
   simp only [zelligeref03_Trim.l0] at H
   by_cases c3 : x3_1 > 0
   ·rw [if_pos c3] at H
    have c3b0 : decide (0 < x3_1) = true := decide_eq_true c3
    clear c3
    obtain ⟨ji4, hji4⟩ : ∃ j_ : Int, (wrap64 (x3_1 - 1)) = j_ := ⟨_, rfl⟩
    replace H : (if 0 ≤ (ji4) then (if (ji4) < (l0.length : Int) then (if (rd l0 (ji4)) = 0 then (zelligeref03_Trim.l0 k1 l0 ji4) else (if 0 ≤ x3_1 then (if x3_1 ≤ (l0.length : Int) then (some (l0.take (x3_1 : Int).toNat)) else (none)) else (none))) else (none)) else (none)) = some r := by first | (rw [hji4] at H; exact H) | (simp only [hji4] at H ⊢; exact H)
    have hji4w : (IntKind.i64.wrap (x3_1 - 1)) = ji4 := (i64_w _).trans hji4
    by_cases c5 : 0 ≤ (ji4)
    ·rw [if_pos c5] at H
     have c5b0 : decide (0 ≤ (ji4)) = true := decide_eq_true c5
     clear c5
     by_cases c6 : (ji4) < (l0.length : Int)
     ·rw [if_pos c6] at H
      have c6b0 : decide ((ji4) < (l0.length : Int)) = true := decide_eq_true c6
      clear c6
      by_cases c7 : (rd l0 (ji4)) = 0
      ·rw [if_pos c7] at H
       have c7b0 : ((rd l0 (ji4)) == 0) = true := beq_iff_eq.mpr c7
       have c7b1 : ((rd l0 (ji4)) != 0) = false := bne_eq_false_iff_eq.mpr c7
       clear c7
       have H' := Aside0.mk H
       clear H
       have p209 : 0 ≤ ((ji4) : Int) := of_decide_eq_true (by first | (with_reducible assumption) | assumption)
       have q209 : (ji4) < (l0.length : Int) := of_decide_eq_true (by first | (with_reducible assumption) | assumption)
       obtain ⟨ad209, e209, hx209_0⟩ := Kd.at_int (Kd.R_reads' HO_0.out).2.2 (ji4) p209 q209
       cases e209
       replace p209 := eq_true p209
       replace q209 := eq_true q209
       go_wp2
       go_roundg k1
       case measure => have := HK1.out; omega
       case rel => exact ⟨(ji4), (by first | rfl | (simp; done) | (simp only [← hji4] <;> (first | rfl | simp)) | (simp [*]; done)), H', ⟨by have := HK1.out; omega⟩, ⟨by (with_reducible repeat (first | apply Kd.R_alloc | apply Kd.R_drewN | apply Kd.R_drew)); exact HO_0.out⟩, ⟨by repeat (first | (with_reducible first | exact HK.out | apply Kept.alloc | apply Kept.drewN | apply Kept.drew) | exact HK.out)⟩, ⟨bw HB.out⟩⟩
      ·rw [if_neg c7] at H
       have c7b0 : ((rd l0 (ji4)) == 0) = false := beq_eq_false_iff_ne.mpr c7
       have c7b1 : ((rd l0 (ji4)) != 0) = true := bne_iff_ne.mpr c7
       by_cases c8 : 0 ≤ x3_1
       ·rw [if_pos c8] at H
        have c8b0 := eq_true c8
        have c8b1 : decide (0 ≤ x3_1) = true := decide_eq_true c8
        clear c8
        by_cases c9 : x3_1 ≤ (l0.length : Int)
        ·rw [if_pos c9] at H
         have c9b0 := eq_true c9
         have c9b1 : decide (x3_1 ≤ (l0.length : Int)) = true := decide_eq_true c9
         clear c9
         obtain ⟨y210, hy210⟩ : ∃ y_ : List Int, y_ = (l0.take (x3_1 : Int).toNat) := ⟨_, rfl⟩
         replace H : (some y210) = some r := by first | (rw [hy210]; with_reducible exact H) | (have H2_ := (Option.bind_some _ _).symm.trans H; rw [hy210]; with_reducible exact H2_) | (have H2_ := (Option.bind_some _ _).symm.trans H; with_reducible exact H2_) | with_reducible exact H | (rw [hy210]; exact H) | exact H
         have Ny210 := Aside0.mk hy210
         clear hy210
         obtain rfl := Option.some.inj H
         have p209 : 0 ≤ ((ji4) : Int) := of_decide_eq_true (by first | (with_reducible assumption) | assumption)
         have q209 : (ji4) < (l0.length : Int) := of_decide_eq_true (by first | (with_reducible assumption) | assumption)
         obtain ⟨ad209, e209, hx209_0⟩ := Kd.at_int (Kd.R_reads' HO_0.out).2.2 (ji4) p209 q209
         cases e209
         replace p209 := eq_true p209
         replace q209 := eq_true q209
         have q10 : (x3_1 : Int) ≤ ((l0.length : Int) : Int) := of_decide_eq_true (by first | (with_reducible assumption) | assumption)
         obtain ⟨i010, hi010, _, hsz10, _⟩ := info_parts info3
         have hcut10 := cut_to (P := Try.prog) 31 3 .i64 Try.underlying31 hi010 (some ad209) l0.length co2 x3_1 (of_decide_eq_true (by first | (with_reducible assumption) | assumption)) q10 (Kd.R_reads' HO_0.out).2.1
         have hr10 := Kd.R_take (m := (x3_1 : Int).toNat) HO_0.out (by omega)
         have hy10 : y210.length = (x3_1 : Int).toNat := (by rw [Ny210.out, List.length_take]; omega)
         rw [← Ny210.out] at hr10
         rw [← hy10] at hr10 hcut10
         clear hy10 hi010 hsz10 HO_0
         have HO212 := Aside0.mk hr10
         clear hr10
         replace q10 := eq_true q10
         go_wp2
         go_ret
         exact ⟨_, by first | rfl | (simp [errW_none, errW_some] <;> rfl) | (simp only [← hji4]; first | rfl | (simp [errW_none, errW_some] <;> rfl)) | (simp [*, errW_none, errW_some] <;> rfl), by (with_reducible repeat (first | apply Kd.R_alloc | apply Kd.R_drewN | apply Kd.R_drew)); exact HO212.out, bw HB.out, by repeat (first | (with_reducible first | exact HK.out | apply Kept.alloc | apply Kept.drewN | apply Kept.drew) | exact HK.out)⟩
        ·rw [if_neg c9] at H
         exact absurd H (by simp)
       ·rw [if_neg c8] at H
        exact absurd H (by simp)
     ·rw [if_neg c6] at H
      exact absurd H (by simp)
    ·rw [if_neg c5] at H
     exact absurd H (by simp)
   ·rw [if_neg c3] at H
    have c3b0 : decide (0 < x3_1) = false := decide_eq_false c3
    clear c3
    by_cases c11 : 0 ≤ x3_1
    ·rw [if_pos c11] at H
     have c11b0 := eq_true c11
     have c11b1 : decide (0 ≤ x3_1) = true := decide_eq_true c11
     clear c11
     by_cases c12 : x3_1 ≤ (l0.length : Int)
     ·rw [if_pos c12] at H
      have c12b0 := eq_true c12
      have c12b1 : decide (x3_1 ≤ (l0.length : Int)) = true := decide_eq_true c12
      clear c12
      obtain ⟨y213, hy213⟩ : ∃ y_ : List Int, y_ = (l0.take (x3_1 : Int).toNat) := ⟨_, rfl⟩
      replace H : (some y213) = some r := by first | (rw [hy213]; with_reducible exact H) | (have H2_ := (Option.bind_some _ _).symm.trans H; rw [hy213]; with_reducible exact H2_) | (have H2_ := (Option.bind_some _ _).symm.trans H; with_reducible exact H2_) | with_reducible exact H | (rw [hy213]; exact H) | exact H
      have Ny213 := Aside0.mk hy213
      clear hy213
      obtain rfl := Option.some.inj H
      have q13 : (x3_1 : Int) ≤ ((l0.length : Int) : Int) := of_decide_eq_true (by first | (with_reducible assumption) | assumption)
      obtain ⟨i013, hi013, _, hsz13, _⟩ := info_parts info3
      have hcut13 := cut_to (P := Try.prog) 31 3 .i64 Try.underlying31 hi013 Ao2 l0.length co2 x3_1 (of_decide_eq_true (by first | (with_reducible assumption) | assumption)) q13 (Kd.R_reads' HO_0.out).2.1
      have hr13 := Kd.R_take (m := (x3_1 : Int).toNat) HO_0.out (by omega)
      have hy13 : y213.length = (x3_1 : Int).toNat := (by rw [Ny213.out, List.length_take]; omega)
      rw [← Ny213.out] at hr13
      rw [← hy13] at hr13 hcut13
      clear hy13 hi013 hsz13 HO_0
      have HO215 := Aside0.mk hr13
      clear hr13
      replace q13 := eq_true q13
      go_wp2
      go_ret
      exact ⟨_, by first | rfl | (simp [*, errW_none, errW_some] <;> rfl), by (with_reducible repeat (first | apply Kd.R_alloc | apply Kd.R_drewN | apply Kd.R_drew)); exact HO215.out, bw HB.out, by repeat (first | (with_reducible first | exact HK.out | apply Kept.alloc | apply Kept.drewN | apply Kept.drew) | exact HK.out)⟩
     ·rw [if_neg c12] at H
      exact absurd H (by simp)
    ·rw [if_neg c11] at H
     exact absurd H (by simp)
end Go.Proofs.Ytmeckkckjikjiaa.F
end
section
namespace Go.Proofs.Ytmeckkckjikjiaa.F
open Go.RowKit Go.Proofs.YtmeckkckjikjiaaW.PrintWords Go.Proofs.YtmeckkckjikjiaaW.PrintLast Go.Proofs.YtmeckkckjikjiaaW.PrintMore
attribute [local go_sem] max2_int min2_int max_two min_two max_three min_three max_four min_four
set_option linter.unusedVariables false
set_option linter.unusedSimpArgs false
mutual
def zelligeref03_Add.l0 : Nat → List Int → List Int → List Int → Int → Int → Option (List Int)
 | 0, _, _, _, _, _ => none
 | k + 1, x0, x1, x5, x6, x7 => if x7 < (x0.length : Int) then (zelligeref03_Add.j1 k x0 x1 x5 x6 x7 true) else (zelligeref03_Add.j1 k x0 x1 x5 x6 x7 (decide (x7 < (x1.length : Int))))
def zelligeref03_Add.j1 : Nat → List Int → List Int → List Int → Int → Int → Bool → Option (List Int)
 | 0, _, _, _, _, _, _ => none
 | k + 1, x0, x1, x5, x6, x7, x18 => if x18 = true then (if x7 < (x0.length : Int) then (if 0 ≤ x7 then (if x7 < (x1.length : Int) then (if x5.length < 17592186044416 then (zelligeref03_Add.l0 k x0 x1 (x5 ++ [Int.tmod (wrap64 ((wrap64 (x6 + (rd x0 x7))) + (rd x1 x7))) 65536]) (wrap64 (Int.tdiv (wrap64 ((wrap64 (x6 + (rd x0 x7))) + (rd x1 x7))) 65536)) (wrap64 (x7 + 1))) else (none)) else (if x5.length < 17592186044416 then (zelligeref03_Add.l0 k x0 x1 (x5 ++ [Int.tmod (wrap64 (x6 + (rd x0 x7))) 65536]) (wrap64 (Int.tdiv (wrap64 (x6 + (rd x0 x7))) 65536)) (wrap64 (x7 + 1))) else (none))) else (none)) else (if x7 < (x1.length : Int) then (if 0 ≤ x7 then (if x5.length < 17592186044416 then (zelligeref03_Add.l0 k x0 x1 (x5 ++ [Int.tmod (wrap64 (x6 + (rd x1 x7))) 65536]) (wrap64 (Int.tdiv (wrap64 (x6 + (rd x1 x7))) 65536)) (wrap64 (x7 + 1))) else (none)) else (none)) else (if x5.length < 17592186044416 then (zelligeref03_Add.l0 k x0 x1 (x5 ++ [Int.tmod x6 65536]) (wrap64 (Int.tdiv x6 65536)) (wrap64 (x7 + 1))) else (none)))) else (if x5.length < 17592186044416 then ((zelligeref03_Trim.f k (x5 ++ [x6])).bind fun t222 => (some t222)) else (none))
end
def zelligeref03_Add.f (k : Nat) (l0 : List Int) (l1 : List Int) : Option (List Int) := zelligeref03_Add.l0 k l0 l1 (([] : List Int)) 0 0
theorem zelligeref03_Add.mono_l : ∀ k, (∀ y0 y1 y2 y3 y4, LeO (zelligeref03_Add.l0 k y0 y1 y2 y3 y4) (zelligeref03_Add.l0 (k + 1) y0 y1 y2 y3 y4)) ∧ (∀ y0 y1 y2 y3 y4 y5, LeO (zelligeref03_Add.j1 k y0 y1 y2 y3 y4 y5) (zelligeref03_Add.j1 (k + 1) y0 y1 y2 y3 y4 y5))
 | 0 => ⟨fun _ _ _ _ _ r h => by simp [zelligeref03_Add.l0] at h, fun _ _ _ _ _ _ r h => by simp [zelligeref03_Add.j1] at h⟩
 | k + 1 => by
  obtain ⟨ih0, ih1⟩ := zelligeref03_Add.mono_l k
  refine ⟨?_, ?_⟩
  ·intro y0 y1 y2 y3 y4
   unfold zelligeref03_Add.l0
   repeat' first
   | (with_reducible exact ih0 _ _ _ _ _)
   | (with_reducible exact ih1 _ _ _ _ _ _)
   | (with_reducible exact zelligeref03_Trim.mono _ _)
   | (with_reducible exact LeO.refl _)
   | (with_reducible exact LeO.none _)
   | (with_reducible refine LeO.ite ?_ ?_)
   | (with_reducible refine LeO.bind ?_ (fun _ => ?_))
   | exact ih0 _ _ _ _ _
   | exact ih1 _ _ _ _ _ _
   | exact zelligeref03_Trim.mono _ _
   | exact LeO.none _
   | refine LeO.ite ?_ ?_
   | refine LeO.bind ?_ (fun _ => ?_)
  ·intro y0 y1 y2 y3 y4 y5
   unfold zelligeref03_Add.j1
   repeat' first
   | (with_reducible exact ih0 _ _ _ _ _)
   | (with_reducible exact ih1 _ _ _ _ _ _)
   | (with_reducible exact zelligeref03_Trim.mono _ _)
   | (with_reducible exact LeO.refl _)
   | (with_reducible exact LeO.none _)
   | (with_reducible refine LeO.ite ?_ ?_)
   | (with_reducible refine LeO.bind ?_ (fun _ => ?_))
   | exact ih0 _ _ _ _ _
   | exact ih1 _ _ _ _ _ _
   | exact zelligeref03_Trim.mono _ _
   | exact LeO.none _
   | refine LeO.ite ?_ ?_
   | refine LeO.bind ?_ (fun _ => ?_)
theorem zelligeref03_Add.mono : ∀ a0 a1 k, LeO (zelligeref03_Add.f k a0 a1) (zelligeref03_Add.f (k + 1) a0 a1) := by
 intro a0 a1 k
 obtain ⟨ih0, ih1⟩ := zelligeref03_Add.mono_l k
 unfold zelligeref03_Add.f
 repeat' first
   | (with_reducible exact ih0 _ _ _ _ _)
   | (with_reducible exact ih1 _ _ _ _ _ _)
   | (with_reducible exact zelligeref03_Trim.mono _ _)
   | (with_reducible exact LeO.refl _)
   | (with_reducible exact LeO.none _)
   | (with_reducible refine LeO.ite ?_ ?_)
   | (with_reducible refine LeO.bind ?_ (fun _ => ?_))
   | exact ih0 _ _ _ _ _
   | exact ih1 _ _ _ _ _ _
   | exact zelligeref03_Trim.mono _ _
   | exact LeO.none _
   | refine LeO.ite ?_ ?_
   | refine LeO.bind ?_ (fun _ => ?_)
set_option maxHeartbeats 8000000 in
set_option maxRecDepth 100000 in
theorem zelligeref03_Add.calls (k : Nat) (A0 : Option Addr) (c0 : Nat) (l0 : List Int) (A1 : Option Addr) (c1 : Nat) (l1 : List Int) (r : List Int) (w : World) (hr0 : Kd.C (Kd.int .i64) w A0 l0.length l0) (hc0 : l0.length ≤ c0) (hr1 : Kd.C (Kd.int .i64) w A1 l1.length l1) (hc1 : l1.length ≤ c1) (h : zelligeref03_Add.f k l0 l1 = some r) :
  Calls Try.prog 57 #[.slice A0 l0.length c0, .slice A1 l1.length c1] w fun e w' => ∃ v0_ : Value, e = .returned (v0_) ∧ Kd.R (Kd.int .i64) 3 w' w.heap.size (fun _ => True) v0_ r ∧ Below w.heap.size w w' := by
 have HR0 := Aside0.mk hr0
 have HC0 := Aside0.mk hc0
 clear hr0 hc0
 have HR1 := Aside0.mk hr1
 have HC1 := Aside0.mk hc1
 clear hr1 hc1
 have HB := Aside0.mk (Below.refl w.heap.size w)
 have H : (zelligeref03_Add.l0 k l0 l1 (([] : List Int)) 0 0) = some r := h
 clear h
 obtain ⟨y216, hy216⟩ : ∃ y_ : List Int, y_ = (([] : List Int)) := ⟨_, rfl⟩
 replace H : (zelligeref03_Add.l0 k l0 l1 y216 0 0) = some r := by first | (rw [hy216]; with_reducible exact H) | (have H2_ := (Option.bind_some _ _).symm.trans H; rw [hy216]; with_reducible exact H2_) | (have H2_ := (Option.bind_some _ _).symm.trans H; with_reducible exact H2_) | with_reducible exact H | (rw [hy216]; exact H) | exact H
 have Ny216 := Aside0.mk hy216
 clear hy216
 have H' := Aside0.mk H
 clear H
 go_enter Try.func57, Try.ntmps57
 go_wp2_with (first | ((with_reducible refine gate_dst (N := 8) rfl ?_); (try (refine gate_guard (by rfl) ?_; dsimp only)); refine Kd.R_lit (Kd.int .i64) _ 3 ?hg (N := 8) ?hd (xs := ([] : List Int)) (inner := []) (ok := fun _ => True) (okp := fun _ => True) ?hr ?hp (fun _ hk => hk) trivial (Below.refl _ _) (Nat.le_refl _) (by simp) ?_; (case hd => rfl); (case hg => rfl); (case hr => first | (go_simp; done) | (go_simp; rfl)); (case hp => exact (Reps.none _ _)); intro v217 w3 ho4 hb hg_ hnew_; clear hg_ hnew_; (first | rw [← Ny216.out] at ho4 | (simp only [Int.reduceToNat] at ho4; rw [← Ny216.out] at ho4)); have n0_ := Aside0.mk (Kd.R_lower ho4 (below_size (bw HB.out))); have n1_ := u2 HB hb; clear HB; have HO218 := n0_; have HB := n1_; clear n0_ n1_; clear hb ho4))
 go_loopg [5, 6, 7] k (fun kq v5 v6 v7 w' => ∃ (x5_1 : List Int) (x6_1 : Int) (x7_1 : Int), v6 = .int .i64 x6_1 ∧ v7 = .int .i64 x7_1 ∧ Aside0 (zelligeref03_Add.l0 kq l0 l1 x5_1 x6_1 x7_1 = some r) ∧ Aside0 (kq ≤ k) ∧ Aside0 (Kd.R (Kd.int .i64) 3 w' w.heap.size (fun _ => True) v5 x5_1) ∧ Aside0 (Below w.heap.size w w'))
 case atStart => exact ⟨(y216), (0), (0), (by first | rfl | (simp; done) | (simp [*]; done)), (by first | rfl | (simp; done) | (simp [*]; done)), H', ⟨Nat.le_refl _⟩, ⟨by (with_reducible repeat (first | apply Kd.R_alloc | apply Kd.R_drewN | apply Kd.R_drew)); exact HO218.out⟩, ⟨bw HB.out⟩⟩
 case round =>
  clear H'
  try clear c1
  try clear p2
  obtain ⟨x5_1, x6_1, x7_1, rfl, rfl, HA, HK1, HO_5, HB⟩ := hrel
  cases gk with
  | zero => exact absurd HA.out (by simp [zelligeref03_Add.l0])
  | succ k1 =>
   have H := HA.out
   clear HA
   simp only [zelligeref03_Add.l0] at H
   have HC5 := Aside0.mk H
   clear H
   go_upto_region 3 with (fail)
   go_cut [18] (fun v18 wc => ∃ (kq : Nat) (x18_4 : Bool), v18 = .bool x18_4 ∧ Aside0 (zelligeref03_Add.j1 kq l0 l1 x5_1 x6_1 x7_1 x18_4 = some r) ∧ Aside0 (kq ≤ k1) ∧ Aside0 (Kd.R (Kd.int .i64) 3 wc w.heap.size (fun _ => True) u5 x5_1) ∧ Aside0 (Below w.heap.size w wc))
   case first =>
    have H := HC5.out
    clear HC5
    by_cases c6 : x7_1 < (l0.length : Int)
    ·rw [if_pos c6] at H
     have c6b0 : decide (x7_1 < (l0.length : Int)) = true := decide_eq_true c6
     clear c6
     (first | rw [c6b0] | (simp only [i64_w, i32_w]; rw [c6b0]) | skip)
     have H' := Aside0.mk H
     clear H
     go_wp2
     go_meet
     case rel => exact ⟨_, (true), (by first | rfl | (simp; done) | (simp [*]; done)), H', ⟨by have := HK1.out; first | omega | exact Nat.le_refl _⟩, ⟨by (with_reducible repeat (first | apply Kd.R_alloc | apply Kd.R_drewN | apply Kd.R_drew)); exact HO_5.out⟩, ⟨bw HB.out⟩⟩
    ·rw [if_neg c6] at H
     have c6b0 : decide (x7_1 < (l0.length : Int)) = false := decide_eq_false c6
     clear c6
     (first | rw [c6b0] | (simp only [i64_w, i32_w]; rw [c6b0]) | skip)
     have H' := Aside0.mk H
     clear H
     go_wp2
     go_meet
     case rel => exact ⟨_, (decide (x7_1 < (l1.length : Int))), (by first | rfl | (simp; done) | (simp [*]; done)), H', ⟨by have := HK1.out; first | omega | exact Nat.le_refl _⟩, ⟨by (with_reducible repeat (first | apply Kd.R_alloc | apply Kd.R_drewN | apply Kd.R_drew)); exact HO_5.out⟩, ⟨bw HB.out⟩⟩
   case rest =>
    clear HC5
    try clear c1
    try clear p2
    try clear c5
    try clear c6
    try clear c6b0
    try clear p2
    obtain ⟨kq, x18_4, rfl, HA, HJ4, HO_5, HB⟩ := hcut
    cases kq with
    | zero => exact absurd HA.out (by simp [zelligeref03_Add.j1])
    | succ kj4 =>
     have H := HA.out
     clear HA
     simp only [zelligeref03_Add.j1] at H
     by_cases c7 : x18_4 = true
     ·subst c7
      have H1 : (if x7_1 < (l0.length : Int) then (if 0 ≤ x7_1 then (if x7_1 < (l1.length : Int) then (if x5_1.length < 17592186044416 then (zelligeref03_Add.l0 kj4 l0 l1 (x5_1 ++ [Int.tmod (wrap64 ((wrap64 (x6_1 + (rd l0 x7_1))) + (rd l1 x7_1))) 65536]) (wrap64 (Int.tdiv (wrap64 ((wrap64 (x6_1 + (rd l0 x7_1))) + (rd l1 x7_1))) 65536)) (wrap64 (x7_1 + 1))) else (none)) else (if x5_1.length < 17592186044416 then (zelligeref03_Add.l0 kj4 l0 l1 (x5_1 ++ [Int.tmod (wrap64 (x6_1 + (rd l0 x7_1))) 65536]) (wrap64 (Int.tdiv (wrap64 (x6_1 + (rd l0 x7_1))) 65536)) (wrap64 (x7_1 + 1))) else (none))) else (none)) else (if x7_1 < (l1.length : Int) then (if 0 ≤ x7_1 then (if x5_1.length < 17592186044416 then (zelligeref03_Add.l0 kj4 l0 l1 (x5_1 ++ [Int.tmod (wrap64 (x6_1 + (rd l1 x7_1))) 65536]) (wrap64 (Int.tdiv (wrap64 (x6_1 + (rd l1 x7_1))) 65536)) (wrap64 (x7_1 + 1))) else (none)) else (none)) else (if x5_1.length < 17592186044416 then (zelligeref03_Add.l0 kj4 l0 l1 (x5_1 ++ [Int.tmod x6_1 65536]) (wrap64 (Int.tdiv x6_1 65536)) (wrap64 (x7_1 + 1))) else (none)))) = some r := by rw [if_pos rfl] at H; exact H
      clear H
      have H := H1
      clear H1
      by_cases c8 : x7_1 < (l0.length : Int)
      ·rw [if_pos c8] at H
       have c8b0 : decide (x7_1 < (l0.length : Int)) = true := decide_eq_true c8
       clear c8
       by_cases c9 : 0 ≤ x7_1
       ·rw [if_pos c9] at H
        have c9b0 : decide (0 ≤ x7_1) = true := decide_eq_true c9
        clear c9
        by_cases c10 : x7_1 < (l1.length : Int)
        ·rw [if_pos c10] at H
         have c10b0 : decide (x7_1 < (l1.length : Int)) = true := decide_eq_true c10
         clear c10
         by_cases c11 : x5_1.length < 17592186044416
         ·rw [if_pos c11] at H
          have LMc11 := Aside0.mk c11
          clear c11
          obtain ⟨y227, hy227⟩ : ∃ y_ : List Int, y_ = (x5_1 ++ [Int.tmod (wrap64 ((wrap64 (x6_1 + (rd l0 x7_1))) + (rd l1 x7_1))) 65536]) := ⟨_, rfl⟩
          replace H : (zelligeref03_Add.l0 kj4 l0 l1 y227 (wrap64 (Int.tdiv (wrap64 ((wrap64 (x6_1 + (rd l0 x7_1))) + (rd l1 x7_1))) 65536)) (wrap64 (x7_1 + 1))) = some r := by first | (rw [hy227]; with_reducible exact H) | (have H2_ := (Option.bind_some _ _).symm.trans H; rw [hy227]; with_reducible exact H2_) | (have H2_ := (Option.bind_some _ _).symm.trans H; with_reducible exact H2_) | with_reducible exact H | (rw [hy227]; exact H) | exact H
          have Ny227 := Aside0.mk hy227
          clear hy227
          have H' := Aside0.mk H
          clear H
          have p225 : 0 ≤ (x7_1 : Int) := of_decide_eq_true (by first | (with_reducible assumption) | assumption)
          have q225 : x7_1 < (l0.length : Int) := of_decide_eq_true (by first | (with_reducible assumption) | assumption)
          obtain ⟨ad225, e225, hx225_0⟩ := Kd.at_int HR0.out x7_1 p225 q225
          cases e225
          replace hx225_0 := (HB.out.cell (World.block_lt_of_cell? w _ hx225_0)).trans hx225_0
          replace p225 := eq_true p225
          replace q225 := eq_true q225
          have p226 : 0 ≤ (x7_1 : Int) := of_decide_eq_true (by first | (with_reducible assumption) | assumption)
          have q226 : x7_1 < (l1.length : Int) := of_decide_eq_true (by first | (with_reducible assumption) | assumption)
          obtain ⟨ad226, e226, hx226_0⟩ := Kd.at_int HR1.out x7_1 p226 q226
          cases e226
          replace hx226_0 := (HB.out.cell (World.block_lt_of_cell? w _ hx226_0)).trans hx226_0
          replace p226 := eq_true p226
          replace q226 := eq_true q226
          go_wp2_with (first | ((with_reducible refine gate_builtin (b := .append) (xs := #[.tmp 41, .tmp 44]) rfl ?_); (try (refine gate_guard (by rfl) ?_; dsimp only)); at_builtin; refine Kd.R_append (Kd.int .i64) (w0 := w) w.heap.size rfl (.tmp 41) (.tmp 44) 30 3 (.int .i64 0) 8 rfl Try.underlying30 info3 rfl (by decide) (by omega) u5 x5_1 (Int.tmod (wrap64 ((wrap64 (x6_1 + (rd l0 x7_1))) + (rd l1 x7_1))) 65536) [.int .i64 (Int.tmod (wrap64 ((wrap64 (x6_1 + (rd l0 x7_1))) + (rd l1 x7_1))) 65536)] (fun _ => True) (fun _ => False) rfl rfl ?aP (fun _ hk => hk.elim) ?aF ?aO ?aB ?aS ?aL ?_; (case aP => exact rfl); (case aB => exact (bw HB.out)); (case aF => exact (fun _ _ => trivial)); (case aO => exact (by (with_reducible repeat (first | apply Kd.R_alloc | apply Kd.R_drewN | apply Kd.R_drew)); exact HO_5.out)); (case aS => exact (below_size (bw HB.out))); (case aL => have := LMc11.out; omega); intro v228 w12 ho hb hg hat; rw [← Ny227.out] at ho; have n0_ := Aside0.mk (hb); have n1_ := Aside0.mk (ho); clear HB; clear HO_5; have HB := n0_; have HO229 := n1_; clear n0_ n1_; clear ho hb hg hat))
          go_roundg kj4
          case measure => have := HK1.out; have := HJ4.out; omega
          case rel => exact ⟨(y227), (wrap64 (Int.tdiv (wrap64 ((wrap64 (x6_1 + (rd l0 x7_1))) + (rd l1 x7_1))) 65536)), (wrap64 (x7_1 + 1)), (by first | rfl | (simp; done) | (simp [*]; done)), (by first | rfl | (simp; done) | (simp [*]; done)), H', ⟨by have := HK1.out; have := HJ4.out; omega⟩, ⟨by (with_reducible repeat (first | apply Kd.R_alloc | apply Kd.R_drewN | apply Kd.R_drew)); exact HO229.out⟩, ⟨bw HB.out⟩⟩
         ·rw [if_neg c11] at H
          exact absurd H (by simp)
        ·rw [if_neg c10] at H
         have c10b0 : decide (x7_1 < (l1.length : Int)) = false := decide_eq_false c10
         clear c10
         by_cases c13 : x5_1.length < 17592186044416
         ·rw [if_pos c13] at H
          have LMc13 := Aside0.mk c13
          clear c13
          obtain ⟨y230, hy230⟩ : ∃ y_ : List Int, y_ = (x5_1 ++ [Int.tmod (wrap64 (x6_1 + (rd l0 x7_1))) 65536]) := ⟨_, rfl⟩
          replace H : (zelligeref03_Add.l0 kj4 l0 l1 y230 (wrap64 (Int.tdiv (wrap64 (x6_1 + (rd l0 x7_1))) 65536)) (wrap64 (x7_1 + 1))) = some r := by first | (rw [hy230]; with_reducible exact H) | (have H2_ := (Option.bind_some _ _).symm.trans H; rw [hy230]; with_reducible exact H2_) | (have H2_ := (Option.bind_some _ _).symm.trans H; with_reducible exact H2_) | with_reducible exact H | (rw [hy230]; exact H) | exact H
          have Ny230 := Aside0.mk hy230
          clear hy230
          have H' := Aside0.mk H
          clear H
          have p225 : 0 ≤ (x7_1 : Int) := of_decide_eq_true (by first | (with_reducible assumption) | assumption)
          have q225 : x7_1 < (l0.length : Int) := of_decide_eq_true (by first | (with_reducible assumption) | assumption)
          obtain ⟨ad225, e225, hx225_0⟩ := Kd.at_int HR0.out x7_1 p225 q225
          cases e225
          replace hx225_0 := (HB.out.cell (World.block_lt_of_cell? w _ hx225_0)).trans hx225_0
          replace p225 := eq_true p225
          replace q225 := eq_true q225
          go_wp2_with (first | ((with_reducible refine gate_builtin (b := .append) (xs := #[.tmp 41, .tmp 44]) rfl ?_); (try (refine gate_guard (by rfl) ?_; dsimp only)); at_builtin; refine Kd.R_append (Kd.int .i64) (w0 := w) w.heap.size rfl (.tmp 41) (.tmp 44) 30 3 (.int .i64 0) 8 rfl Try.underlying30 info3 rfl (by decide) (by omega) u5 x5_1 (Int.tmod (wrap64 (x6_1 + (rd l0 x7_1))) 65536) [.int .i64 (Int.tmod (wrap64 (x6_1 + (rd l0 x7_1))) 65536)] (fun _ => True) (fun _ => False) rfl rfl ?aP (fun _ hk => hk.elim) ?aF ?aO ?aB ?aS ?aL ?_; (case aP => exact rfl); (case aB => exact (bw HB.out)); (case aF => exact (fun _ _ => trivial)); (case aO => exact (by (with_reducible repeat (first | apply Kd.R_alloc | apply Kd.R_drewN | apply Kd.R_drew)); exact HO_5.out)); (case aS => exact (below_size (bw HB.out))); (case aL => have := LMc13.out; omega); intro v231 w14 ho hb hg hat; rw [← Ny230.out] at ho; have n0_ := Aside0.mk (hb); have n1_ := Aside0.mk (ho); clear HB; clear HO_5; have HB := n0_; have HO232 := n1_; clear n0_ n1_; clear ho hb hg hat))
          go_roundg kj4
          case measure => have := HK1.out; have := HJ4.out; omega
          case rel => exact ⟨(y230), (wrap64 (Int.tdiv (wrap64 (x6_1 + (rd l0 x7_1))) 65536)), (wrap64 (x7_1 + 1)), (by first | rfl | (simp; done) | (simp [*]; done)), (by first | rfl | (simp; done) | (simp [*]; done)), H', ⟨by have := HK1.out; have := HJ4.out; omega⟩, ⟨by (with_reducible repeat (first | apply Kd.R_alloc | apply Kd.R_drewN | apply Kd.R_drew)); exact HO232.out⟩, ⟨bw HB.out⟩⟩
         ·rw [if_neg c13] at H
          exact absurd H (by simp)
       ·rw [if_neg c9] at H
        exact absurd H (by simp)
      ·rw [if_neg c8] at H
       have c8b0 : decide (x7_1 < (l0.length : Int)) = false := decide_eq_false c8
       clear c8
       by_cases c15 : x7_1 < (l1.length : Int)
       ·rw [if_pos c15] at H
        have c15b0 : decide (x7_1 < (l1.length : Int)) = true := decide_eq_true c15
        clear c15
        by_cases c16 : 0 ≤ x7_1
        ·rw [if_pos c16] at H
         have c16b0 : decide (0 ≤ x7_1) = true := decide_eq_true c16
         clear c16
         by_cases c17 : x5_1.length < 17592186044416
         ·rw [if_pos c17] at H
          have LMc17 := Aside0.mk c17
          clear c17
          obtain ⟨y234, hy234⟩ : ∃ y_ : List Int, y_ = (x5_1 ++ [Int.tmod (wrap64 (x6_1 + (rd l1 x7_1))) 65536]) := ⟨_, rfl⟩
          replace H : (zelligeref03_Add.l0 kj4 l0 l1 y234 (wrap64 (Int.tdiv (wrap64 (x6_1 + (rd l1 x7_1))) 65536)) (wrap64 (x7_1 + 1))) = some r := by first | (rw [hy234]; with_reducible exact H) | (have H2_ := (Option.bind_some _ _).symm.trans H; rw [hy234]; with_reducible exact H2_) | (have H2_ := (Option.bind_some _ _).symm.trans H; with_reducible exact H2_) | with_reducible exact H | (rw [hy234]; exact H) | exact H
          have Ny234 := Aside0.mk hy234
          clear hy234
          have H' := Aside0.mk H
          clear H
          have p233 : 0 ≤ (x7_1 : Int) := of_decide_eq_true (by first | (with_reducible assumption) | assumption)
          have q233 : x7_1 < (l1.length : Int) := of_decide_eq_true (by first | (with_reducible assumption) | assumption)
          obtain ⟨ad233, e233, hx233_0⟩ := Kd.at_int HR1.out x7_1 p233 q233
          cases e233
          replace hx233_0 := (HB.out.cell (World.block_lt_of_cell? w _ hx233_0)).trans hx233_0
          replace p233 := eq_true p233
          replace q233 := eq_true q233
          go_wp2_with (first | ((with_reducible refine gate_builtin (b := .append) (xs := #[.tmp 41, .tmp 44]) rfl ?_); (try (refine gate_guard (by rfl) ?_; dsimp only)); at_builtin; refine Kd.R_append (Kd.int .i64) (w0 := w) w.heap.size rfl (.tmp 41) (.tmp 44) 30 3 (.int .i64 0) 8 rfl Try.underlying30 info3 rfl (by decide) (by omega) u5 x5_1 (Int.tmod (wrap64 (x6_1 + (rd l1 x7_1))) 65536) [.int .i64 (Int.tmod (wrap64 (x6_1 + (rd l1 x7_1))) 65536)] (fun _ => True) (fun _ => False) rfl rfl ?aP (fun _ hk => hk.elim) ?aF ?aO ?aB ?aS ?aL ?_; (case aP => exact rfl); (case aB => exact (bw HB.out)); (case aF => exact (fun _ _ => trivial)); (case aO => exact (by (with_reducible repeat (first | apply Kd.R_alloc | apply Kd.R_drewN | apply Kd.R_drew)); exact HO_5.out)); (case aS => exact (below_size (bw HB.out))); (case aL => have := LMc17.out; omega); intro v235 w18 ho hb hg hat; rw [← Ny234.out] at ho; have n0_ := Aside0.mk (hb); have n1_ := Aside0.mk (ho); clear HB; clear HO_5; have HB := n0_; have HO236 := n1_; clear n0_ n1_; clear ho hb hg hat))
          go_roundg kj4
          case measure => have := HK1.out; have := HJ4.out; omega
          case rel => exact ⟨(y234), (wrap64 (Int.tdiv (wrap64 (x6_1 + (rd l1 x7_1))) 65536)), (wrap64 (x7_1 + 1)), (by first | rfl | (simp; done) | (simp [*]; done)), (by first | rfl | (simp; done) | (simp [*]; done)), H', ⟨by have := HK1.out; have := HJ4.out; omega⟩, ⟨by (with_reducible repeat (first | apply Kd.R_alloc | apply Kd.R_drewN | apply Kd.R_drew)); exact HO236.out⟩, ⟨bw HB.out⟩⟩
         ·rw [if_neg c17] at H
          exact absurd H (by simp)
        ·rw [if_neg c16] at H
         exact absurd H (by simp)
       ·rw [if_neg c15] at H
        have c15b0 : decide (x7_1 < (l1.length : Int)) = false := decide_eq_false c15
        clear c15
        by_cases c19 : x5_1.length < 17592186044416
        ·rw [if_pos c19] at H
         have LMc19 := Aside0.mk c19
         clear c19
         obtain ⟨y237, hy237⟩ : ∃ y_ : List Int, y_ = (x5_1 ++ [Int.tmod x6_1 65536]) := ⟨_, rfl⟩
         replace H : (zelligeref03_Add.l0 kj4 l0 l1 y237 (wrap64 (Int.tdiv x6_1 65536)) (wrap64 (x7_1 + 1))) = some r := by first | (rw [hy237]; with_reducible exact H) | (have H2_ := (Option.bind_some _ _).symm.trans H; rw [hy237]; with_reducible exact H2_) | (have H2_ := (Option.bind_some _ _).symm.trans H; with_reducible exact H2_) | with_reducible exact H | (rw [hy237]; exact H) | exact H
         have Ny237 := Aside0.mk hy237
         clear hy237
         have H' := Aside0.mk H
         clear H
         go_wp2_with (first | ((with_reducible refine gate_builtin (b := .append) (xs := #[.tmp 41, .tmp 44]) rfl ?_); (try (refine gate_guard (by rfl) ?_; dsimp only)); at_builtin; refine Kd.R_append (Kd.int .i64) (w0 := w) w.heap.size rfl (.tmp 41) (.tmp 44) 30 3 (.int .i64 0) 8 rfl Try.underlying30 info3 rfl (by decide) (by omega) u5 x5_1 (Int.tmod x6_1 65536) [.int .i64 (Int.tmod x6_1 65536)] (fun _ => True) (fun _ => False) rfl rfl ?aP (fun _ hk => hk.elim) ?aF ?aO ?aB ?aS ?aL ?_; (case aP => exact rfl); (case aB => exact (bw HB.out)); (case aF => exact (fun _ _ => trivial)); (case aO => exact (by (with_reducible repeat (first | apply Kd.R_alloc | apply Kd.R_drewN | apply Kd.R_drew)); exact HO_5.out)); (case aS => exact (below_size (bw HB.out))); (case aL => have := LMc19.out; omega); intro v238 w20 ho hb hg hat; rw [← Ny237.out] at ho; have n0_ := Aside0.mk (hb); have n1_ := Aside0.mk (ho); clear HB; clear HO_5; have HB := n0_; have HO239 := n1_; clear n0_ n1_; clear ho hb hg hat))
         go_roundg kj4
         case measure => have := HK1.out; have := HJ4.out; omega
         case rel => exact ⟨(y237), (wrap64 (Int.tdiv x6_1 65536)), (wrap64 (x7_1 + 1)), (by first | rfl | (simp; done) | (simp [*]; done)), (by first | rfl | (simp; done) | (simp [*]; done)), H', ⟨by have := HK1.out; have := HJ4.out; omega⟩, ⟨by (with_reducible repeat (first | apply Kd.R_alloc | apply Kd.R_drewN | apply Kd.R_drew)); exact HO239.out⟩, ⟨bw HB.out⟩⟩
        ·rw [if_neg c19] at H
         exact absurd H (by simp)
     ·replace c7 := Bool.eq_false_iff.mpr c7
      subst c7
      have H1 : (if x5_1.length < 17592186044416 then ((zelligeref03_Trim.f kj4 (x5_1 ++ [x6_1])).bind fun t222 => (some t222)) else (none)) = some r := by rw [if_neg (show ¬ (false = true) by decide)] at H; exact H
      clear H
      have H := H1
      clear H1
      by_cases c21 : x5_1.length < 17592186044416
      ·rw [if_pos c21] at H
       have LMc21 := Aside0.mk c21
       clear c21
       obtain ⟨y219, hy219⟩ : ∃ y_ : List Int, y_ = (x5_1 ++ [x6_1]) := ⟨_, rfl⟩
       replace H : ((zelligeref03_Trim.f kj4 y219).bind fun t222 => (some t222)) = some r := by first | (rw [hy219]; with_reducible exact H) | (have H2_ := (Option.bind_some _ _).symm.trans H; rw [hy219]; with_reducible exact H2_) | (have H2_ := (Option.bind_some _ _).symm.trans H; with_reducible exact H2_) | with_reducible exact H | (rw [hy219]; exact H) | exact H
       have Ny219 := Aside0.mk hy219
       clear hy219
       replace H := Option.bind_eq_some_iff.mp H
       obtain ⟨t222, A220, H⟩ := H
       replace H : (some t222) = some r := H
       have A22 := Aside0.mk A220
       clear A220
       obtain rfl := Option.some.inj H
       go_wp2_with (first | ((with_reducible refine gate_builtin (b := .append) (xs := #[.tmp 48, .tmp 50]) rfl ?_); (try (refine gate_guard (by rfl) ?_; dsimp only)); at_builtin; refine Kd.R_append (Kd.int .i64) (w0 := w) w.heap.size rfl (.tmp 48) (.tmp 50) 30 3 (.int .i64 0) 8 rfl Try.underlying30 info3 rfl (by decide) (by omega) u5 x5_1 x6_1 [.int .i64 x6_1] (fun _ => True) (fun _ => False) rfl rfl ?aP (fun _ hk => hk.elim) ?aF ?aO ?aB ?aS ?aL ?_; (case aP => exact rfl); (case aB => exact (bw HB.out)); (case aF => exact (fun _ _ => trivial)); (case aO => exact (by (with_reducible repeat (first | apply Kd.R_alloc | apply Kd.R_drewN | apply Kd.R_drew)); exact HO_5.out)); (case aS => exact (below_size (bw HB.out))); (case aL => have := LMc21.out; omega); intro v220 w23 ho hb hg hat; rw [← Ny219.out] at ho; have n0_ := Aside0.mk (hb); have n1_ := Aside0.mk (ho); clear HB; clear HO_5; have HB := n0_; have HO221 := n1_; clear n0_ n1_; clear ho hb hg hat; obtain ⟨Ao24, co24, eo24⟩ := Kd.R_slice HO221.out; subst eo24) | ((with_reducible refine gate_callee (f := 64) rfl ?_); refine goesL_ (some 52) rfl rfl Try.func64 (by kernel_rfl) rfl #[.slice Ao24 y219.length co24] rfl (by (try simp only [List.map_toArray, List.map_cons, List.map_nil]); first | done | rfl | (simp only [List.length_drop, List.length_take]; rfl)) ?_; (with_reducible refine (zelligeref03_Trim.calls kj4 (fun k_ => some k_ = (.slice Ao24 y219.length co24 : Value).ownBlock) (.slice Ao24 y219.length co24) y219 t222 w _ ?side1 ?side2 A22.out).mono ?_); (case side1 => repeat (first | (with_reducible first | exact HB.out | apply below_alloc | apply pw_below_drewN | apply below_drew1) | exact HB.out)); (case side2 => exact Kd.R_tight rfl HO221.out); rintro e w25 ⟨v223, rfl, ho0, hb, hkp⟩; refine ⟨_, rfl, ?_⟩; have n0_ := Aside0.mk (Kd.R_mono (ok' := fun k_ => True) ho0 (fun k_ hk_ => trivial)); have n1_ := Aside0.mk (hb); clear HB; clear HO221; have HO224 := n0_; have HB := n1_; clear n0_ n1_; (try clear hb); (try clear hkp); (try clear ho0)))
       go_ret
       exact ⟨_, by first | rfl | (simp [*, errW_none, errW_some] <;> rfl), by (with_reducible repeat (first | apply Kd.R_alloc | apply Kd.R_drewN | apply Kd.R_drew)); exact HO224.out, bw HB.out⟩
      ·rw [if_neg c21] at H
       exact absurd H (by simp)
end Go.Proofs.Ytmeckkckjikjiaa.F
end
