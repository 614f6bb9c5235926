/- PredWhere: own texts in one (part 3 of 6): contracts of the functions that the law reaches. -/
import Derived.Test.YtmeckkckjikjiaaBPredWhereb

section
namespace Go.Proofs.Ytmeckkckjikjiaa.F
open Go.RowKit Go.Proofs.YtmeckkckjikjiaaW.PrintWords Go.Proofs.YtmeckkckjikjiaaW.PrintLast Go.Proofs.YtmeckkckjikjiaaW.PrintMore
attribute [local go_sem] max2_int min2_int max_two min_two max_three min_three max_four min_four
set_option linter.unusedVariables false
set_option linter.unusedSimpArgs false
def pred_InCircle.f (k : Nat) (a0_0 : Int) (a0_1 : Int) (a1_0 : Int) (a1_1 : Int) (a2_0 : Int) (a2_1 : Int) (a3_0 : Int) (a3_1 : Int) : Option (Int) := (pred_can.f k (([(⟨a0_0, a0_1⟩ : S23), (⟨a1_0, a1_1⟩ : S23), (⟨a2_0, a2_1⟩ : S23), (⟨a3_0, a3_1⟩ : S23)] : List (S23)))).bind fun t164 => (if t164 = true then ((pred_way.f a3_0 a3_1 a0_0 a0_1).bind fun bt165 => ((pred_way.f a3_0 a3_1 a1_0 a1_1).bind fun bt167 => ((pred_way.f a3_0 a3_1 a2_0 a2_1).bind fun bt169 => ((pred_square.f bt165.1 bt165.2).bind fun bt174 => ((pred_across.f bt167.1 bt167.2 bt169.1 bt169.2).bind fun bt176 => ((quad_Mul.f bt174.1 bt174.2 bt176.1 bt176.2).bind fun bt178 => ((pred_square.f bt167.1 bt167.2).bind fun bt183 => ((pred_across.f bt169.1 bt169.2 bt165.1 bt165.2).bind fun bt185 => ((quad_Mul.f bt183.1 bt183.2 bt185.1 bt185.2).bind fun bt187 => ((quad_Add.f bt178.1 bt178.2.1 bt178.2.2.1 bt178.2.2.2 bt187.1 bt187.2.1 bt187.2.2.1 bt187.2.2.2).bind fun bt191 => ((pred_square.f bt169.1 bt169.2).bind fun bt195 => ((pred_across.f bt165.1 bt165.2 bt167.1 bt167.2).bind fun bt197 => ((quad_Mul.f bt195.1 bt195.2 bt197.1 bt197.2).bind fun bt199 => ((quad_Add.f bt191.1 bt191.2.1 bt191.2.2.1 bt191.2.2.2 bt199.1 bt199.2.1 bt199.2.2.1 bt199.2.2.2).bind fun bt203 => ((quad_Sign.f bt203.1 bt203.2.1 bt203.2.2.1 bt203.2.2.2).bind fun t207 => (some t207)))))))))))))))) else (some 0))
theorem pred_InCircle.mono : ∀ a0 a1 a2 a3 a4 a5 a6 a7 k, LeO (pred_InCircle.f k a0 a1 a2 a3 a4 a5 a6 a7) (pred_InCircle.f (k + 1) a0 a1 a2 a3 a4 a5 a6 a7) := by
 intro a0 a1 a2 a3 a4 a5 a6 a7 k
 unfold pred_InCircle.f
 repeat' first
   | (with_reducible exact pred_can.mono _ _)
   | (with_reducible exact LeO.refl _)
   | (with_reducible exact LeO.none _)
   | (with_reducible refine LeO.ite ?_ ?_)
   | (with_reducible refine LeO.bind ?_ (fun _ => ?_))
   | exact pred_can.mono _ _
   | exact LeO.none _
   | refine LeO.ite ?_ ?_
   | refine LeO.bind ?_ (fun _ => ?_)
def pred_InCircle.T3 : Bool × List (List Nat × List Nat) := (true, [([], []), ([], []), ([0, 1], [0, 1]), ([], []), ([], []), ([3, 4, 2], [3, 4]), ([], []), ([], []), ([6, 7, 5], [6, 7]), ([], []), ([], []), ([], []), ([9, 2, 8, 0, 1, 2, 9, 10, 11], [2, 9]), ([10, 5, 12, 0, 1, 2, 3, 4, 5, 9, 10, 11, 12], [5, 10]), ([11, 8, 13, 0, 1, 2, 3, 4, 5, 6, 7, 8, 9, 10, 11, 12, 13], [8, 11])])
def pred_InCircle.B3 : List Nat := [0, 0, 3, 0, 0, 31, 0, 0, 255, 0, 0, 0, 4095, 8191, 16383]
theorem pred_InCircle.tab3 : rtab .any (opsOf Try.f8 3) = pred_InCircle.T3 := by kernel_rfl
theorem pred_InCircle.bits3 : waitsOk pred_InCircle.T3.2 pred_InCircle.B3 = true := by kernel_rfl
def pred_InCircle.T4 : Bool × List (List Nat × List Nat) := (true, [([], []), ([0], [0]), ([], []), ([], []), ([2, 3, 1], [2, 3]), ([1, 4, 4], [1, 4]), ([], []), ([6, 5, 5, 0, 1, 2, 3, 4, 5, 6], [5, 6])])
def pred_InCircle.B4 : List Nat := [0, 1, 0, 0, 15, 31, 0, 127]
theorem pred_InCircle.tab4 : rtab .any (opsOf Try.f8 4) = pred_InCircle.T4 := by kernel_rfl
theorem pred_InCircle.bits4 : waitsOk pred_InCircle.T4.2 pred_InCircle.B4 = true := by kernel_rfl
def pred_InCircle.T5 : Bool × List (List Nat × List Nat) := (true, [([], []), ([], []), ([1], [1]), ([], []), ([], []), ([3, 4, 2], [3, 4]), ([2, 5, 5], [2, 5]), ([0, 6, 6], [0, 6]), ([7, 7, 0, 1, 2, 3, 4, 5, 6, 7], [7])])
def pred_InCircle.B5 : List Nat := [0, 0, 2, 0, 0, 30, 62, 127, 255]
theorem pred_InCircle.tab5 : rtab .any (opsOf Try.f8 5) = pred_InCircle.T5 := by kernel_rfl
theorem pred_InCircle.bits5 : waitsOk pred_InCircle.T5.2 pred_InCircle.B5 = true := by kernel_rfl
def pred_InCircle.T6 : Bool × List (List Nat × List Nat) := (true, [([], []), ([], []), ([1], [1]), ([], []), ([], []), ([3, 4, 2], [3, 4]), ([2, 5, 5], [2, 5]), ([0, 6, 6], [0, 6]), ([7, 7, 0, 1, 2, 3, 4, 5, 6, 7], [7])])
def pred_InCircle.B6 : List Nat := [0, 0, 2, 0, 0, 30, 62, 127, 255]
theorem pred_InCircle.tab6 : rtab .any (opsOf Try.f8 6) = pred_InCircle.T6 := by kernel_rfl
theorem pred_InCircle.bits6 : waitsOk pred_InCircle.T6.2 pred_InCircle.B6 = true := by kernel_rfl
set_option maxHeartbeats 8000000 in
set_option maxRecDepth 100000 in
theorem pred_InCircle.calls (k : Nat) (a0_0 : Int) (a0_1 : Int) (a1_0 : Int) (a1_1 : Int) (a2_0 : Int) (a2_1 : Int) (a3_0 : Int) (a3_1 : Int) (r : Int) (w : World) (h : pred_InCircle.f k a0_0 a0_1 a1_0 a1_1 a2_0 a2_1 a3_0 a3_1 = some r) :
  Calls Try.prog 8 #[.agg #[.int .i64 a0_0, .int .i64 a0_1], .agg #[.int .i64 a1_0, .int .i64 a1_1], .agg #[.int .i64 a2_0, .int .i64 a2_1], .agg #[.int .i64 a3_0, .int .i64 a3_1]] w fun e w' => e = .returned (.int .i64 r) ∧ Below w.heap.size w w' := by
 have hu23 := Try.underlying23
 have hu50 := Try.underlying50
 have HB := Aside0.mk (Below.refl w.heap.size w)
 have H : ((pred_can.f k (([(⟨a0_0, a0_1⟩ : S23), (⟨a1_0, a1_1⟩ : S23), (⟨a2_0, a2_1⟩ : S23), (⟨a3_0, a3_1⟩ : S23)] : List (S23)))).bind fun t164 => (if t164 = true then ((pred_way.f a3_0 a3_1 a0_0 a0_1).bind fun bt165 => ((pred_way.f a3_0 a3_1 a1_0 a1_1).bind fun bt167 => ((pred_way.f a3_0 a3_1 a2_0 a2_1).bind fun bt169 => ((pred_square.f bt165.1 bt165.2).bind fun bt174 => ((pred_across.f bt167.1 bt167.2 bt169.1 bt169.2).bind fun bt176 => ((quad_Mul.f bt174.1 bt174.2 bt176.1 bt176.2).bind fun bt178 => ((pred_square.f bt167.1 bt167.2).bind fun bt183 => ((pred_across.f bt169.1 bt169.2 bt165.1 bt165.2).bind fun bt185 => ((quad_Mul.f bt183.1 bt183.2 bt185.1 bt185.2).bind fun bt187 => ((quad_Add.f bt178.1 bt178.2.1 bt178.2.2.1 bt178.2.2.2 bt187.1 bt187.2.1 bt187.2.2.1 bt187.2.2.2).bind fun bt191 => ((pred_square.f bt169.1 bt169.2).bind fun bt195 => ((pred_across.f bt165.1 bt165.2 bt167.1 bt167.2).bind fun bt197 => ((quad_Mul.f bt195.1 bt195.2 bt197.1 bt197.2).bind fun bt199 => ((quad_Add.f bt191.1 bt191.2.1 bt191.2.2.1 bt191.2.2.2 bt199.1 bt199.2.1 bt199.2.2.1 bt199.2.2.2).bind fun bt203 => ((quad_Sign.f bt203.1 bt203.2.1 bt203.2.2.1 bt203.2.2.2).bind fun t207 => (some t207)))))))))))))))) else (some 0))) = some r := h
 clear h
 obtain ⟨y161, hy161⟩ : ∃ y_ : List (S23), y_ = (([(⟨a0_0, a0_1⟩ : S23), (⟨a1_0, a1_1⟩ : S23), (⟨a2_0, a2_1⟩ : S23), (⟨a3_0, a3_1⟩ : S23)] : List (S23))) := ⟨_, rfl⟩
 replace H : ((pred_can.f k y161).bind fun t164 => (if t164 = true then ((pred_way.f a3_0 a3_1 a0_0 a0_1).bind fun bt165 => ((pred_way.f a3_0 a3_1 a1_0 a1_1).bind fun bt167 => ((pred_way.f a3_0 a3_1 a2_0 a2_1).bind fun bt169 => ((pred_square.f bt165.1 bt165.2).bind fun bt174 => ((pred_across.f bt167.1 bt167.2 bt169.1 bt169.2).bind fun bt176 => ((quad_Mul.f bt174.1 bt174.2 bt176.1 bt176.2).bind fun bt178 => ((pred_square.f bt167.1 bt167.2).bind fun bt183 => ((pred_across.f bt169.1 bt169.2 bt165.1 bt165.2).bind fun bt185 => ((quad_Mul.f bt183.1 bt183.2 bt185.1 bt185.2).bind fun bt187 => ((quad_Add.f bt178.1 bt178.2.1 bt178.2.2.1 bt178.2.2.2 bt187.1 bt187.2.1 bt187.2.2.1 bt187.2.2.2).bind fun bt191 => ((pred_square.f bt169.1 bt169.2).bind fun bt195 => ((pred_across.f bt165.1 bt165.2 bt167.1 bt167.2).bind fun bt197 => ((quad_Mul.f bt195.1 bt195.2 bt197.1 bt197.2).bind fun bt199 => ((quad_Add.f bt191.1 bt191.2.1 bt191.2.2.1 bt191.2.2.2 bt199.1 bt199.2.1 bt199.2.2.1 bt199.2.2.2).bind fun bt203 => ((quad_Sign.f bt203.1 bt203.2.1 bt203.2.2.1 bt203.2.2.2).bind fun t207 => (some t207)))))))))))))))) else (some 0))) = some r := by first | (rw [hy161]; with_reducible exact H) | (have H2_ := (Option.bind_some _ _).symm.trans H; rw [hy161]; with_reducible exact H2_) | (have H2_ := (Option.bind_some _ _).symm.trans H; with_reducible exact H2_) | with_reducible exact H | (rw [hy161]; exact H) | exact H
 have Ny161 := Aside0.mk hy161
 clear hy161
 replace H := Option.bind_eq_some_iff.mp H
 obtain ⟨t164, A50, H⟩ := H
 replace H : (if t164 = true then ((pred_way.f a3_0 a3_1 a0_0 a0_1).bind fun bt165 => ((pred_way.f a3_0 a3_1 a1_0 a1_1).bind fun bt167 => ((pred_way.f a3_0 a3_1 a2_0 a2_1).bind fun bt169 => ((pred_square.f bt165.1 bt165.2).bind fun bt174 => ((pred_across.f bt167.1 bt167.2 bt169.1 bt169.2).bind fun bt176 => ((quad_Mul.f bt174.1 bt174.2 bt176.1 bt176.2).bind fun bt178 => ((pred_square.f bt167.1 bt167.2).bind fun bt183 => ((pred_across.f bt169.1 bt169.2 bt165.1 bt165.2).bind fun bt185 => ((quad_Mul.f bt183.1 bt183.2 bt185.1 bt185.2).bind fun bt187 => ((quad_Add.f bt178.1 bt178.2.1 bt178.2.2.1 bt178.2.2.2 bt187.1 bt187.2.1 bt187.2.2.1 bt187.2.2.2).bind fun bt191 => ((pred_square.f bt169.1 bt169.2).bind fun bt195 => ((pred_across.f bt165.1 bt165.2 bt167.1 bt167.2).bind fun bt197 => ((quad_Mul.f bt195.1 bt195.2 bt197.1 bt197.2).bind fun bt199 => ((quad_Add.f bt191.1 bt191.2.1 bt191.2.2.1 bt191.2.2.2 bt199.1 bt199.2.1 bt199.2.2.1 bt199.2.2.2).bind fun bt203 => ((quad_Sign.f bt203.1 bt203.2.1 bt203.2.2.1 bt203.2.2.2).bind fun t207 => (some t207)))))))))))))))) else (some 0)) = some r := H
 have A5 := Aside0.mk A50
 clear A50
 by_cases c6 : t164 = true
 ·subst c6
  have H1 : ((pred_way.f a3_0 a3_1 a0_0 a0_1).bind fun bt165 => ((pred_way.f a3_0 a3_1 a1_0 a1_1).bind fun bt167 => ((pred_way.f a3_0 a3_1 a2_0 a2_1).bind fun bt169 => ((pred_square.f bt165.1 bt165.2).bind fun bt174 => ((pred_across.f bt167.1 bt167.2 bt169.1 bt169.2).bind fun bt176 => ((quad_Mul.f bt174.1 bt174.2 bt176.1 bt176.2).bind fun bt178 => ((pred_square.f bt167.1 bt167.2).bind fun bt183 => ((pred_across.f bt169.1 bt169.2 bt165.1 bt165.2).bind fun bt185 => ((quad_Mul.f bt183.1 bt183.2 bt185.1 bt185.2).bind fun bt187 => ((quad_Add.f bt178.1 bt178.2.1 bt178.2.2.1 bt178.2.2.2 bt187.1 bt187.2.1 bt187.2.2.1 bt187.2.2.2).bind fun bt191 => ((pred_square.f bt169.1 bt169.2).bind fun bt195 => ((pred_across.f bt165.1 bt165.2 bt167.1 bt167.2).bind fun bt197 => ((quad_Mul.f bt195.1 bt195.2 bt197.1 bt197.2).bind fun bt199 => ((quad_Add.f bt191.1 bt191.2.1 bt191.2.2.1 bt191.2.2.2 bt199.1 bt199.2.1 bt199.2.2.1 bt199.2.2.2).bind fun bt203 => ((quad_Sign.f bt203.1 bt203.2.1 bt203.2.2.1 bt203.2.2.2).bind fun t207 => (some t207)))))))))))))))) = some r := by rw [if_pos rfl] at H; exact H
  clear H
  have H := H1
  clear H1
  replace H := Option.bind_eq_some_iff.mp H
  obtain ⟨⟨t165, t166⟩, A70, H⟩ := H
  replace H : ((pred_way.f a3_0 a3_1 a1_0 a1_1).bind fun bt167 => ((pred_way.f a3_0 a3_1 a2_0 a2_1).bind fun bt169 => ((pred_square.f t165 t166).bind fun bt174 => ((pred_across.f bt167.1 bt167.2 bt169.1 bt169.2).bind fun bt176 => ((quad_Mul.f bt174.1 bt174.2 bt176.1 bt176.2).bind fun bt178 => ((pred_square.f bt167.1 bt167.2).bind fun bt183 => ((pred_across.f bt169.1 bt169.2 t165 t166).bind fun bt185 => ((quad_Mul.f bt183.1 bt183.2 bt185.1 bt185.2).bind fun bt187 => ((quad_Add.f bt178.1 bt178.2.1 bt178.2.2.1 bt178.2.2.2 bt187.1 bt187.2.1 bt187.2.2.1 bt187.2.2.2).bind fun bt191 => ((pred_square.f bt169.1 bt169.2).bind fun bt195 => ((pred_across.f t165 t166 bt167.1 bt167.2).bind fun bt197 => ((quad_Mul.f bt195.1 bt195.2 bt197.1 bt197.2).bind fun bt199 => ((quad_Add.f bt191.1 bt191.2.1 bt191.2.2.1 bt191.2.2.2 bt199.1 bt199.2.1 bt199.2.2.1 bt199.2.2.2).bind fun bt203 => ((quad_Sign.f bt203.1 bt203.2.1 bt203.2.2.1 bt203.2.2.2).bind fun t207 => (some t207))))))))))))))) = some r := H
  have A7 := Aside0.mk A70
  clear A70
  replace H := Option.bind_eq_some_iff.mp H
  obtain ⟨⟨t167, t168⟩, A80, H⟩ := H
  replace H : ((pred_way.f a3_0 a3_1 a2_0 a2_1).bind fun bt169 => ((pred_square.f t165 t166).bind fun bt174 => ((pred_across.f t167 t168 bt169.1 bt169.2).bind fun bt176 => ((quad_Mul.f bt174.1 bt174.2 bt176.1 bt176.2).bind fun bt178 => ((pred_square.f t167 t168).bind fun bt183 => ((pred_across.f bt169.1 bt169.2 t165 t166).bind fun bt185 => ((quad_Mul.f bt183.1 bt183.2 bt185.1 bt185.2).bind fun bt187 => ((quad_Add.f bt178.1 bt178.2.1 bt178.2.2.1 bt178.2.2.2 bt187.1 bt187.2.1 bt187.2.2.1 bt187.2.2.2).bind fun bt191 => ((pred_square.f bt169.1 bt169.2).bind fun bt195 => ((pred_across.f t165 t166 t167 t168).bind fun bt197 => ((quad_Mul.f bt195.1 bt195.2 bt197.1 bt197.2).bind fun bt199 => ((quad_Add.f bt191.1 bt191.2.1 bt191.2.2.1 bt191.2.2.2 bt199.1 bt199.2.1 bt199.2.2.1 bt199.2.2.2).bind fun bt203 => ((quad_Sign.f bt203.1 bt203.2.1 bt203.2.2.1 bt203.2.2.2).bind fun t207 => (some t207)))))))))))))) = some r := H
  have A8 := Aside0.mk A80
  clear A80
  replace H := Option.bind_eq_some_iff.mp H
  obtain ⟨⟨t169, t170⟩, A90, H⟩ := H
  replace H : ((pred_square.f t165 t166).bind fun bt174 => ((pred_across.f t167 t168 t169 t170).bind fun bt176 => ((quad_Mul.f bt174.1 bt174.2 bt176.1 bt176.2).bind fun bt178 => ((pred_square.f t167 t168).bind fun bt183 => ((pred_across.f t169 t170 t165 t166).bind fun bt185 => ((quad_Mul.f bt183.1 bt183.2 bt185.1 bt185.2).bind fun bt187 => ((quad_Add.f bt178.1 bt178.2.1 bt178.2.2.1 bt178.2.2.2 bt187.1 bt187.2.1 bt187.2.2.1 bt187.2.2.2).bind fun bt191 => ((pred_square.f t169 t170).bind fun bt195 => ((pred_across.f t165 t166 t167 t168).bind fun bt197 => ((quad_Mul.f bt195.1 bt195.2 bt197.1 bt197.2).bind fun bt199 => ((quad_Add.f bt191.1 bt191.2.1 bt191.2.2.1 bt191.2.2.2 bt199.1 bt199.2.1 bt199.2.2.1 bt199.2.2.2).bind fun bt203 => ((quad_Sign.f bt203.1 bt203.2.1 bt203.2.2.1 bt203.2.2.2).bind fun t207 => (some t207))))))))))))) = some r := H
  have A9 := Aside0.mk A90
  clear A90
  replace H := Option.bind_eq_some_iff.mp H
  obtain ⟨⟨t174, t175⟩, A100, H⟩ := H
  replace H : ((pred_across.f t167 t168 t169 t170).bind fun bt176 => ((quad_Mul.f t174 t175 bt176.1 bt176.2).bind fun bt178 => ((pred_square.f t167 t168).bind fun bt183 => ((pred_across.f t169 t170 t165 t166).bind fun bt185 => ((quad_Mul.f bt183.1 bt183.2 bt185.1 bt185.2).bind fun bt187 => ((quad_Add.f bt178.1 bt178.2.1 bt178.2.2.1 bt178.2.2.2 bt187.1 bt187.2.1 bt187.2.2.1 bt187.2.2.2).bind fun bt191 => ((pred_square.f t169 t170).bind fun bt195 => ((pred_across.f t165 t166 t167 t168).bind fun bt197 => ((quad_Mul.f bt195.1 bt195.2 bt197.1 bt197.2).bind fun bt199 => ((quad_Add.f bt191.1 bt191.2.1 bt191.2.2.1 bt191.2.2.2 bt199.1 bt199.2.1 bt199.2.2.1 bt199.2.2.2).bind fun bt203 => ((quad_Sign.f bt203.1 bt203.2.1 bt203.2.2.1 bt203.2.2.2).bind fun t207 => (some t207)))))))))))) = some r := H
  have A10 := Aside0.mk A100
  clear A100
  replace H := Option.bind_eq_some_iff.mp H
  obtain ⟨⟨t176, t177⟩, A110, H⟩ := H
  replace H : ((quad_Mul.f t174 t175 t176 t177).bind fun bt178 => ((pred_square.f t167 t168).bind fun bt183 => ((pred_across.f t169 t170 t165 t166).bind fun bt185 => ((quad_Mul.f bt183.1 bt183.2 bt185.1 bt185.2).bind fun bt187 => ((quad_Add.f bt178.1 bt178.2.1 bt178.2.2.1 bt178.2.2.2 bt187.1 bt187.2.1 bt187.2.2.1 bt187.2.2.2).bind fun bt191 => ((pred_square.f t169 t170).bind fun bt195 => ((pred_across.f t165 t166 t167 t168).bind fun bt197 => ((quad_Mul.f bt195.1 bt195.2 bt197.1 bt197.2).bind fun bt199 => ((quad_Add.f bt191.1 bt191.2.1 bt191.2.2.1 bt191.2.2.2 bt199.1 bt199.2.1 bt199.2.2.1 bt199.2.2.2).bind fun bt203 => ((quad_Sign.f bt203.1 bt203.2.1 bt203.2.2.1 bt203.2.2.2).bind fun t207 => (some t207))))))))))) = some r := H
  have A11 := Aside0.mk A110
  clear A110
  replace H := Option.bind_eq_some_iff.mp H
  obtain ⟨⟨t178, t179, t180, t181⟩, A120, H⟩ := H
  replace H : ((pred_square.f t167 t168).bind fun bt183 => ((pred_across.f t169 t170 t165 t166).bind fun bt185 => ((quad_Mul.f bt183.1 bt183.2 bt185.1 bt185.2).bind fun bt187 => ((quad_Add.f t178 t179 t180 t181 bt187.1 bt187.2.1 bt187.2.2.1 bt187.2.2.2).bind fun bt191 => ((pred_square.f t169 t170).bind fun bt195 => ((pred_across.f t165 t166 t167 t168).bind fun bt197 => ((quad_Mul.f bt195.1 bt195.2 bt197.1 bt197.2).bind fun bt199 => ((quad_Add.f bt191.1 bt191.2.1 bt191.2.2.1 bt191.2.2.2 bt199.1 bt199.2.1 bt199.2.2.1 bt199.2.2.2).bind fun bt203 => ((quad_Sign.f bt203.1 bt203.2.1 bt203.2.2.1 bt203.2.2.2).bind fun t207 => (some t207)))))))))) = some r := H
  have A12 := Aside0.mk A120
  clear A120
  replace H := Option.bind_eq_some_iff.mp H
  obtain ⟨⟨t183, t184⟩, A130, H⟩ := H
  replace H : ((pred_across.f t169 t170 t165 t166).bind fun bt185 => ((quad_Mul.f t183 t184 bt185.1 bt185.2).bind fun bt187 => ((quad_Add.f t178 t179 t180 t181 bt187.1 bt187.2.1 bt187.2.2.1 bt187.2.2.2).bind fun bt191 => ((pred_square.f t169 t170).bind fun bt195 => ((pred_across.f t165 t166 t167 t168).bind fun bt197 => ((quad_Mul.f bt195.1 bt195.2 bt197.1 bt197.2).bind fun bt199 => ((quad_Add.f bt191.1 bt191.2.1 bt191.2.2.1 bt191.2.2.2 bt199.1 bt199.2.1 bt199.2.2.1 bt199.2.2.2).bind fun bt203 => ((quad_Sign.f bt203.1 bt203.2.1 bt203.2.2.1 bt203.2.2.2).bind fun t207 => (some t207))))))))) = some r := H
  have A13 := Aside0.mk A130
  clear A130
  replace H := Option.bind_eq_some_iff.mp H
  obtain ⟨⟨t185, t186⟩, A140, H⟩ := H
  replace H : ((quad_Mul.f t183 t184 t185 t186).bind fun bt187 => ((quad_Add.f t178 t179 t180 t181 bt187.1 bt187.2.1 bt187.2.2.1 bt187.2.2.2).bind fun bt191 => ((pred_square.f t169 t170).bind fun bt195 => ((pred_across.f t165 t166 t167 t168).bind fun bt197 => ((quad_Mul.f bt195.1 bt195.2 bt197.1 bt197.2).bind fun bt199 => ((quad_Add.f bt191.1 bt191.2.1 bt191.2.2.1 bt191.2.2.2 bt199.1 bt199.2.1 bt199.2.2.1 bt199.2.2.2).bind fun bt203 => ((quad_Sign.f bt203.1 bt203.2.1 bt203.2.2.1 bt203.2.2.2).bind fun t207 => (some t207)))))))) = some r := H
  have A14 := Aside0.mk A140
  clear A140
  replace H := Option.bind_eq_some_iff.mp H
  obtain ⟨⟨t187, t188, t189, t190⟩, A150, H⟩ := H
  replace H : ((quad_Add.f t178 t179 t180 t181 t187 t188 t189 t190).bind fun bt191 => ((pred_square.f t169 t170).bind fun bt195 => ((pred_across.f t165 t166 t167 t168).bind fun bt197 => ((quad_Mul.f bt195.1 bt195.2 bt197.1 bt197.2).bind fun bt199 => ((quad_Add.f bt191.1 bt191.2.1 bt191.2.2.1 bt191.2.2.2 bt199.1 bt199.2.1 bt199.2.2.1 bt199.2.2.2).bind fun bt203 => ((quad_Sign.f bt203.1 bt203.2.1 bt203.2.2.1 bt203.2.2.2).bind fun t207 => (some t207))))))) = some r := H
  have A15 := Aside0.mk A150
  clear A150
  replace H := Option.bind_eq_some_iff.mp H
  obtain ⟨⟨t191, t192, t193, t194⟩, A160, H⟩ := H
  replace H : ((pred_square.f t169 t170).bind fun bt195 => ((pred_across.f t165 t166 t167 t168).bind fun bt197 => ((quad_Mul.f bt195.1 bt195.2 bt197.1 bt197.2).bind fun bt199 => ((quad_Add.f t191 t192 t193 t194 bt199.1 bt199.2.1 bt199.2.2.1 bt199.2.2.2).bind fun bt203 => ((quad_Sign.f bt203.1 bt203.2.1 bt203.2.2.1 bt203.2.2.2).bind fun t207 => (some t207)))))) = some r := H
  have A16 := Aside0.mk A160
  clear A160
  replace H := Option.bind_eq_some_iff.mp H
  obtain ⟨⟨t195, t196⟩, A170, H⟩ := H
  replace H : ((pred_across.f t165 t166 t167 t168).bind fun bt197 => ((quad_Mul.f t195 t196 bt197.1 bt197.2).bind fun bt199 => ((quad_Add.f t191 t192 t193 t194 bt199.1 bt199.2.1 bt199.2.2.1 bt199.2.2.2).bind fun bt203 => ((quad_Sign.f bt203.1 bt203.2.1 bt203.2.2.1 bt203.2.2.2).bind fun t207 => (some t207))))) = some r := H
  have A17 := Aside0.mk A170
  clear A170
  replace H := Option.bind_eq_some_iff.mp H
  obtain ⟨⟨t197, t198⟩, A180, H⟩ := H
  replace H : ((quad_Mul.f t195 t196 t197 t198).bind fun bt199 => ((quad_Add.f t191 t192 t193 t194 bt199.1 bt199.2.1 bt199.2.2.1 bt199.2.2.2).bind fun bt203 => ((quad_Sign.f bt203.1 bt203.2.1 bt203.2.2.1 bt203.2.2.2).bind fun t207 => (some t207)))) = some r := H
  have A18 := Aside0.mk A180
  clear A180
  replace H := Option.bind_eq_some_iff.mp H
  obtain ⟨⟨t199, t200, t201, t202⟩, A190, H⟩ := H
  replace H : ((quad_Add.f t191 t192 t193 t194 t199 t200 t201 t202).bind fun bt203 => ((quad_Sign.f bt203.1 bt203.2.1 bt203.2.2.1 bt203.2.2.2).bind fun t207 => (some t207))) = some r := H
  have A19 := Aside0.mk A190
  clear A190
  replace H := Option.bind_eq_some_iff.mp H
  obtain ⟨⟨t203, t204, t205, t206⟩, A200, H⟩ := H
  replace H : ((quad_Sign.f t203 t204 t205 t206).bind fun t207 => (some t207)) = some r := H
  have A20 := Aside0.mk A200
  clear A200
  replace H := Option.bind_eq_some_iff.mp H
  obtain ⟨t207, A210, H⟩ := H
  replace H : (some t207) = some r := H
  have A21 := Aside0.mk A210
  clear A210
  obtain rfl := Option.some.inj H
  go_enter Try.func8, Try.ntmps8
  try go_wp2_with (first | ((with_reducible refine gate_dst (N := 4) rfl ?_); refine box_event ?hg (N := 4) ?hd (cs := #[.int .i64 a0_0, .int .i64 a0_1]) (t := 23) ?hr ?_; (case hd => rfl); (case hg => rfl); (case hr => first | (go_simp; done) | (go_simp; rfl)); intro gb157 hg w22 hbox hb; have n0_ := Aside0.mk (below_step (by repeat (first | (with_reducible first | exact HB.out | apply below_alloc | apply pw_below_drewN | apply below_drew1) | exact HB.out)) hb); have n1_ := Aside0.mk (hbox); have n2_ := Aside0.mk ((by rw [hg]; exact (below_size (by repeat (first | (with_reducible first | exact HB.out | apply below_alloc | apply pw_below_drewN | apply below_drew1) | exact HB.out))) : w.heap.size ≤ gb157)); have n3_ := Aside0.mk ((by rw [hg]; exact (below_size (by repeat (first | (with_reducible first | exact HB.out | apply below_alloc | apply pw_below_drewN | apply below_drew1) | exact HB.out))) : w.heap.size ≤ gb157)); clear HB; have HB := n0_; have BK157 := n1_; have GW157 := n2_; have GE157 := n3_; clear n0_ n1_ n2_ n3_; clear hb hbox hg) | ((with_reducible refine gate_dst (N := 5) rfl ?_); refine box_event ?hg (N := 5) ?hd (cs := #[.int .i64 a1_0, .int .i64 a1_1]) (t := 23) ?hr ?_; (case hd => rfl); (case hg => rfl); (case hr => first | (go_simp; done) | (go_simp; rfl)); intro gb158 hg w23 hbox hb; have n0_ := Aside0.mk (blk_below (g := gb157) (o := .cells #[.int .i64 a0_0, .int .i64 a0_1] 23 (0, 0)) (by (with_reducible repeat (first | refine blk_drewN ?_ _ | refine blk_drew ?_ | refine blk_alloc ?_ _)); exact BK157.out) hb); have n1_ := Aside0.mk (below_step (by repeat (first | (with_reducible first | exact HB.out | apply below_alloc | apply pw_below_drewN | apply below_drew1 | refine below_set ?_ GE157.out) | exact HB.out)) hb); have n2_ := Aside0.mk (hbox); have n3_ := Aside0.mk ((by rw [hg]; exact (below_size (by repeat (first | (with_reducible first | exact HB.out | apply below_alloc | apply pw_below_drewN | apply below_drew1 | refine below_set ?_ GE157.out) | exact HB.out))) : w.heap.size ≤ gb158)); have n4_ := Aside0.mk ((by rw [hg]; exact (below_size (by repeat (first | (with_reducible first | exact HB.out | apply below_alloc | apply pw_below_drewN | apply below_drew1 | refine below_set ?_ GE157.out) | exact HB.out))) : w.heap.size ≤ gb158)); have n5_ := Aside0.mk ((by rw [hg]; exact Nat.ne_of_lt (blk_lt (g := gb157) (o := .cells #[.int .i64 a0_0, .int .i64 a0_1] 23 (0, 0)) (by (with_reducible repeat (first | refine blk_drewN ?_ _ | refine blk_drew ?_ | refine blk_alloc ?_ _)); exact BK157.out)) : gb157 ≠ gb158)); have n6_ := Aside0.mk ((by rw [hg]; exact Nat.ne_of_gt (blk_lt (g := gb157) (o := .cells #[.int .i64 a0_0, .int .i64 a0_1] 23 (0, 0)) (by (with_reducible repeat (first | refine blk_drewN ?_ _ | refine blk_drew ?_ | refine blk_alloc ?_ _)); exact BK157.out)) : gb158 ≠ gb157)); clear BK157; clear HB; have BK157 := n0_; have HB := n1_; have BK158 := n2_; have GW158 := n3_; have GE158 := n4_; have NB157_158 := n5_; have NB158_157 := n6_; clear n0_ n1_ n2_ n3_ n4_ n5_ n6_; clear hb hbox hg) | ((with_reducible refine gate_dst (N := 6) rfl ?_); refine box_event ?hg (N := 6) ?hd (cs := #[.int .i64 a2_0, .int .i64 a2_1]) (t := 23) ?hr ?_; (case hd => rfl); (case hg => rfl); (case hr => first | (go_simp; done) | (go_simp; rfl)); intro gb159 hg w24 hbox hb; have n0_ := Aside0.mk (blk_below (g := gb157) (o := .cells #[.int .i64 a0_0, .int .i64 a0_1] 23 (0, 0)) (by (with_reducible repeat (first | refine blk_drewN ?_ _ | refine blk_drew ?_ | refine blk_alloc ?_ _)); exact BK157.out) hb); have n1_ := Aside0.mk (blk_below (g := gb158) (o := .cells #[.int .i64 a1_0, .int .i64 a1_1] 23 (0, 0)) (by (with_reducible repeat (first | refine blk_drewN ?_ _ | refine blk_drew ?_ | refine blk_alloc ?_ _)); exact BK158.out) hb); have n2_ := Aside0.mk (below_step (by repeat (first | (with_reducible first | exact HB.out | apply below_alloc | apply pw_below_drewN | apply below_drew1 | refine below_set ?_ GE157.out | refine below_set ?_ GE158.out) | exact HB.out)) hb); have n3_ := Aside0.mk (hbox); have n4_ := Aside0.mk ((by rw [hg]; exact (below_size (by repeat (first | (with_reducible first | exact HB.out | apply below_alloc | apply pw_below_drewN | apply below_drew1 | refine below_set ?_ GE157.out | refine below_set ?_ GE158.out) | exact HB.out))) : w.heap.size ≤ gb159)); have n5_ := Aside0.mk ((by rw [hg]; exact (below_size (by repeat (first | (with_reducible first | exact HB.out | apply below_alloc | apply pw_below_drewN | apply below_drew1 | refine below_set ?_ GE157.out | refine below_set ?_ GE158.out) | exact HB.out))) : w.heap.size ≤ gb159)); have n6_ := Aside0.mk ((by rw [hg]; exact Nat.ne_of_lt (blk_lt (g := gb157) (o := .cells #[.int .i64 a0_0, .int .i64 a0_1] 23 (0, 0)) (by (with_reducible repeat (first | refine blk_drewN ?_ _ | refine blk_drew ?_ | refine blk_alloc ?_ _)); exact BK157.out)) : gb157 ≠ gb159)); have n7_ := Aside0.mk ((by rw [hg]; exact Nat.ne_of_gt (blk_lt (g := gb157) (o := .cells #[.int .i64 a0_0, .int .i64 a0_1] 23 (0, 0)) (by (with_reducible repeat (first | refine blk_drewN ?_ _ | refine blk_drew ?_ | refine blk_alloc ?_ _)); exact BK157.out)) : gb159 ≠ gb157)); have n8_ := Aside0.mk ((by rw [hg]; exact Nat.ne_of_lt (blk_lt (g := gb158) (o := .cells #[.int .i64 a1_0, .int .i64 a1_1] 23 (0, 0)) (by (with_reducible repeat (first | refine blk_drewN ?_ _ | refine blk_drew ?_ | refine blk_alloc ?_ _)); exact BK158.out)) : gb158 ≠ gb159)); have n9_ := Aside0.mk ((by rw [hg]; exact Nat.ne_of_gt (blk_lt (g := gb158) (o := .cells #[.int .i64 a1_0, .int .i64 a1_1] 23 (0, 0)) (by (with_reducible repeat (first | refine blk_drewN ?_ _ | refine blk_drew ?_ | refine blk_alloc ?_ _)); exact BK158.out)) : gb159 ≠ gb158)); clear BK157; clear BK158; clear HB; have BK157 := n0_; have BK158 := n1_; have HB := n2_; have BK159 := n3_; have GW159 := n4_; have GE159 := n5_; have NB157_159 := n6_; have NB159_157 := n7_; have NB158_159 := n8_; have NB159_158 := n9_; clear n0_ n1_ n2_ n3_ n4_ n5_ n6_ n7_ n8_ n9_; clear hb hbox hg) | ((with_reducible refine gate_dst (N := 7) rfl ?_); refine box_event ?hg (N := 7) ?hd (cs := #[.int .i64 a3_0, .int .i64 a3_1]) (t := 23) ?hr ?_; (case hd => rfl); (case hg => rfl); (case hr => first | (go_simp; done) | (go_simp; rfl)); intro gb160 hg w25 hbox hb; have n0_ := Aside0.mk (blk_below (g := gb157) (o := .cells #[.int .i64 a0_0, .int .i64 a0_1] 23 (0, 0)) (by (with_reducible repeat (first | refine blk_drewN ?_ _ | refine blk_drew ?_ | refine blk_alloc ?_ _)); exact BK157.out) hb); have n1_ := Aside0.mk (blk_below (g := gb158) (o := .cells #[.int .i64 a1_0, .int .i64 a1_1] 23 (0, 0)) (by (with_reducible repeat (first | refine blk_drewN ?_ _ | refine blk_drew ?_ | refine blk_alloc ?_ _)); exact BK158.out) hb); have n2_ := Aside0.mk (blk_below (g := gb159) (o := .cells #[.int .i64 a2_0, .int .i64 a2_1] 23 (0, 0)) (by (with_reducible repeat (first | refine blk_drewN ?_ _ | refine blk_drew ?_ | refine blk_alloc ?_ _)); exact BK159.out) hb); have n3_ := Aside0.mk (below_step (by repeat (first | (with_reducible first | exact HB.out | apply below_alloc | apply pw_below_drewN | apply below_drew1 | refine below_set ?_ GE157.out | refine below_set ?_ GE158.out | refine below_set ?_ GE159.out) | exact HB.out)) hb); have n4_ := Aside0.mk (hbox); have n5_ := Aside0.mk ((by rw [hg]; exact (below_size (by repeat (first | (with_reducible first | exact HB.out | apply below_alloc | apply pw_below_drewN | apply below_drew1 | refine below_set ?_ GE157.out | refine below_set ?_ GE158.out | refine below_set ?_ GE159.out) | exact HB.out))) : w.heap.size ≤ gb160)); have n6_ := Aside0.mk ((by rw [hg]; exact (below_size (by repeat (first | (with_reducible first | exact HB.out | apply below_alloc | apply pw_below_drewN | apply below_drew1 | refine below_set ?_ GE157.out | refine below_set ?_ GE158.out | refine below_set ?_ GE159.out) | exact HB.out))) : w.heap.size ≤ gb160)); have n7_ := Aside0.mk ((by rw [hg]; exact Nat.ne_of_lt (blk_lt (g := gb157) (o := .cells #[.int .i64 a0_0, .int .i64 a0_1] 23 (0, 0)) (by (with_reducible repeat (first | refine blk_drewN ?_ _ | refine blk_drew ?_ | refine blk_alloc ?_ _)); exact BK157.out)) : gb157 ≠ gb160)); have n8_ := Aside0.mk ((by rw [hg]; exact Nat.ne_of_gt (blk_lt (g := gb157) (o := .cells #[.int .i64 a0_0, .int .i64 a0_1] 23 (0, 0)) (by (with_reducible repeat (first | refine blk_drewN ?_ _ | refine blk_drew ?_ | refine blk_alloc ?_ _)); exact BK157.out)) : gb160 ≠ gb157)); have n9_ := Aside0.mk ((by rw [hg]; exact Nat.ne_of_lt (blk_lt (g := gb158) (o := .cells #[.int .i64 a1_0, .int .i64 a1_1] 23 (0, 0)) (by (with_reducible repeat (first | refine blk_drewN ?_ _ | refine blk_drew ?_ | refine blk_alloc ?_ _)); exact BK158.out)) : gb158 ≠ gb160)); have n10_ := Aside0.mk ((by rw [hg]; exact Nat.ne_of_gt (blk_lt (g := gb158) (o := .cells #[.int .i64 a1_0, .int .i64 a1_1] 23 (0, 0)) (by (with_reducible repeat (first | refine blk_drewN ?_ _ | refine blk_drew ?_ | refine blk_alloc ?_ _)); exact BK158.out)) : gb160 ≠ gb158)); have n11_ := Aside0.mk ((by rw [hg]; exact Nat.ne_of_lt (blk_lt (g := gb159) (o := .cells #[.int .i64 a2_0, .int .i64 a2_1] 23 (0, 0)) (by (with_reducible repeat (first | refine blk_drewN ?_ _ | refine blk_drew ?_ | refine blk_alloc ?_ _)); exact BK159.out)) : gb159 ≠ gb160)); have n12_ := Aside0.mk ((by rw [hg]; exact Nat.ne_of_gt (blk_lt (g := gb159) (o := .cells #[.int .i64 a2_0, .int .i64 a2_1] 23 (0, 0)) (by (with_reducible repeat (first | refine blk_drewN ?_ _ | refine blk_drew ?_ | refine blk_alloc ?_ _)); exact BK159.out)) : gb160 ≠ gb159)); clear BK157; clear BK158; clear BK159; clear HB; have BK157 := n0_; have BK158 := n1_; have BK159 := n2_; have HB := n3_; have BK160 := n4_; have GW160 := n5_; have GE160 := n6_; have NB157_160 := n7_; have NB160_157 := n8_; have NB158_160 := n9_; have NB160_158 := n10_; have NB159_160 := n11_; have NB160_159 := n12_; clear n0_ n1_ n2_ n3_ n4_ n5_ n6_ n7_ n8_ n9_ n10_ n11_ n12_; clear hb hbox hg; have hnb26 := NB157_158.out; have hnc26 := NB158_157.out; have hnb27 := NB157_159.out; have hnc27 := NB159_157.out; have hnb28 := NB157_160.out; have hnc28 := NB160_157.out; have hcz29_0 : w25.cell? ⟨gb157, 0, none⟩ = some (.int .i64 a0_0) := (blk_cell BK157.out 0).trans rfl; have hcz29_1 : w25.cell? ⟨gb157, 1, none⟩ = some (.int .i64 a0_1) := (blk_cell BK157.out 1).trans rfl; have hfz29_0 := blk_frozen BK157.out 0; have hfz29_1 := blk_frozen BK157.out 1; have hnb30 := NB158_159.out; have hnc30 := NB159_158.out; have hnb31 := NB158_160.out; have hnc31 := NB160_158.out; have hcz32_0 : w25.cell? ⟨gb158, 0, none⟩ = some (.int .i64 a1_0) := (blk_cell BK158.out 0).trans rfl; have hcz32_1 : w25.cell? ⟨gb158, 1, none⟩ = some (.int .i64 a1_1) := (blk_cell BK158.out 1).trans rfl; have hfz32_0 := blk_frozen BK158.out 0; have hfz32_1 := blk_frozen BK158.out 1; have hnb33 := NB159_160.out; have hnc33 := NB160_159.out; have hcz34_0 : w25.cell? ⟨gb159, 0, none⟩ = some (.int .i64 a2_0) := (blk_cell BK159.out 0).trans rfl; have hcz34_1 : w25.cell? ⟨gb159, 1, none⟩ = some (.int .i64 a2_1) := (blk_cell BK159.out 1).trans rfl; have hfz34_0 := blk_frozen BK159.out 0; have hfz34_1 := blk_frozen BK159.out 1; have hcz35_0 : w25.cell? ⟨gb160, 0, none⟩ = some (.int .i64 a3_0) := (blk_cell BK160.out 0).trans rfl; have hcz35_1 : w25.cell? ⟨gb160, 1, none⟩ = some (.int .i64 a3_1) := (blk_cell BK160.out 1).trans rfl; have hfz35_0 := blk_frozen BK160.out 0; have hfz35_1 := blk_frozen BK160.out 1) | ((with_reducible refine gate_dst (N := 17) rfl ?_); refine Kd.R_lit k23 _ 23 ?hg (N := 17) ?hd (xs := ([(⟨a0_0, a0_1⟩ : S23), (⟨a1_0, a1_1⟩ : S23), (⟨a2_0, a2_1⟩ : S23), (⟨a3_0, a3_1⟩ : S23)] : List (S23))) (inner := [.int .i64 a0_0, .int .i64 a0_1, .int .i64 a1_0, .int .i64 a1_1, .int .i64 a2_0, .int .i64 a2_1, .int .i64 a3_0, .int .i64 a3_1]) (ok := fun _ => True) (okp := fun _ => True) ?hr ?hp (fun _ hk => hk) trivial (Below.refl _ _) (Nat.le_refl _) (by simp) ?_; (case hd => rfl); (case hg => rfl); (case hr => first | (go_simp; done) | (go_simp; rfl)); (case hp => exact (Reps.c2 (show Kd.M k23 _ _ _ (⟨a0_0, a0_1⟩ : S23) [.int .i64 a0_0, .int .i64 a0_1] from (k23_mkM _ _ _ (⟨a0_0, a0_1⟩ : S23) )) (Reps.c2 (show Kd.M k23 _ _ _ (⟨a1_0, a1_1⟩ : S23) [.int .i64 a1_0, .int .i64 a1_1] from (k23_mkM _ _ _ (⟨a1_0, a1_1⟩ : S23) )) (Reps.c2 (show Kd.M k23 _ _ _ (⟨a2_0, a2_1⟩ : S23) [.int .i64 a2_0, .int .i64 a2_1] from (k23_mkM _ _ _ (⟨a2_0, a2_1⟩ : S23) )) (Reps.c2 (show Kd.M k23 _ _ _ (⟨a3_0, a3_1⟩ : S23) [.int .i64 a3_0, .int .i64 a3_1] from (k23_mkM _ _ _ (⟨a3_0, a3_1⟩ : S23) )) (Reps.none _ _)))))); intro v162 w36 ho37 hb hg_ hnew_; clear hg_ hnew_; (first | rw [← Ny161.out] at ho37 | (simp only [Int.reduceToNat] at ho37; rw [← Ny161.out] at ho37)); have n0_ := Aside0.mk (Kd.R_lower (Kd.R_newB (Kd.R_newB (Kd.R_newB (Kd.R_newB ho37 (g := gb157) (o := .cells #[.int .i64 a0_0, .int .i64 a0_1] 23 (0, 0)) (by (with_reducible repeat (first | refine blk_drewN ?_ _ | refine blk_drew ?_ | refine blk_alloc ?_ _)); exact BK157.out)) (g := gb158) (o := .cells #[.int .i64 a1_0, .int .i64 a1_1] 23 (0, 0)) (by (with_reducible repeat (first | refine blk_drewN ?_ _ | refine blk_drew ?_ | refine blk_alloc ?_ _)); exact BK158.out)) (g := gb159) (o := .cells #[.int .i64 a2_0, .int .i64 a2_1] 23 (0, 0)) (by (with_reducible repeat (first | refine blk_drewN ?_ _ | refine blk_drew ?_ | refine blk_alloc ?_ _)); exact BK159.out)) (g := gb160) (o := .cells #[.int .i64 a3_0, .int .i64 a3_1] 23 (0, 0)) (by (with_reducible repeat (first | refine blk_drewN ?_ _ | refine blk_drew ?_ | refine blk_alloc ?_ _)); exact BK160.out)) (below_size (by repeat (first | (with_reducible first | exact HB.out | apply below_alloc | apply pw_below_drewN | apply below_drew1 | refine below_set ?_ GE157.out | refine below_set ?_ GE158.out | refine below_set ?_ GE159.out | refine below_set ?_ GE160.out) | exact HB.out)))); have n1_ := Aside0.mk (blk_below (g := gb157) (o := .cells #[.int .i64 a0_0, .int .i64 a0_1] 23 (0, 0)) (by (with_reducible repeat (first | refine blk_drewN ?_ _ | refine blk_drew ?_ | refine blk_alloc ?_ _)); exact BK157.out) hb); have n2_ := Aside0.mk (blk_below (g := gb158) (o := .cells #[.int .i64 a1_0, .int .i64 a1_1] 23 (0, 0)) (by (with_reducible repeat (first | refine blk_drewN ?_ _ | refine blk_drew ?_ | refine blk_alloc ?_ _)); exact BK158.out) hb); have n3_ := Aside0.mk (blk_below (g := gb159) (o := .cells #[.int .i64 a2_0, .int .i64 a2_1] 23 (0, 0)) (by (with_reducible repeat (first | refine blk_drewN ?_ _ | refine blk_drew ?_ | refine blk_alloc ?_ _)); exact BK159.out) hb); have n4_ := Aside0.mk (blk_below (g := gb160) (o := .cells #[.int .i64 a3_0, .int .i64 a3_1] 23 (0, 0)) (by (with_reducible repeat (first | refine blk_drewN ?_ _ | refine blk_drew ?_ | refine blk_alloc ?_ _)); exact BK160.out) hb); have n5_ := Aside0.mk (below_step (by repeat (first | (with_reducible first | exact HB.out | apply below_alloc | apply pw_below_drewN | apply below_drew1 | refine below_set ?_ GE157.out | refine below_set ?_ GE158.out | refine below_set ?_ GE159.out | refine below_set ?_ GE160.out) | exact HB.out)) hb); clear BK157; clear BK158; clear BK159; clear BK160; clear HB; have HO163 := n0_; have BK157 := n1_; have BK158 := n2_; have BK159 := n3_; have BK160 := n4_; have HB := n5_; clear n0_ n1_ n2_ n3_ n4_ n5_; clear hb ho37; obtain ⟨Ao38, co38, eo38⟩ := Kd.R_slice HO163.out; subst eo38) | ((with_reducible refine gate_callee (f := 23) rfl ?_); refine goesL_ (some 18) rfl rfl Try.func23 (by kernel_rfl) rfl #[.slice Ao38 y161.length co38] rfl (by (try simp only [List.map_toArray, List.map_cons, List.map_nil]); first | done | rfl | (simp only [List.length_drop, List.length_take]; rfl)) ?_; (with_reducible refine (pred_can.calls k _ _ y161 true _ ?side1 ?side2 A5.out).mono ?_); (case side1 => repeat (first | exact (Kd.R_reads' HO163.out).2.2 | (with_reducible refine Kd.C_alloc ?_ _) | (with_reducible refine Kd.C_drewN ?_ _) | (with_reducible refine Kd.C_drew ?_))); (case side2 => exact (Kd.R_reads' HO163.out).2.1); rintro e w39 ⟨rfl, hb⟩; refine ⟨_, rfl, ?_⟩; have n0_ := Aside0.mk (Kd.R_below (by (with_reducible repeat (first | apply Kd.R_alloc | apply Kd.R_drewN | apply Kd.R_drew)); exact HO163.out) hb); have n1_ := Aside0.mk (blk_below (g := gb157) (o := .cells #[.int .i64 a0_0, .int .i64 a0_1] 23 (0, 0)) (by (with_reducible repeat (first | refine blk_drewN ?_ _ | refine blk_drew ?_ | refine blk_alloc ?_ _)); exact BK157.out) hb); have n2_ := Aside0.mk (blk_below (g := gb158) (o := .cells #[.int .i64 a1_0, .int .i64 a1_1] 23 (0, 0)) (by (with_reducible repeat (first | refine blk_drewN ?_ _ | refine blk_drew ?_ | refine blk_alloc ?_ _)); exact BK158.out) hb); have n3_ := Aside0.mk (blk_below (g := gb159) (o := .cells #[.int .i64 a2_0, .int .i64 a2_1] 23 (0, 0)) (by (with_reducible repeat (first | refine blk_drewN ?_ _ | refine blk_drew ?_ | refine blk_alloc ?_ _)); exact BK159.out) hb); have n4_ := Aside0.mk (blk_below (g := gb160) (o := .cells #[.int .i64 a3_0, .int .i64 a3_1] 23 (0, 0)) (by (with_reducible repeat (first | refine blk_drewN ?_ _ | refine blk_drew ?_ | refine blk_alloc ?_ _)); exact BK160.out) hb); have n5_ := Aside0.mk (below_step (by repeat (first | (with_reducible first | exact HB.out | apply below_alloc | apply pw_below_drewN | apply below_drew1 | refine below_set ?_ GE157.out | refine below_set ?_ GE158.out | refine below_set ?_ GE159.out | refine below_set ?_ GE160.out) | exact HB.out)) hb); clear HO163; clear BK157; clear BK158; clear BK159; clear BK160; clear HB; have HO163 := n0_; have BK157 := n1_; have BK158 := n2_; have BK159 := n3_; have BK160 := n4_; have HB := n5_; clear n0_ n1_ n2_ n3_ n4_ n5_; (try clear hb); (try clear hb2); (try clear hk); (try clear hi)))
  have n0_ := Aside0.mk (blk_drew BK157.out)
  have n1_ := Aside0.mk (blk_drew BK158.out)
  have n2_ := Aside0.mk (blk_drew BK159.out)
  have n3_ := Aside0.mk (blk_drew BK160.out)
  have n4_ := Aside0.mk (below_drew1 HB.out)
  clear BK157
  clear BK158
  clear BK159
  clear BK160
  clear HB
  have BK157 := n0_
  have BK158 := n1_
  have BK159 := n2_
  have BK160 := n3_
  have HB := n4_
  clear n0_ n1_ n2_ n3_ n4_
  refine start_ (n := 15) (S := fun w' => True) (ds := []) #[false, false, false, false, false, false, false, false, false, false, false, false, false, false, false] (by kernel_rfl) rfl rfl trivial (fun hHeld => ?_); refine with_tabW pred_InCircle.tab3 pred_InCircle.bits3 (fun HT_ HW_ => ?_)
  generalize w39.drew = w40 at BK157 BK158 BK159 BK160 HB hHeld ⊢
  refine inv_at [0, 1, 2, 3, 4, 5, 6, 7, 8, 9, 10, 11, 12, 13, 14] (fun a0_ b a w' => ∃ (gb171 : Nat) (gb172 : Nat) (gb173 : Nat) (m9_ : Value) (m10_ : Value) (m11_ : Value), a = putSel a0_ b [(0, 20, .agg #[.int .i64 a3_0, .int .i64 a3_1]), (1, 21, .agg #[.int .i64 a0_0, .int .i64 a0_1]), (2, 22, .agg #[.int .i64 t165, .int .i64 t166]), (3, 23, .agg #[.int .i64 a3_0, .int .i64 a3_1]), (4, 24, .agg #[.int .i64 a1_0, .int .i64 a1_1]), (5, 25, .agg #[.int .i64 t167, .int .i64 t168]), (6, 26, .agg #[.int .i64 a3_0, .int .i64 a3_1]), (7, 27, .agg #[.int .i64 a2_0, .int .i64 a2_1]), (8, 28, .agg #[.int .i64 t169, .int .i64 t170]), (9, 9, m9_), (10, 10, m10_), (11, 11, m11_)] ∧ (w'.heap[gb157]? = some (.cells #[.int .i64 a0_0, .int .i64 a0_1] 23 (0, 0))) ∧ (w'.heap[gb158]? = some (.cells #[.int .i64 a1_0, .int .i64 a1_1] 23 (0, 0))) ∧ (w'.heap[gb159]? = some (.cells #[.int .i64 a2_0, .int .i64 a2_1] 23 (0, 0))) ∧ (w'.heap[gb160]? = some (.cells #[.int .i64 a3_0, .int .i64 a3_1] 23 (0, 0))) ∧ (Below w.heap.size w w') ∧ (b 9 = true → b 10 = true → gb172 ≠ gb171) ∧ (b 9 = true → b 10 = true → gb171 ≠ gb172) ∧ (b 9 = true → b 11 = true → gb173 ≠ gb171) ∧ (b 9 = true → b 11 = true → gb171 ≠ gb173) ∧ (b 10 = true → b 11 = true → gb173 ≠ gb172) ∧ (b 10 = true → b 11 = true → gb172 ≠ gb173) ∧ (b 9 = true → b 12 = false → w'.heap[gb171]? = some (.cells #[.int .i64 0, .int .i64 0] 23 (0, 0))) ∧ (b 9 = true → w.heap.size ≤ gb171) ∧ (b 9 = true → w.heap.size ≤ gb171) ∧ (b 9 = true → gb157 ≠ gb171) ∧ (b 9 = true → gb171 ≠ gb157) ∧ (b 9 = true → gb158 ≠ gb171) ∧ (b 9 = true → gb171 ≠ gb158) ∧ (b 9 = true → gb159 ≠ gb171) ∧ (b 9 = true → gb171 ≠ gb159) ∧ (b 9 = true → gb160 ≠ gb171) ∧ (b 9 = true → gb171 ≠ gb160) ∧ (b 10 = true → b 13 = false → w'.heap[gb172]? = some (.cells #[.int .i64 0, .int .i64 0] 23 (0, 0))) ∧ (b 10 = true → w.heap.size ≤ gb172) ∧ (b 10 = true → w.heap.size ≤ gb172) ∧ (b 10 = true → gb157 ≠ gb172) ∧ (b 10 = true → gb172 ≠ gb157) ∧ (b 10 = true → gb158 ≠ gb172) ∧ (b 10 = true → gb172 ≠ gb158) ∧ (b 10 = true → gb159 ≠ gb172) ∧ (b 10 = true → gb172 ≠ gb159) ∧ (b 10 = true → gb160 ≠ gb172) ∧ (b 10 = true → gb172 ≠ gb160) ∧ (b 11 = true → b 14 = false → w'.heap[gb173]? = some (.cells #[.int .i64 0, .int .i64 0] 23 (0, 0))) ∧ (b 11 = true → w.heap.size ≤ gb173) ∧ (b 11 = true → w.heap.size ≤ gb173) ∧ (b 11 = true → gb157 ≠ gb173) ∧ (b 11 = true → gb173 ≠ gb157) ∧ (b 11 = true → gb158 ≠ gb173) ∧ (b 11 = true → gb173 ≠ gb158) ∧ (b 11 = true → gb159 ≠ gb173) ∧ (b 11 = true → gb173 ≠ gb159) ∧ (b 11 = true → gb160 ≠ gb173) ∧ (b 11 = true → gb173 ≠ gb160) ∧ (b 12 = true → w'.heap[gb171]? = some (.cells #[.int .i64 t165, .int .i64 t166] 23 (0, 0))) ∧ (b 13 = true → w'.heap[gb172]? = some (.cells #[.int .i64 t167, .int .i64 t168] 23 (0, 0))) ∧ (b 14 = true → w'.heap[gb173]? = some (.cells #[.int .i64 t169, .int .i64 t170] 23 (0, 0))) ∧ (b 9 = true → (m9_ : Value) = .pointer (some ⟨gb171, 0, none⟩)) ∧ (b 10 = true → (m10_ : Value) = .pointer (some ⟨gb172, 0, none⟩)) ∧ (b 11 = true → (m11_ : Value) = .pointer (some ⟨gb173, 0, none⟩))) HT_.out HW_.out (by kernel_rfl) (by kernel_rfl) ?_ ?_ ?_
  ·exact ⟨0, 0, 0, .bool false, .bool false, .bool false, by simp only [putSel, Bool.false_eq_true, if_false], BK157.out, BK158.out, BK159.out, BK160.out, HB.out, fun h_ => absurd h_ (by decide), fun h_ => absurd h_ (by decide), fun h_ => absurd h_ (by decide), fun h_ => absurd h_ (by decide), fun h_ => absurd h_ (by decide), fun h_ => absurd h_ (by decide), fun h_ => absurd h_ (by decide), fun h_ => absurd h_ (by decide), fun h_ => absurd h_ (by decide), fun h_ => absurd h_ (by decide), fun h_ => absurd h_ (by decide), fun h_ => absurd h_ (by decide), fun h_ => absurd h_ (by decide), fun h_ => absurd h_ (by decide), fun h_ => absurd h_ (by decide), fun h_ => absurd h_ (by decide), fun h_ => absurd h_ (by decide), fun h_ => absurd h_ (by decide), fun h_ => absurd h_ (by decide), fun h_ => absurd h_ (by decide), fun h_ => absurd h_ (by decide), fun h_ => absurd h_ (by decide), fun h_ => absurd h_ (by decide), fun h_ => absurd h_ (by decide), fun h_ => absurd h_ (by decide), fun h_ => absurd h_ (by decide), fun h_ => absurd h_ (by decide), fun h_ => absurd h_ (by decide), fun h_ => absurd h_ (by decide), fun h_ => absurd h_ (by decide), fun h_ => absurd h_ (by decide), fun h_ => absurd h_ (by decide), fun h_ => absurd h_ (by decide), fun h_ => absurd h_ (by decide), fun h_ => absurd h_ (by decide), fun h_ => absurd h_ (by decide), fun h_ => absurd h_ (by decide), fun h_ => absurd h_ (by decide), fun h_ => absurd h_ (by decide), fun h_ => absurd h_ (by decide), fun h_ => absurd h_ (by decide), fun h_ => absurd h_ (by decide), fun h_ => absurd h_ (by decide), fun h_ => absurd h_ (by decide), fun h_ => absurd h_ (by decide)⟩
  ·skip
   clear BK157 BK158 BK159 BK160 HB
   refine steps_cons ?_ ?_
   ·rintro b a w' ⟨gb171, gb172, gb173, m9_, m10_, m11_, ha, Q_BK157, Q_BK158, Q_BK159, Q_BK160, Q_HB, Q_NB172_171, Q_NB171_172, Q_NB173_171, Q_NB171_173, Q_NB173_172, Q_NB172_173, Q_BK171, Q_GW171, Q_GE171, Q_NB157_171, Q_NB171_157, Q_NB158_171, Q_NB171_158, Q_NB159_171, Q_NB171_159, Q_NB160_171, Q_NB171_160, Q_BK172, Q_GW172, Q_GE172, Q_NB157_172, Q_NB172_157, Q_NB158_172, Q_NB172_158, Q_NB159_172, Q_NB172_159, Q_NB160_172, Q_NB172_160, Q_BK173, Q_GW173, Q_GE173, Q_NB157_173, Q_NB173_157, Q_NB158_173, Q_NB173_158, Q_NB159_173, Q_NB173_159, Q_NB160_173, Q_NB173_160, Q_BK171_e12, Q_BK172_e13, Q_BK173_e14, Q_X9_, Q_X10_, Q_X11_⟩ hb_ hon hoff
    refine ⟨_, rfl, fun K hK => ?_⟩
    have e7 : a.tmps[7]? = some (.pointer (some ⟨gb160, 0, none⟩)) := by rw [ha]; exact (putSel_off rfl).trans rfl
    replace ha := Aside0.mk ha
    have BK157 := Aside0.mk Q_BK157
    have BK158 := Aside0.mk Q_BK158
    have BK159 := Aside0.mk Q_BK159
    have BK160 := Aside0.mk Q_BK160
    have HB := Aside0.mk Q_HB
    have hc0_ : w'.cell? ⟨gb160, 0, none⟩ = some (.int .i64 a3_0) := (blk_cell BK160.out 0).trans rfl
    have hc1_ : w'.cell? ⟨gb160, 1, none⟩ = some (.int .i64 a3_1) := (blk_cell BK160.out 1).trans rfl
    refine value_ (w1 := w') (v := .agg #[.int .i64 a3_0, .int .i64 a3_1]) (by rfl) rfl ?_ ?_
    ·go_simp
     (try simp only [i64_w])
     try rfl
    refine hK.out _ _ ⟨gb171, gb172, gb173, m9_, m10_, m11_, (by rw [ha.out]; exact putSel_upk 0 hb_ rfl rfl rfl), Q_BK157, Q_BK158, Q_BK159, Q_BK160, Q_HB, Q_NB172_171, Q_NB171_172, Q_NB173_171, Q_NB171_173, Q_NB173_172, Q_NB172_173, Q_BK171, Q_GW171, Q_GE171, Q_NB157_171, Q_NB171_157, Q_NB158_171, Q_NB171_158, Q_NB159_171, Q_NB171_159, Q_NB160_171, Q_NB171_160, Q_BK172, Q_GW172, Q_GE172, Q_NB157_172, Q_NB172_157, Q_NB158_172, Q_NB172_158, Q_NB159_172, Q_NB172_159, Q_NB160_172, Q_NB172_160, Q_BK173, Q_GW173, Q_GE173, Q_NB157_173, Q_NB173_157, Q_NB158_173, Q_NB173_158, Q_NB159_173, Q_NB173_159, Q_NB160_173, Q_NB173_160, fun h0_ => absurd ((hoff 12 (by kernel_rfl)).symm.trans h0_) (by decide), fun h0_ => absurd ((hoff 13 (by kernel_rfl)).symm.trans h0_) (by decide), fun h0_ => absurd ((hoff 14 (by kernel_rfl)).symm.trans h0_) (by decide), Q_X9_, Q_X10_, Q_X11_⟩
   refine steps_cons ?_ ?_
   ·rintro b a w' ⟨gb171, gb172, gb173, m9_, m10_, m11_, ha, Q_BK157, Q_BK158, Q_BK159, Q_BK160, Q_HB, Q_NB172_171, Q_NB171_172, Q_NB173_171, Q_NB171_173, Q_NB173_172, Q_NB172_173, Q_BK171, Q_GW171, Q_GE171, Q_NB157_171, Q_NB171_157, Q_NB158_171, Q_NB171_158, Q_NB159_171, Q_NB171_159, Q_NB160_171, Q_NB171_160, Q_BK172, Q_GW172, Q_GE172, Q_NB157_172, Q_NB172_157, Q_NB158_172, Q_NB172_158, Q_NB159_172, Q_NB172_159, Q_NB160_172, Q_NB172_160, Q_BK173, Q_GW173, Q_GE173, Q_NB157_173, Q_NB173_157, Q_NB158_173, Q_NB173_158, Q_NB159_173, Q_NB173_159, Q_NB160_173, Q_NB173_160, Q_BK171_e12, Q_BK172_e13, Q_BK173_e14, Q_X9_, Q_X10_, Q_X11_⟩ hb_ hon hoff
    refine ⟨_, rfl, fun K hK => ?_⟩
    have e4 : a.tmps[4]? = some (.pointer (some ⟨gb157, 0, none⟩)) := by rw [ha]; exact (putSel_off rfl).trans rfl
    replace ha := Aside0.mk ha
    have BK157 := Aside0.mk Q_BK157
    have BK158 := Aside0.mk Q_BK158
    have BK159 := Aside0.mk Q_BK159
    have BK160 := Aside0.mk Q_BK160
    have HB := Aside0.mk Q_HB
    have hc0_ : w'.cell? ⟨gb157, 0, none⟩ = some (.int .i64 a0_0) := (blk_cell BK157.out 0).trans rfl
    have hc1_ : w'.cell? ⟨gb157, 1, none⟩ = some (.int .i64 a0_1) := (blk_cell BK157.out 1).trans rfl
    refine value_ (w1 := w') (v := .agg #[.int .i64 a0_0, .int .i64 a0_1]) (by rfl) rfl ?_ ?_
    ·go_simp
     (try simp only [i64_w])
     try rfl
    refine hK.out _ _ ⟨gb171, gb172, gb173, m9_, m10_, m11_, (by rw [ha.out]; exact putSel_upk 1 hb_ rfl rfl rfl), Q_BK157, Q_BK158, Q_BK159, Q_BK160, Q_HB, Q_NB172_171, Q_NB171_172, Q_NB173_171, Q_NB171_173, Q_NB173_172, Q_NB172_173, Q_BK171, Q_GW171, Q_GE171, Q_NB157_171, Q_NB171_157, Q_NB158_171, Q_NB171_158, Q_NB159_171, Q_NB171_159, Q_NB160_171, Q_NB171_160, Q_BK172, Q_GW172, Q_GE172, Q_NB157_172, Q_NB172_157, Q_NB158_172, Q_NB172_158, Q_NB159_172, Q_NB172_159, Q_NB160_172, Q_NB172_160, Q_BK173, Q_GW173, Q_GE173, Q_NB157_173, Q_NB173_157, Q_NB158_173, Q_NB173_158, Q_NB159_173, Q_NB173_159, Q_NB160_173, Q_NB173_160, fun h0_ => absurd ((hoff 12 (by kernel_rfl)).symm.trans h0_) (by decide), fun h0_ => absurd ((hoff 13 (by kernel_rfl)).symm.trans h0_) (by decide), fun h0_ => absurd ((hoff 14 (by kernel_rfl)).symm.trans h0_) (by decide), Q_X9_, Q_X10_, Q_X11_⟩
   refine steps_cons ?_ ?_
   ·rintro b a w' ⟨gb171, gb172, gb173, m9_, m10_, m11_, ha, Q_BK157, Q_BK158, Q_BK159, Q_BK160, Q_HB, Q_NB172_171, Q_NB171_172, Q_NB173_171, Q_NB171_173, Q_NB173_172, Q_NB172_173, Q_BK171, Q_GW171, Q_GE171, Q_NB157_171, Q_NB171_157, Q_NB158_171, Q_NB171_158, Q_NB159_171, Q_NB171_159, Q_NB160_171, Q_NB171_160, Q_BK172, Q_GW172, Q_GE172, Q_NB157_172, Q_NB172_157, Q_NB158_172, Q_NB172_158, Q_NB159_172, Q_NB172_159, Q_NB160_172, Q_NB172_160, Q_BK173, Q_GW173, Q_GE173, Q_NB157_173, Q_NB173_157, Q_NB158_173, Q_NB173_158, Q_NB159_173, Q_NB173_159, Q_NB160_173, Q_NB173_160, Q_BK171_e12, Q_BK172_e13, Q_BK173_e14, Q_X9_, Q_X10_, Q_X11_⟩ hb_ hon hoff
    refine ⟨_, rfl, fun K hK => ?_⟩
    have e20 : a.tmps[20]? = some (.agg #[.int .i64 a3_0, .int .i64 a3_1]) := by rw [ha]; exact putSel_on (e := (0, 20, .agg #[.int .i64 a3_0, .int .i64 a3_1])) 0 rfl rfl (hon 0 (by kernel_rfl)) rfl
    have e21 : a.tmps[21]? = some (.agg #[.int .i64 a0_0, .int .i64 a0_1]) := by rw [ha]; exact putSel_on (e := (1, 21, .agg #[.int .i64 a0_0, .int .i64 a0_1])) 1 rfl rfl (hon 1 (by kernel_rfl)) rfl
    replace ha := Aside0.mk ha
    have BK157 := Aside0.mk Q_BK157
    have BK158 := Aside0.mk Q_BK158
    have BK159 := Aside0.mk Q_BK159
    have BK160 := Aside0.mk Q_BK160
    have HB := Aside0.mk Q_HB
    refine goes_ Try.func24 (by kernel_rfl) rfl #[.agg #[.int .i64 a3_0, .int .i64 a3_1], .agg #[.int .i64 a0_0, .int .i64 a0_1]] (by rfl) rfl rfl (by first | (simp only [List.map_toArray, List.map_cons, List.map_nil, Act.eval, Array.getD_eq_getD_getElem?, Option.getD_some, e20, e21]; done) | (simp only [List.map_toArray, List.map_cons, List.map_nil, Act.eval, Array.getD_eq_getD_getElem?, Option.getD_some, e20, e21]; rfl)) ?_
    with_reducible refine (pred_way.calls a3_0 a3_1 a0_0 a0_1 t165 t166 _ A7.out).mono ?_
    rintro e w41 ⟨rfl, hb⟩
    refine ⟨_, rfl, ?_⟩
    have n0_ := Aside0.mk (blk_below (g := gb157) (o := .cells #[.int .i64 a0_0, .int .i64 a0_1] 23 (0, 0)) (by (with_reducible repeat (first | refine blk_drewN ?_ _ | refine blk_drew ?_ | refine blk_alloc ?_ _)); exact BK157.out) hb)
    have n1_ := Aside0.mk (blk_below (g := gb158) (o := .cells #[.int .i64 a1_0, .int .i64 a1_1] 23 (0, 0)) (by (with_reducible repeat (first | refine blk_drewN ?_ _ | refine blk_drew ?_ | refine blk_alloc ?_ _)); exact BK158.out) hb)
    have n2_ := Aside0.mk (blk_below (g := gb159) (o := .cells #[.int .i64 a2_0, .int .i64 a2_1] 23 (0, 0)) (by (with_reducible repeat (first | refine blk_drewN ?_ _ | refine blk_drew ?_ | refine blk_alloc ?_ _)); exact BK159.out) hb)
    have n3_ := Aside0.mk (blk_below (g := gb160) (o := .cells #[.int .i64 a3_0, .int .i64 a3_1] 23 (0, 0)) (by (with_reducible repeat (first | refine blk_drewN ?_ _ | refine blk_drew ?_ | refine blk_alloc ?_ _)); exact BK160.out) hb)
    have n4_ := Aside0.mk (below_step (by repeat (first | (with_reducible first | exact HB.out | apply below_alloc | apply pw_below_drewN | apply below_drew1 | refine below_set ?_ GE157.out | refine below_set ?_ GE158.out | refine below_set ?_ GE159.out | refine below_set ?_ GE160.out) | exact HB.out)) hb)
    have z_BK171 := fun (h0_ : b 9 = true) (h1_ : b 12 = false) => (show w41.heap[gb171]? = some (.cells #[.int .i64 0, .int .i64 0] 23 (0, 0)) from by first | exact (blk_below (g := gb171) (o := .cells #[.int .i64 0, .int .i64 0] 23 (0, 0)) (by (with_reducible repeat (first | refine blk_drewN ?_ _ | refine blk_drew ?_ | refine blk_alloc ?_ _)); exact (Q_BK171 h0_ h1_)) hb))
    have z_BK172 := fun (h0_ : b 10 = true) (h1_ : b 13 = false) => (show w41.heap[gb172]? = some (.cells #[.int .i64 0, .int .i64 0] 23 (0, 0)) from by first | exact (blk_below (g := gb172) (o := .cells #[.int .i64 0, .int .i64 0] 23 (0, 0)) (by (with_reducible repeat (first | refine blk_drewN ?_ _ | refine blk_drew ?_ | refine blk_alloc ?_ _)); exact (Q_BK172 h0_ h1_)) hb))
    have z_BK173 := fun (h0_ : b 11 = true) (h1_ : b 14 = false) => (show w41.heap[gb173]? = some (.cells #[.int .i64 0, .int .i64 0] 23 (0, 0)) from by first | exact (blk_below (g := gb173) (o := .cells #[.int .i64 0, .int .i64 0] 23 (0, 0)) (by (with_reducible repeat (first | refine blk_drewN ?_ _ | refine blk_drew ?_ | refine blk_alloc ?_ _)); exact (Q_BK173 h0_ h1_)) hb))
    clear BK157
    clear BK158
    clear BK159
    clear BK160
    clear HB
    have BK157 := n0_
    have BK158 := n1_
    have BK159 := n2_
    have BK160 := n3_
    have HB := n4_
    clear n0_ n1_ n2_ n3_ n4_
    (try clear hb)
    (try clear hb2)
    (try clear hk)
    (try clear hi)
    refine hK.out _ _ ⟨gb171, gb172, gb173, m9_, m10_, m11_, (by rw [ha.out]; exact putSel_upk 2 hb_ rfl rfl rfl), (by (with_reducible repeat (first | refine blk_drewN ?_ _ | refine blk_drew ?_ | refine blk_alloc ?_ _)); exact BK157.out), (by (with_reducible repeat (first | refine blk_drewN ?_ _ | refine blk_drew ?_ | refine blk_alloc ?_ _)); exact BK158.out), (by (with_reducible repeat (first | refine blk_drewN ?_ _ | refine blk_drew ?_ | refine blk_alloc ?_ _)); exact BK159.out), (by (with_reducible repeat (first | refine blk_drewN ?_ _ | refine blk_drew ?_ | refine blk_alloc ?_ _)); exact BK160.out), (by repeat (first | (with_reducible first | exact HB.out | apply below_alloc | apply pw_below_drewN | apply below_drew1 | refine below_set ?_ GE157.out | refine below_set ?_ GE158.out | refine below_set ?_ GE159.out | refine below_set ?_ GE160.out) | exact HB.out)), Q_NB172_171, Q_NB171_172, Q_NB173_171, Q_NB171_173, Q_NB173_172, Q_NB172_173, z_BK171, Q_GW171, Q_GE171, Q_NB157_171, Q_NB171_157, Q_NB158_171, Q_NB171_158, Q_NB159_171, Q_NB171_159, Q_NB160_171, Q_NB171_160, z_BK172, Q_GW172, Q_GE172, Q_NB157_172, Q_NB172_157, Q_NB158_172, Q_NB172_158, Q_NB159_172, Q_NB172_159, Q_NB160_172, Q_NB172_160, z_BK173, Q_GW173, Q_GE173, Q_NB157_173, Q_NB173_157, Q_NB158_173, Q_NB173_158, Q_NB159_173, Q_NB173_159, Q_NB160_173, Q_NB173_160, fun h0_ => absurd ((hoff 12 (by kernel_rfl)).symm.trans h0_) (by decide), fun h0_ => absurd ((hoff 13 (by kernel_rfl)).symm.trans h0_) (by decide), fun h0_ => absurd ((hoff 14 (by kernel_rfl)).symm.trans h0_) (by decide), Q_X9_, Q_X10_, Q_X11_⟩
   refine steps_cons ?_ ?_
   ·rintro b a w' ⟨gb171, gb172, gb173, m9_, m10_, m11_, ha, Q_BK157, Q_BK158, Q_BK159, Q_BK160, Q_HB, Q_NB172_171, Q_NB171_172, Q_NB173_171, Q_NB171_173, Q_NB173_172, Q_NB172_173, Q_BK171, Q_GW171, Q_GE171, Q_NB157_171, Q_NB171_157, Q_NB158_171, Q_NB171_158, Q_NB159_171, Q_NB171_159, Q_NB160_171, Q_NB171_160, Q_BK172, Q_GW172, Q_GE172, Q_NB157_172, Q_NB172_157, Q_NB158_172, Q_NB172_158, Q_NB159_172, Q_NB172_159, Q_NB160_172, Q_NB172_160, Q_BK173, Q_GW173, Q_GE173, Q_NB157_173, Q_NB173_157, Q_NB158_173, Q_NB173_158, Q_NB159_173, Q_NB173_159, Q_NB160_173, Q_NB173_160, Q_BK171_e12, Q_BK172_e13, Q_BK173_e14, Q_X9_, Q_X10_, Q_X11_⟩ hb_ hon hoff
    refine ⟨_, rfl, fun K hK => ?_⟩
    have e7 : a.tmps[7]? = some (.pointer (some ⟨gb160, 0, none⟩)) := by rw [ha]; exact (putSel_off rfl).trans rfl
    replace ha := Aside0.mk ha
    have BK157 := Aside0.mk Q_BK157
    have BK158 := Aside0.mk Q_BK158
    have BK159 := Aside0.mk Q_BK159
    have BK160 := Aside0.mk Q_BK160
    have HB := Aside0.mk Q_HB
    have hc0_ : w'.cell? ⟨gb160, 0, none⟩ = some (.int .i64 a3_0) := (blk_cell BK160.out 0).trans rfl
    have hc1_ : w'.cell? ⟨gb160, 1, none⟩ = some (.int .i64 a3_1) := (blk_cell BK160.out 1).trans rfl
    refine value_ (w1 := w') (v := .agg #[.int .i64 a3_0, .int .i64 a3_1]) (by rfl) rfl ?_ ?_
    ·go_simp
     (try simp only [i64_w])
     try rfl
    refine hK.out _ _ ⟨gb171, gb172, gb173, m9_, m10_, m11_, (by rw [ha.out]; exact putSel_upk 3 hb_ rfl rfl rfl), Q_BK157, Q_BK158, Q_BK159, Q_BK160, Q_HB, Q_NB172_171, Q_NB171_172, Q_NB173_171, Q_NB171_173, Q_NB173_172, Q_NB172_173, Q_BK171, Q_GW171, Q_GE171, Q_NB157_171, Q_NB171_157, Q_NB158_171, Q_NB171_158, Q_NB159_171, Q_NB171_159, Q_NB160_171, Q_NB171_160, Q_BK172, Q_GW172, Q_GE172, Q_NB157_172, Q_NB172_157, Q_NB158_172, Q_NB172_158, Q_NB159_172, Q_NB172_159, Q_NB160_172, Q_NB172_160, Q_BK173, Q_GW173, Q_GE173, Q_NB157_173, Q_NB173_157, Q_NB158_173, Q_NB173_158, Q_NB159_173, Q_NB173_159, Q_NB160_173, Q_NB173_160, fun h0_ => absurd ((hoff 12 (by kernel_rfl)).symm.trans h0_) (by decide), fun h0_ => absurd ((hoff 13 (by kernel_rfl)).symm.trans h0_) (by decide), fun h0_ => absurd ((hoff 14 (by kernel_rfl)).symm.trans h0_) (by decide), Q_X9_, Q_X10_, Q_X11_⟩
   refine steps_cons ?_ ?_
   ·rintro b a w' ⟨gb171, gb172, gb173, m9_, m10_, m11_, ha, Q_BK157, Q_BK158, Q_BK159, Q_BK160, Q_HB, Q_NB172_171, Q_NB171_172, Q_NB173_171, Q_NB171_173, Q_NB173_172, Q_NB172_173, Q_BK171, Q_GW171, Q_GE171, Q_NB157_171, Q_NB171_157, Q_NB158_171, Q_NB171_158, Q_NB159_171, Q_NB171_159, Q_NB160_171, Q_NB171_160, Q_BK172, Q_GW172, Q_GE172, Q_NB157_172, Q_NB172_157, Q_NB158_172, Q_NB172_158, Q_NB159_172, Q_NB172_159, Q_NB160_172, Q_NB172_160, Q_BK173, Q_GW173, Q_GE173, Q_NB157_173, Q_NB173_157, Q_NB158_173, Q_NB173_158, Q_NB159_173, Q_NB173_159, Q_NB160_173, Q_NB173_160, Q_BK171_e12, Q_BK172_e13, Q_BK173_e14, Q_X9_, Q_X10_, Q_X11_⟩ hb_ hon hoff
    refine ⟨_, rfl, fun K hK => ?_⟩
    have e5 : a.tmps[5]? = some (.pointer (some ⟨gb158, 0, none⟩)) := by rw [ha]; exact (putSel_off rfl).trans rfl
    replace ha := Aside0.mk ha
    have BK157 := Aside0.mk Q_BK157
    have BK158 := Aside0.mk Q_BK158
    have BK159 := Aside0.mk Q_BK159
    have BK160 := Aside0.mk Q_BK160
    have HB := Aside0.mk Q_HB
    have hc0_ : w'.cell? ⟨gb158, 0, none⟩ = some (.int .i64 a1_0) := (blk_cell BK158.out 0).trans rfl
    have hc1_ : w'.cell? ⟨gb158, 1, none⟩ = some (.int .i64 a1_1) := (blk_cell BK158.out 1).trans rfl
    refine value_ (w1 := w') (v := .agg #[.int .i64 a1_0, .int .i64 a1_1]) (by rfl) rfl ?_ ?_
    ·go_simp
     (try simp only [i64_w])
     try rfl
    refine hK.out _ _ ⟨gb171, gb172, gb173, m9_, m10_, m11_, (by rw [ha.out]; exact putSel_upk 4 hb_ rfl rfl rfl), Q_BK157, Q_BK158, Q_BK159, Q_BK160, Q_HB, Q_NB172_171, Q_NB171_172, Q_NB173_171, Q_NB171_173, Q_NB173_172, Q_NB172_173, Q_BK171, Q_GW171, Q_GE171, Q_NB157_171, Q_NB171_157, Q_NB158_171, Q_NB171_158, Q_NB159_171, Q_NB171_159, Q_NB160_171, Q_NB171_160, Q_BK172, Q_GW172, Q_GE172, Q_NB157_172, Q_NB172_157, Q_NB158_172, Q_NB172_158, Q_NB159_172, Q_NB172_159, Q_NB160_172, Q_NB172_160, Q_BK173, Q_GW173, Q_GE173, Q_NB157_173, Q_NB173_157, Q_NB158_173, Q_NB173_158, Q_NB159_173, Q_NB173_159, Q_NB160_173, Q_NB173_160, fun h0_ => absurd ((hoff 12 (by kernel_rfl)).symm.trans h0_) (by decide), fun h0_ => absurd ((hoff 13 (by kernel_rfl)).symm.trans h0_) (by decide), fun h0_ => absurd ((hoff 14 (by kernel_rfl)).symm.trans h0_) (by decide), Q_X9_, Q_X10_, Q_X11_⟩
   refine steps_cons ?_ ?_
   ·rintro b a w' ⟨gb171, gb172, gb173, m9_, m10_, m11_, ha, Q_BK157, Q_BK158, Q_BK159, Q_BK160, Q_HB, Q_NB172_171, Q_NB171_172, Q_NB173_171, Q_NB171_173, Q_NB173_172, Q_NB172_173, Q_BK171, Q_GW171, Q_GE171, Q_NB157_171, Q_NB171_157, Q_NB158_171, Q_NB171_158, Q_NB159_171, Q_NB171_159, Q_NB160_171, Q_NB171_160, Q_BK172, Q_GW172, Q_GE172, Q_NB157_172, Q_NB172_157, Q_NB158_172, Q_NB172_158, Q_NB159_172, Q_NB172_159, Q_NB160_172, Q_NB172_160, Q_BK173, Q_GW173, Q_GE173, Q_NB157_173, Q_NB173_157, Q_NB158_173, Q_NB173_158, Q_NB159_173, Q_NB173_159, Q_NB160_173, Q_NB173_160, Q_BK171_e12, Q_BK172_e13, Q_BK173_e14, Q_X9_, Q_X10_, Q_X11_⟩ hb_ hon hoff
    refine ⟨_, rfl, fun K hK => ?_⟩
    have e23 : a.tmps[23]? = some (.agg #[.int .i64 a3_0, .int .i64 a3_1]) := by rw [ha]; exact putSel_on (e := (3, 23, .agg #[.int .i64 a3_0, .int .i64 a3_1])) 3 rfl rfl (hon 3 (by kernel_rfl)) rfl
    have e24 : a.tmps[24]? = some (.agg #[.int .i64 a1_0, .int .i64 a1_1]) := by rw [ha]; exact putSel_on (e := (4, 24, .agg #[.int .i64 a1_0, .int .i64 a1_1])) 4 rfl rfl (hon 4 (by kernel_rfl)) rfl
    replace ha := Aside0.mk ha
    have BK157 := Aside0.mk Q_BK157
    have BK158 := Aside0.mk Q_BK158
    have BK159 := Aside0.mk Q_BK159
    have BK160 := Aside0.mk Q_BK160
    have HB := Aside0.mk Q_HB
    refine goes_ Try.func24 (by kernel_rfl) rfl #[.agg #[.int .i64 a3_0, .int .i64 a3_1], .agg #[.int .i64 a1_0, .int .i64 a1_1]] (by rfl) rfl rfl (by first | (simp only [List.map_toArray, List.map_cons, List.map_nil, Act.eval, Array.getD_eq_getD_getElem?, Option.getD_some, e23, e24]; done) | (simp only [List.map_toArray, List.map_cons, List.map_nil, Act.eval, Array.getD_eq_getD_getElem?, Option.getD_some, e23, e24]; rfl)) ?_
    with_reducible refine (pred_way.calls a3_0 a3_1 a1_0 a1_1 t167 t168 _ A8.out).mono ?_
    rintro e w43 ⟨rfl, hb⟩
    refine ⟨_, rfl, ?_⟩
    have n0_ := Aside0.mk (blk_below (g := gb157) (o := .cells #[.int .i64 a0_0, .int .i64 a0_1] 23 (0, 0)) (by (with_reducible repeat (first | refine blk_drewN ?_ _ | refine blk_drew ?_ | refine blk_alloc ?_ _)); exact BK157.out) hb)
    have n1_ := Aside0.mk (blk_below (g := gb158) (o := .cells #[.int .i64 a1_0, .int .i64 a1_1] 23 (0, 0)) (by (with_reducible repeat (first | refine blk_drewN ?_ _ | refine blk_drew ?_ | refine blk_alloc ?_ _)); exact BK158.out) hb)
    have n2_ := Aside0.mk (blk_below (g := gb159) (o := .cells #[.int .i64 a2_0, .int .i64 a2_1] 23 (0, 0)) (by (with_reducible repeat (first | refine blk_drewN ?_ _ | refine blk_drew ?_ | refine blk_alloc ?_ _)); exact BK159.out) hb)
    have n3_ := Aside0.mk (blk_below (g := gb160) (o := .cells #[.int .i64 a3_0, .int .i64 a3_1] 23 (0, 0)) (by (with_reducible repeat (first | refine blk_drewN ?_ _ | refine blk_drew ?_ | refine blk_alloc ?_ _)); exact BK160.out) hb)
    have n4_ := Aside0.mk (below_step (by repeat (first | (with_reducible first | exact HB.out | apply below_alloc | apply pw_below_drewN | apply below_drew1 | refine below_set ?_ GE157.out | refine below_set ?_ GE158.out | refine below_set ?_ GE159.out | refine below_set ?_ GE160.out) | exact HB.out)) hb)
    have z_BK171 := fun (h0_ : b 9 = true) (h1_ : b 12 = false) => (show w43.heap[gb171]? = some (.cells #[.int .i64 0, .int .i64 0] 23 (0, 0)) from by first | exact (blk_below (g := gb171) (o := .cells #[.int .i64 0, .int .i64 0] 23 (0, 0)) (by (with_reducible repeat (first | refine blk_drewN ?_ _ | refine blk_drew ?_ | refine blk_alloc ?_ _)); exact (Q_BK171 h0_ h1_)) hb))
    have z_BK172 := fun (h0_ : b 10 = true) (h1_ : b 13 = false) => (show w43.heap[gb172]? = some (.cells #[.int .i64 0, .int .i64 0] 23 (0, 0)) from by first | exact (blk_below (g := gb172) (o := .cells #[.int .i64 0, .int .i64 0] 23 (0, 0)) (by (with_reducible repeat (first | refine blk_drewN ?_ _ | refine blk_drew ?_ | refine blk_alloc ?_ _)); exact (Q_BK172 h0_ h1_)) hb))
    have z_BK173 := fun (h0_ : b 11 = true) (h1_ : b 14 = false) => (show w43.heap[gb173]? = some (.cells #[.int .i64 0, .int .i64 0] 23 (0, 0)) from by first | exact (blk_below (g := gb173) (o := .cells #[.int .i64 0, .int .i64 0] 23 (0, 0)) (by (with_reducible repeat (first | refine blk_drewN ?_ _ | refine blk_drew ?_ | refine blk_alloc ?_ _)); exact (Q_BK173 h0_ h1_)) hb))
    clear BK157
    clear BK158
    clear BK159
    clear BK160
    clear HB
    have BK157 := n0_
    have BK158 := n1_
    have BK159 := n2_
    have BK160 := n3_
    have HB := n4_
    clear n0_ n1_ n2_ n3_ n4_
    (try clear hb)
    (try clear hb2)
    (try clear hk)
    (try clear hi)
    refine hK.out _ _ ⟨gb171, gb172, gb173, m9_, m10_, m11_, (by rw [ha.out]; exact putSel_upk 5 hb_ rfl rfl rfl), (by (with_reducible repeat (first | refine blk_drewN ?_ _ | refine blk_drew ?_ | refine blk_alloc ?_ _)); exact BK157.out), (by (with_reducible repeat (first | refine blk_drewN ?_ _ | refine blk_drew ?_ | refine blk_alloc ?_ _)); exact BK158.out), (by (with_reducible repeat (first | refine blk_drewN ?_ _ | refine blk_drew ?_ | refine blk_alloc ?_ _)); exact BK159.out), (by (with_reducible repeat (first | refine blk_drewN ?_ _ | refine blk_drew ?_ | refine blk_alloc ?_ _)); exact BK160.out), (by repeat (first | (with_reducible first | exact HB.out | apply below_alloc | apply pw_below_drewN | apply below_drew1 | refine below_set ?_ GE157.out | refine below_set ?_ GE158.out | refine below_set ?_ GE159.out | refine below_set ?_ GE160.out) | exact HB.out)), Q_NB172_171, Q_NB171_172, Q_NB173_171, Q_NB171_173, Q_NB173_172, Q_NB172_173, z_BK171, Q_GW171, Q_GE171, Q_NB157_171, Q_NB171_157, Q_NB158_171, Q_NB171_158, Q_NB159_171, Q_NB171_159, Q_NB160_171, Q_NB171_160, z_BK172, Q_GW172, Q_GE172, Q_NB157_172, Q_NB172_157, Q_NB158_172, Q_NB172_158, Q_NB159_172, Q_NB172_159, Q_NB160_172, Q_NB172_160, z_BK173, Q_GW173, Q_GE173, Q_NB157_173, Q_NB173_157, Q_NB158_173, Q_NB173_158, Q_NB159_173, Q_NB173_159, Q_NB160_173, Q_NB173_160, fun h0_ => absurd ((hoff 12 (by kernel_rfl)).symm.trans h0_) (by decide), fun h0_ => absurd ((hoff 13 (by kernel_rfl)).symm.trans h0_) (by decide), fun h0_ => absurd ((hoff 14 (by kernel_rfl)).symm.trans h0_) (by decide), Q_X9_, Q_X10_, Q_X11_⟩
   refine steps_cons ?_ ?_
   ·rintro b a w' ⟨gb171, gb172, gb173, m9_, m10_, m11_, ha, Q_BK157, Q_BK158, Q_BK159, Q_BK160, Q_HB, Q_NB172_171, Q_NB171_172, Q_NB173_171, Q_NB171_173, Q_NB173_172, Q_NB172_173, Q_BK171, Q_GW171, Q_GE171, Q_NB157_171, Q_NB171_157, Q_NB158_171, Q_NB171_158, Q_NB159_171, Q_NB171_159, Q_NB160_171, Q_NB171_160, Q_BK172, Q_GW172, Q_GE172, Q_NB157_172, Q_NB172_157, Q_NB158_172, Q_NB172_158, Q_NB159_172, Q_NB172_159, Q_NB160_172, Q_NB172_160, Q_BK173, Q_GW173, Q_GE173, Q_NB157_173, Q_NB173_157, Q_NB158_173, Q_NB173_158, Q_NB159_173, Q_NB173_159, Q_NB160_173, Q_NB173_160, Q_BK171_e12, Q_BK172_e13, Q_BK173_e14, Q_X9_, Q_X10_, Q_X11_⟩ hb_ hon hoff
    refine ⟨_, rfl, fun K hK => ?_⟩
    have e7 : a.tmps[7]? = some (.pointer (some ⟨gb160, 0, none⟩)) := by rw [ha]; exact (putSel_off rfl).trans rfl
    replace ha := Aside0.mk ha
    have BK157 := Aside0.mk Q_BK157
    have BK158 := Aside0.mk Q_BK158
    have BK159 := Aside0.mk Q_BK159
    have BK160 := Aside0.mk Q_BK160
    have HB := Aside0.mk Q_HB
    have hc0_ : w'.cell? ⟨gb160, 0, none⟩ = some (.int .i64 a3_0) := (blk_cell BK160.out 0).trans rfl
    have hc1_ : w'.cell? ⟨gb160, 1, none⟩ = some (.int .i64 a3_1) := (blk_cell BK160.out 1).trans rfl
    refine value_ (w1 := w') (v := .agg #[.int .i64 a3_0, .int .i64 a3_1]) (by rfl) rfl ?_ ?_
    ·go_simp
     (try simp only [i64_w])
     try rfl
    refine hK.out _ _ ⟨gb171, gb172, gb173, m9_, m10_, m11_, (by rw [ha.out]; exact putSel_upk 6 hb_ rfl rfl rfl), Q_BK157, Q_BK158, Q_BK159, Q_BK160, Q_HB, Q_NB172_171, Q_NB171_172, Q_NB173_171, Q_NB171_173, Q_NB173_172, Q_NB172_173, Q_BK171, Q_GW171, Q_GE171, Q_NB157_171, Q_NB171_157, Q_NB158_171, Q_NB171_158, Q_NB159_171, Q_NB171_159, Q_NB160_171, Q_NB171_160, Q_BK172, Q_GW172, Q_GE172, Q_NB157_172, Q_NB172_157, Q_NB158_172, Q_NB172_158, Q_NB159_172, Q_NB172_159, Q_NB160_172, Q_NB172_160, Q_BK173, Q_GW173, Q_GE173, Q_NB157_173, Q_NB173_157, Q_NB158_173, Q_NB173_158, Q_NB159_173, Q_NB173_159, Q_NB160_173, Q_NB173_160, fun h0_ => absurd ((hoff 12 (by kernel_rfl)).symm.trans h0_) (by decide), fun h0_ => absurd ((hoff 13 (by kernel_rfl)).symm.trans h0_) (by decide), fun h0_ => absurd ((hoff 14 (by kernel_rfl)).symm.trans h0_) (by decide), Q_X9_, Q_X10_, Q_X11_⟩
   refine steps_cons ?_ ?_
   ·rintro b a w' ⟨gb171, gb172, gb173, m9_, m10_, m11_, ha, Q_BK157, Q_BK158, Q_BK159, Q_BK160, Q_HB, Q_NB172_171, Q_NB171_172, Q_NB173_171, Q_NB171_173, Q_NB173_172, Q_NB172_173, Q_BK171, Q_GW171, Q_GE171, Q_NB157_171, Q_NB171_157, Q_NB158_171, Q_NB171_158, Q_NB159_171, Q_NB171_159, Q_NB160_171, Q_NB171_160, Q_BK172, Q_GW172, Q_GE172, Q_NB157_172, Q_NB172_157, Q_NB158_172, Q_NB172_158, Q_NB159_172, Q_NB172_159, Q_NB160_172, Q_NB172_160, Q_BK173, Q_GW173, Q_GE173, Q_NB157_173, Q_NB173_157, Q_NB158_173, Q_NB173_158, Q_NB159_173, Q_NB173_159, Q_NB160_173, Q_NB173_160, Q_BK171_e12, Q_BK172_e13, Q_BK173_e14, Q_X9_, Q_X10_, Q_X11_⟩ hb_ hon hoff
    refine ⟨_, rfl, fun K hK => ?_⟩
    have e6 : a.tmps[6]? = some (.pointer (some ⟨gb159, 0, none⟩)) := by rw [ha]; exact (putSel_off rfl).trans rfl
    replace ha := Aside0.mk ha
    have BK157 := Aside0.mk Q_BK157
    have BK158 := Aside0.mk Q_BK158
    have BK159 := Aside0.mk Q_BK159
    have BK160 := Aside0.mk Q_BK160
    have HB := Aside0.mk Q_HB
    have hc0_ : w'.cell? ⟨gb159, 0, none⟩ = some (.int .i64 a2_0) := (blk_cell BK159.out 0).trans rfl
    have hc1_ : w'.cell? ⟨gb159, 1, none⟩ = some (.int .i64 a2_1) := (blk_cell BK159.out 1).trans rfl
    refine value_ (w1 := w') (v := .agg #[.int .i64 a2_0, .int .i64 a2_1]) (by rfl) rfl ?_ ?_
    ·go_simp
     (try simp only [i64_w])
     try rfl
    refine hK.out _ _ ⟨gb171, gb172, gb173, m9_, m10_, m11_, (by rw [ha.out]; exact putSel_upk 7 hb_ rfl rfl rfl), Q_BK157, Q_BK158, Q_BK159, Q_BK160, Q_HB, Q_NB172_171, Q_NB171_172, Q_NB173_171, Q_NB171_173, Q_NB173_172, Q_NB172_173, Q_BK171, Q_GW171, Q_GE171, Q_NB157_171, Q_NB171_157, Q_NB158_171, Q_NB171_158, Q_NB159_171, Q_NB171_159, Q_NB160_171, Q_NB171_160, Q_BK172, Q_GW172, Q_GE172, Q_NB157_172, Q_NB172_157, Q_NB158_172, Q_NB172_158, Q_NB159_172, Q_NB172_159, Q_NB160_172, Q_NB172_160, Q_BK173, Q_GW173, Q_GE173, Q_NB157_173, Q_NB173_157, Q_NB158_173, Q_NB173_158, Q_NB159_173, Q_NB173_159, Q_NB160_173, Q_NB173_160, fun h0_ => absurd ((hoff 12 (by kernel_rfl)).symm.trans h0_) (by decide), fun h0_ => absurd ((hoff 13 (by kernel_rfl)).symm.trans h0_) (by decide), fun h0_ => absurd ((hoff 14 (by kernel_rfl)).symm.trans h0_) (by decide), Q_X9_, Q_X10_, Q_X11_⟩
   refine steps_cons ?_ ?_
   ·rintro b a w' ⟨gb171, gb172, gb173, m9_, m10_, m11_, ha, Q_BK157, Q_BK158, Q_BK159, Q_BK160, Q_HB, Q_NB172_171, Q_NB171_172, Q_NB173_171, Q_NB171_173, Q_NB173_172, Q_NB172_173, Q_BK171, Q_GW171, Q_GE171, Q_NB157_171, Q_NB171_157, Q_NB158_171, Q_NB171_158, Q_NB159_171, Q_NB171_159, Q_NB160_171, Q_NB171_160, Q_BK172, Q_GW172, Q_GE172, Q_NB157_172, Q_NB172_157, Q_NB158_172, Q_NB172_158, Q_NB159_172, Q_NB172_159, Q_NB160_172, Q_NB172_160, Q_BK173, Q_GW173, Q_GE173, Q_NB157_173, Q_NB173_157, Q_NB158_173, Q_NB173_158, Q_NB159_173, Q_NB173_159, Q_NB160_173, Q_NB173_160, Q_BK171_e12, Q_BK172_e13, Q_BK173_e14, Q_X9_, Q_X10_, Q_X11_⟩ hb_ hon hoff
    refine ⟨_, rfl, fun K hK => ?_⟩
    have e26 : a.tmps[26]? = some (.agg #[.int .i64 a3_0, .int .i64 a3_1]) := by rw [ha]; exact putSel_on (e := (6, 26, .agg #[.int .i64 a3_0, .int .i64 a3_1])) 6 rfl rfl (hon 6 (by kernel_rfl)) rfl
    have e27 : a.tmps[27]? = some (.agg #[.int .i64 a2_0, .int .i64 a2_1]) := by rw [ha]; exact putSel_on (e := (7, 27, .agg #[.int .i64 a2_0, .int .i64 a2_1])) 7 rfl rfl (hon 7 (by kernel_rfl)) rfl
    replace ha := Aside0.mk ha
    have BK157 := Aside0.mk Q_BK157
    have BK158 := Aside0.mk Q_BK158
    have BK159 := Aside0.mk Q_BK159
    have BK160 := Aside0.mk Q_BK160
    have HB := Aside0.mk Q_HB
    refine goes_ Try.func24 (by kernel_rfl) rfl #[.agg #[.int .i64 a3_0, .int .i64 a3_1], .agg #[.int .i64 a2_0, .int .i64 a2_1]] (by rfl) rfl rfl (by first | (simp only [List.map_toArray, List.map_cons, List.map_nil, Act.eval, Array.getD_eq_getD_getElem?, Option.getD_some, e26, e27]; done) | (simp only [List.map_toArray, List.map_cons, List.map_nil, Act.eval, Array.getD_eq_getD_getElem?, Option.getD_some, e26, e27]; rfl)) ?_
    with_reducible refine (pred_way.calls a3_0 a3_1 a2_0 a2_1 t169 t170 _ A9.out).mono ?_
    rintro e w44 ⟨rfl, hb⟩
    refine ⟨_, rfl, ?_⟩
    have n0_ := Aside0.mk (blk_below (g := gb157) (o := .cells #[.int .i64 a0_0, .int .i64 a0_1] 23 (0, 0)) (by (with_reducible repeat (first | refine blk_drewN ?_ _ | refine blk_drew ?_ | refine blk_alloc ?_ _)); exact BK157.out) hb)
    have n1_ := Aside0.mk (blk_below (g := gb158) (o := .cells #[.int .i64 a1_0, .int .i64 a1_1] 23 (0, 0)) (by (with_reducible repeat (first | refine blk_drewN ?_ _ | refine blk_drew ?_ | refine blk_alloc ?_ _)); exact BK158.out) hb)
    have n2_ := Aside0.mk (blk_below (g := gb159) (o := .cells #[.int .i64 a2_0, .int .i64 a2_1] 23 (0, 0)) (by (with_reducible repeat (first | refine blk_drewN ?_ _ | refine blk_drew ?_ | refine blk_alloc ?_ _)); exact BK159.out) hb)
    have n3_ := Aside0.mk (blk_below (g := gb160) (o := .cells #[.int .i64 a3_0, .int .i64 a3_1] 23 (0, 0)) (by (with_reducible repeat (first | refine blk_drewN ?_ _ | refine blk_drew ?_ | refine blk_alloc ?_ _)); exact BK160.out) hb)
    have n4_ := Aside0.mk (below_step (by repeat (first | (with_reducible first | exact HB.out | apply below_alloc | apply pw_below_drewN | apply below_drew1 | refine below_set ?_ GE157.out | refine below_set ?_ GE158.out | refine below_set ?_ GE159.out | refine below_set ?_ GE160.out) | exact HB.out)) hb)
    have z_BK171 := fun (h0_ : b 9 = true) (h1_ : b 12 = false) => (show w44.heap[gb171]? = some (.cells #[.int .i64 0, .int .i64 0] 23 (0, 0)) from by first | exact (blk_below (g := gb171) (o := .cells #[.int .i64 0, .int .i64 0] 23 (0, 0)) (by (with_reducible repeat (first | refine blk_drewN ?_ _ | refine blk_drew ?_ | refine blk_alloc ?_ _)); exact (Q_BK171 h0_ h1_)) hb))
    have z_BK172 := fun (h0_ : b 10 = true) (h1_ : b 13 = false) => (show w44.heap[gb172]? = some (.cells #[.int .i64 0, .int .i64 0] 23 (0, 0)) from by first | exact (blk_below (g := gb172) (o := .cells #[.int .i64 0, .int .i64 0] 23 (0, 0)) (by (with_reducible repeat (first | refine blk_drewN ?_ _ | refine blk_drew ?_ | refine blk_alloc ?_ _)); exact (Q_BK172 h0_ h1_)) hb))
    have z_BK173 := fun (h0_ : b 11 = true) (h1_ : b 14 = false) => (show w44.heap[gb173]? = some (.cells #[.int .i64 0, .int .i64 0] 23 (0, 0)) from by first | exact (blk_below (g := gb173) (o := .cells #[.int .i64 0, .int .i64 0] 23 (0, 0)) (by (with_reducible repeat (first | refine blk_drewN ?_ _ | refine blk_drew ?_ | refine blk_alloc ?_ _)); exact (Q_BK173 h0_ h1_)) hb))
    clear BK157
    clear BK158
    clear BK159
    clear BK160
    clear HB
    have BK157 := n0_
    have BK158 := n1_
    have BK159 := n2_
    have BK160 := n3_
    have HB := n4_
    clear n0_ n1_ n2_ n3_ n4_
    (try clear hb)
    (try clear hb2)
    (try clear hk)
    (try clear hi)
    refine hK.out _ _ ⟨gb171, gb172, gb173, m9_, m10_, m11_, (by rw [ha.out]; exact putSel_upk 8 hb_ rfl rfl rfl), (by (with_reducible repeat (first | refine blk_drewN ?_ _ | refine blk_drew ?_ | refine blk_alloc ?_ _)); exact BK157.out), (by (with_reducible repeat (first | refine blk_drewN ?_ _ | refine blk_drew ?_ | refine blk_alloc ?_ _)); exact BK158.out), (by (with_reducible repeat (first | refine blk_drewN ?_ _ | refine blk_drew ?_ | refine blk_alloc ?_ _)); exact BK159.out), (by (with_reducible repeat (first | refine blk_drewN ?_ _ | refine blk_drew ?_ | refine blk_alloc ?_ _)); exact BK160.out), (by repeat (first | (with_reducible first | exact HB.out | apply below_alloc | apply pw_below_drewN | apply below_drew1 | refine below_set ?_ GE157.out | refine below_set ?_ GE158.out | refine below_set ?_ GE159.out | refine below_set ?_ GE160.out) | exact HB.out)), Q_NB172_171, Q_NB171_172, Q_NB173_171, Q_NB171_173, Q_NB173_172, Q_NB172_173, z_BK171, Q_GW171, Q_GE171, Q_NB157_171, Q_NB171_157, Q_NB158_171, Q_NB171_158, Q_NB159_171, Q_NB171_159, Q_NB160_171, Q_NB171_160, z_BK172, Q_GW172, Q_GE172, Q_NB157_172, Q_NB172_157, Q_NB158_172, Q_NB172_158, Q_NB159_172, Q_NB172_159, Q_NB160_172, Q_NB172_160, z_BK173, Q_GW173, Q_GE173, Q_NB157_173, Q_NB173_157, Q_NB158_173, Q_NB173_158, Q_NB159_173, Q_NB173_159, Q_NB160_173, Q_NB173_160, fun h0_ => absurd ((hoff 12 (by kernel_rfl)).symm.trans h0_) (by decide), fun h0_ => absurd ((hoff 13 (by kernel_rfl)).symm.trans h0_) (by decide), fun h0_ => absurd ((hoff 14 (by kernel_rfl)).symm.trans h0_) (by decide), Q_X9_, Q_X10_, Q_X11_⟩
   refine steps_cons ?_ ?_
   ·rintro b a w' ⟨gb171, gb172, gb173, m9_, m10_, m11_, ha, Q_BK157, Q_BK158, Q_BK159, Q_BK160, Q_HB, Q_NB172_171, Q_NB171_172, Q_NB173_171, Q_NB171_173, Q_NB173_172, Q_NB172_173, Q_BK171, Q_GW171, Q_GE171, Q_NB157_171, Q_NB171_157, Q_NB158_171, Q_NB171_158, Q_NB159_171, Q_NB171_159, Q_NB160_171, Q_NB171_160, Q_BK172, Q_GW172, Q_GE172, Q_NB157_172, Q_NB172_157, Q_NB158_172, Q_NB172_158, Q_NB159_172, Q_NB172_159, Q_NB160_172, Q_NB172_160, Q_BK173, Q_GW173, Q_GE173, Q_NB157_173, Q_NB173_157, Q_NB158_173, Q_NB173_158, Q_NB159_173, Q_NB173_159, Q_NB160_173, Q_NB173_160, Q_BK171_e12, Q_BK172_e13, Q_BK173_e14, Q_X9_, Q_X10_, Q_X11_⟩ hb_ hon hoff
    refine ⟨_, rfl, fun K hK => ?_⟩
    replace ha := Aside0.mk ha
    have BK157 := Aside0.mk Q_BK157
    have BK158 := Aside0.mk Q_BK158
    have BK159 := Aside0.mk Q_BK159
    have BK160 := Aside0.mk Q_BK160
    have HB := Aside0.mk Q_HB
    refine box_step ?hg (N := 9) ?hd (cs := #[.int .i64 0, .int .i64 0]) (t := 23) ?hr ?_; (case hd => rfl); (case hg => rfl); (case hr => first | (go_simp; done) | (go_simp; rfl))
    intro gb171 hg w41 hbox hb
    have n0_ := Aside0.mk (blk_below (g := gb157) (o := .cells #[.int .i64 a0_0, .int .i64 a0_1] 23 (0, 0)) (by (with_reducible repeat (first | refine blk_drewN ?_ _ | refine blk_drew ?_ | refine blk_alloc ?_ _)); exact BK157.out) hb)
    have n1_ := Aside0.mk (blk_below (g := gb158) (o := .cells #[.int .i64 a1_0, .int .i64 a1_1] 23 (0, 0)) (by (with_reducible repeat (first | refine blk_drewN ?_ _ | refine blk_drew ?_ | refine blk_alloc ?_ _)); exact BK158.out) hb)
    have n2_ := Aside0.mk (blk_below (g := gb159) (o := .cells #[.int .i64 a2_0, .int .i64 a2_1] 23 (0, 0)) (by (with_reducible repeat (first | refine blk_drewN ?_ _ | refine blk_drew ?_ | refine blk_alloc ?_ _)); exact BK159.out) hb)
    have n3_ := Aside0.mk (blk_below (g := gb160) (o := .cells #[.int .i64 a3_0, .int .i64 a3_1] 23 (0, 0)) (by (with_reducible repeat (first | refine blk_drewN ?_ _ | refine blk_drew ?_ | refine blk_alloc ?_ _)); exact BK160.out) hb)
    have n4_ := Aside0.mk (below_step (by repeat (first | (with_reducible first | exact HB.out | apply below_alloc | apply pw_below_drewN | apply below_drew1 | refine below_set ?_ GE157.out | refine below_set ?_ GE158.out | refine below_set ?_ GE159.out | refine below_set ?_ GE160.out) | exact HB.out)) hb)
    have n5_ := Aside0.mk (hbox)
    have n6_ := Aside0.mk ((by rw [hg]; exact (below_size (by repeat (first | (with_reducible first | exact HB.out | apply below_alloc | apply pw_below_drewN | apply below_drew1 | refine below_set ?_ GE157.out | refine below_set ?_ GE158.out | refine below_set ?_ GE159.out | refine below_set ?_ GE160.out) | exact HB.out))) : w.heap.size ≤ gb171))
    have n7_ := Aside0.mk ((by rw [hg]; exact (below_size (by repeat (first | (with_reducible first | exact HB.out | apply below_alloc | apply pw_below_drewN | apply below_drew1 | refine below_set ?_ GE157.out | refine below_set ?_ GE158.out | refine below_set ?_ GE159.out | refine below_set ?_ GE160.out) | exact HB.out))) : w.heap.size ≤ gb171))
    have n8_ := Aside0.mk ((by rw [hg]; exact Nat.ne_of_lt (blk_lt (g := gb157) (o := .cells #[.int .i64 a0_0, .int .i64 a0_1] 23 (0, 0)) (by (with_reducible repeat (first | refine blk_drewN ?_ _ | refine blk_drew ?_ | refine blk_alloc ?_ _)); exact BK157.out)) : gb157 ≠ gb171))
    have n9_ := Aside0.mk ((by rw [hg]; exact Nat.ne_of_gt (blk_lt (g := gb157) (o := .cells #[.int .i64 a0_0, .int .i64 a0_1] 23 (0, 0)) (by (with_reducible repeat (first | refine blk_drewN ?_ _ | refine blk_drew ?_ | refine blk_alloc ?_ _)); exact BK157.out)) : gb171 ≠ gb157))
    have n10_ := Aside0.mk ((by rw [hg]; exact Nat.ne_of_lt (blk_lt (g := gb158) (o := .cells #[.int .i64 a1_0, .int .i64 a1_1] 23 (0, 0)) (by (with_reducible repeat (first | refine blk_drewN ?_ _ | refine blk_drew ?_ | refine blk_alloc ?_ _)); exact BK158.out)) : gb158 ≠ gb171))
    have n11_ := Aside0.mk ((by rw [hg]; exact Nat.ne_of_gt (blk_lt (g := gb158) (o := .cells #[.int .i64 a1_0, .int .i64 a1_1] 23 (0, 0)) (by (with_reducible repeat (first | refine blk_drewN ?_ _ | refine blk_drew ?_ | refine blk_alloc ?_ _)); exact BK158.out)) : gb171 ≠ gb158))
    have n12_ := Aside0.mk ((by rw [hg]; exact Nat.ne_of_lt (blk_lt (g := gb159) (o := .cells #[.int .i64 a2_0, .int .i64 a2_1] 23 (0, 0)) (by (with_reducible repeat (first | refine blk_drewN ?_ _ | refine blk_drew ?_ | refine blk_alloc ?_ _)); exact BK159.out)) : gb159 ≠ gb171))
    have n13_ := Aside0.mk ((by rw [hg]; exact Nat.ne_of_gt (blk_lt (g := gb159) (o := .cells #[.int .i64 a2_0, .int .i64 a2_1] 23 (0, 0)) (by (with_reducible repeat (first | refine blk_drewN ?_ _ | refine blk_drew ?_ | refine blk_alloc ?_ _)); exact BK159.out)) : gb171 ≠ gb159))
    have n14_ := Aside0.mk ((by rw [hg]; exact Nat.ne_of_lt (blk_lt (g := gb160) (o := .cells #[.int .i64 a3_0, .int .i64 a3_1] 23 (0, 0)) (by (with_reducible repeat (first | refine blk_drewN ?_ _ | refine blk_drew ?_ | refine blk_alloc ?_ _)); exact BK160.out)) : gb160 ≠ gb171))
    have n15_ := Aside0.mk ((by rw [hg]; exact Nat.ne_of_gt (blk_lt (g := gb160) (o := .cells #[.int .i64 a3_0, .int .i64 a3_1] 23 (0, 0)) (by (with_reducible repeat (first | refine blk_drewN ?_ _ | refine blk_drew ?_ | refine blk_alloc ?_ _)); exact BK160.out)) : gb171 ≠ gb160))
    have z_NB172_171 := fun (h0_ : up b 9 9 = true) (h1_ : up b 9 10 = true) => (show gb172 ≠ gb171 from ((by rw [hg]; exact Nat.ne_of_lt (blk_lt (g := gb172) (o := .cells #[.int .i64 0, .int .i64 0] 23 (0, 0)) (by (with_reducible repeat (first | refine blk_drewN ?_ _ | refine blk_drew ?_ | refine blk_alloc ?_ _)); exact (Q_BK172 ((up_ne (by decide : 10 ≠ 9)).symm.trans h1_) (hoff 13 (by kernel_rfl))))) : gb172 ≠ gb171)))
    have z_NB171_172 := fun (h0_ : up b 9 9 = true) (h1_ : up b 9 10 = true) => (show gb171 ≠ gb172 from ((by rw [hg]; exact Nat.ne_of_gt (blk_lt (g := gb172) (o := .cells #[.int .i64 0, .int .i64 0] 23 (0, 0)) (by (with_reducible repeat (first | refine blk_drewN ?_ _ | refine blk_drew ?_ | refine blk_alloc ?_ _)); exact (Q_BK172 ((up_ne (by decide : 10 ≠ 9)).symm.trans h1_) (hoff 13 (by kernel_rfl))))) : gb171 ≠ gb172)))
    have z_NB173_171 := fun (h0_ : up b 9 9 = true) (h1_ : up b 9 11 = true) => (show gb173 ≠ gb171 from ((by rw [hg]; exact Nat.ne_of_lt (blk_lt (g := gb173) (o := .cells #[.int .i64 0, .int .i64 0] 23 (0, 0)) (by (with_reducible repeat (first | refine blk_drewN ?_ _ | refine blk_drew ?_ | refine blk_alloc ?_ _)); exact (Q_BK173 ((up_ne (by decide : 11 ≠ 9)).symm.trans h1_) (hoff 14 (by kernel_rfl))))) : gb173 ≠ gb171)))
    have z_NB171_173 := fun (h0_ : up b 9 9 = true) (h1_ : up b 9 11 = true) => (show gb171 ≠ gb173 from ((by rw [hg]; exact Nat.ne_of_gt (blk_lt (g := gb173) (o := .cells #[.int .i64 0, .int .i64 0] 23 (0, 0)) (by (with_reducible repeat (first | refine blk_drewN ?_ _ | refine blk_drew ?_ | refine blk_alloc ?_ _)); exact (Q_BK173 ((up_ne (by decide : 11 ≠ 9)).symm.trans h1_) (hoff 14 (by kernel_rfl))))) : gb171 ≠ gb173)))
    have z_BK172 := fun (h0_ : b 10 = true) (h1_ : b 13 = false) => (show w41.heap[gb172]? = some (.cells #[.int .i64 0, .int .i64 0] 23 (0, 0)) from by first | exact (blk_below (g := gb172) (o := .cells #[.int .i64 0, .int .i64 0] 23 (0, 0)) (by (with_reducible repeat (first | refine blk_drewN ?_ _ | refine blk_drew ?_ | refine blk_alloc ?_ _)); exact (Q_BK172 h0_ h1_)) hb))
    have z_BK173 := fun (h0_ : b 11 = true) (h1_ : b 14 = false) => (show w41.heap[gb173]? = some (.cells #[.int .i64 0, .int .i64 0] 23 (0, 0)) from by first | exact (blk_below (g := gb173) (o := .cells #[.int .i64 0, .int .i64 0] 23 (0, 0)) (by (with_reducible repeat (first | refine blk_drewN ?_ _ | refine blk_drew ?_ | refine blk_alloc ?_ _)); exact (Q_BK173 h0_ h1_)) hb))
    clear BK157
    clear BK158
    clear BK159
    clear BK160
    clear HB
    have BK157 := n0_
    have BK158 := n1_
    have BK159 := n2_
    have BK160 := n3_
    have HB := n4_
    have BK171 := n5_
    have GW171 := n6_
    have GE171 := n7_
    have NB157_171 := n8_
    have NB171_157 := n9_
    have NB158_171 := n10_
    have NB171_158 := n11_
    have NB159_171 := n12_
    have NB171_159 := n13_
    have NB160_171 := n14_
    have NB171_160 := n15_
    clear n0_ n1_ n2_ n3_ n4_ n5_ n6_ n7_ n8_ n9_ n10_ n11_ n12_ n13_ n14_ n15_
    clear hb hbox hg
    refine hK.out _ _ ⟨gb171, gb172, gb173, (.pointer (some ⟨gb171, 0, none⟩)), m10_, m11_, (by rw [ha.out]; exact putSel_upk 9 hb_ rfl rfl rfl), (by (with_reducible repeat (first | refine blk_drewN ?_ _ | refine blk_drew ?_ | refine blk_alloc ?_ _)); exact BK157.out), (by (with_reducible repeat (first | refine blk_drewN ?_ _ | refine blk_drew ?_ | refine blk_alloc ?_ _)); exact BK158.out), (by (with_reducible repeat (first | refine blk_drewN ?_ _ | refine blk_drew ?_ | refine blk_alloc ?_ _)); exact BK159.out), (by (with_reducible repeat (first | refine blk_drewN ?_ _ | refine blk_drew ?_ | refine blk_alloc ?_ _)); exact BK160.out), (by repeat (first | (with_reducible first | exact HB.out | apply below_alloc | apply pw_below_drewN | apply below_drew1 | refine below_set ?_ GE157.out | refine below_set ?_ GE158.out | refine below_set ?_ GE159.out | refine below_set ?_ GE160.out | refine below_set ?_ GE171.out) | exact HB.out)), @z_NB172_171, @z_NB171_172, @z_NB173_171, @z_NB171_173, Q_NB173_172, Q_NB172_173, fun _ _ => (by (with_reducible repeat (first | refine blk_drewN ?_ _ | refine blk_drew ?_ | refine blk_alloc ?_ _)); exact BK171.out), fun _ => GW171.out, fun _ => GE171.out, fun _ => NB157_171.out, fun _ => NB171_157.out, fun _ => NB158_171.out, fun _ => NB171_158.out, fun _ => NB159_171.out, fun _ => NB171_159.out, fun _ => NB160_171.out, fun _ => NB171_160.out, z_BK172, Q_GW172, Q_GE172, Q_NB157_172, Q_NB172_157, Q_NB158_172, Q_NB172_158, Q_NB159_172, Q_NB172_159, Q_NB160_172, Q_NB172_160, z_BK173, Q_GW173, Q_GE173, Q_NB157_173, Q_NB173_157, Q_NB158_173, Q_NB173_158, Q_NB159_173, Q_NB173_159, Q_NB160_173, Q_NB173_160, fun h0_ => absurd ((hoff 12 (by kernel_rfl)).symm.trans h0_) (by decide), fun h0_ => absurd ((hoff 13 (by kernel_rfl)).symm.trans h0_) (by decide), fun h0_ => absurd ((hoff 14 (by kernel_rfl)).symm.trans h0_) (by decide), fun _ => rfl, Q_X10_, Q_X11_⟩
   refine steps_cons ?_ ?_
   ·rintro b a w' ⟨gb171, gb172, gb173, m9_, m10_, m11_, ha, Q_BK157, Q_BK158, Q_BK159, Q_BK160, Q_HB, Q_NB172_171, Q_NB171_172, Q_NB173_171, Q_NB171_173, Q_NB173_172, Q_NB172_173, Q_BK171, Q_GW171, Q_GE171, Q_NB157_171, Q_NB171_157, Q_NB158_171, Q_NB171_158, Q_NB159_171, Q_NB171_159, Q_NB160_171, Q_NB171_160, Q_BK172, Q_GW172, Q_GE172, Q_NB157_172, Q_NB172_157, Q_NB158_172, Q_NB172_158, Q_NB159_172, Q_NB172_159, Q_NB160_172, Q_NB172_160, Q_BK173, Q_GW173, Q_GE173, Q_NB157_173, Q_NB173_157, Q_NB158_173, Q_NB173_158, Q_NB159_173, Q_NB173_159, Q_NB160_173, Q_NB173_160, Q_BK171_e12, Q_BK172_e13, Q_BK173_e14, Q_X9_, Q_X10_, Q_X11_⟩ hb_ hon hoff
    refine ⟨_, rfl, fun K hK => ?_⟩
    replace ha := Aside0.mk ha
    have BK157 := Aside0.mk Q_BK157
    have BK158 := Aside0.mk Q_BK158
    have BK159 := Aside0.mk Q_BK159
    have BK160 := Aside0.mk Q_BK160
    have HB := Aside0.mk Q_HB
    refine box_step ?hg (N := 10) ?hd (cs := #[.int .i64 0, .int .i64 0]) (t := 23) ?hr ?_; (case hd => rfl); (case hg => rfl); (case hr => first | (go_simp; done) | (go_simp; rfl))
    intro gb172 hg w41 hbox hb
    have n0_ := Aside0.mk (blk_below (g := gb157) (o := .cells #[.int .i64 a0_0, .int .i64 a0_1] 23 (0, 0)) (by (with_reducible repeat (first | refine blk_drewN ?_ _ | refine blk_drew ?_ | refine blk_alloc ?_ _)); exact BK157.out) hb)
    have n1_ := Aside0.mk (blk_below (g := gb158) (o := .cells #[.int .i64 a1_0, .int .i64 a1_1] 23 (0, 0)) (by (with_reducible repeat (first | refine blk_drewN ?_ _ | refine blk_drew ?_ | refine blk_alloc ?_ _)); exact BK158.out) hb)
    have n2_ := Aside0.mk (blk_below (g := gb159) (o := .cells #[.int .i64 a2_0, .int .i64 a2_1] 23 (0, 0)) (by (with_reducible repeat (first | refine blk_drewN ?_ _ | refine blk_drew ?_ | refine blk_alloc ?_ _)); exact BK159.out) hb)
    have n3_ := Aside0.mk (blk_below (g := gb160) (o := .cells #[.int .i64 a3_0, .int .i64 a3_1] 23 (0, 0)) (by (with_reducible repeat (first | refine blk_drewN ?_ _ | refine blk_drew ?_ | refine blk_alloc ?_ _)); exact BK160.out) hb)
    have n4_ := Aside0.mk (below_step (by repeat (first | (with_reducible first | exact HB.out | apply below_alloc | apply pw_below_drewN | apply below_drew1 | refine below_set ?_ GE157.out | refine below_set ?_ GE158.out | refine below_set ?_ GE159.out | refine below_set ?_ GE160.out) | exact HB.out)) hb)
    have n5_ := Aside0.mk (hbox)
    have n6_ := Aside0.mk ((by rw [hg]; exact (below_size (by repeat (first | (with_reducible first | exact HB.out | apply below_alloc | apply pw_below_drewN | apply below_drew1 | refine below_set ?_ GE157.out | refine below_set ?_ GE158.out | refine below_set ?_ GE159.out | refine below_set ?_ GE160.out) | exact HB.out))) : w.heap.size ≤ gb172))
    have n7_ := Aside0.mk ((by rw [hg]; exact (below_size (by repeat (first | (with_reducible first | exact HB.out | apply below_alloc | apply pw_below_drewN | apply below_drew1 | refine below_set ?_ GE157.out | refine below_set ?_ GE158.out | refine below_set ?_ GE159.out | refine below_set ?_ GE160.out) | exact HB.out))) : w.heap.size ≤ gb172))
    have n8_ := Aside0.mk ((by rw [hg]; exact Nat.ne_of_lt (blk_lt (g := gb157) (o := .cells #[.int .i64 a0_0, .int .i64 a0_1] 23 (0, 0)) (by (with_reducible repeat (first | refine blk_drewN ?_ _ | refine blk_drew ?_ | refine blk_alloc ?_ _)); exact BK157.out)) : gb157 ≠ gb172))
    have n9_ := Aside0.mk ((by rw [hg]; exact Nat.ne_of_gt (blk_lt (g := gb157) (o := .cells #[.int .i64 a0_0, .int .i64 a0_1] 23 (0, 0)) (by (with_reducible repeat (first | refine blk_drewN ?_ _ | refine blk_drew ?_ | refine blk_alloc ?_ _)); exact BK157.out)) : gb172 ≠ gb157))
    have n10_ := Aside0.mk ((by rw [hg]; exact Nat.ne_of_lt (blk_lt (g := gb158) (o := .cells #[.int .i64 a1_0, .int .i64 a1_1] 23 (0, 0)) (by (with_reducible repeat (first | refine blk_drewN ?_ _ | refine blk_drew ?_ | refine blk_alloc ?_ _)); exact BK158.out)) : gb158 ≠ gb172))
    have n11_ := Aside0.mk ((by rw [hg]; exact Nat.ne_of_gt (blk_lt (g := gb158) (o := .cells #[.int .i64 a1_0, .int .i64 a1_1] 23 (0, 0)) (by (with_reducible repeat (first | refine blk_drewN ?_ _ | refine blk_drew ?_ | refine blk_alloc ?_ _)); exact BK158.out)) : gb172 ≠ gb158))
    have n12_ := Aside0.mk ((by rw [hg]; exact Nat.ne_of_lt (blk_lt (g := gb159) (o := .cells #[.int .i64 a2_0, .int .i64 a2_1] 23 (0, 0)) (by (with_reducible repeat (first | refine blk_drewN ?_ _ | refine blk_drew ?_ | refine blk_alloc ?_ _)); exact BK159.out)) : gb159 ≠ gb172))
    have n13_ := Aside0.mk ((by rw [hg]; exact Nat.ne_of_gt (blk_lt (g := gb159) (o := .cells #[.int .i64 a2_0, .int .i64 a2_1] 23 (0, 0)) (by (with_reducible repeat (first | refine blk_drewN ?_ _ | refine blk_drew ?_ | refine blk_alloc ?_ _)); exact BK159.out)) : gb172 ≠ gb159))
    have n14_ := Aside0.mk ((by rw [hg]; exact Nat.ne_of_lt (blk_lt (g := gb160) (o := .cells #[.int .i64 a3_0, .int .i64 a3_1] 23 (0, 0)) (by (with_reducible repeat (first | refine blk_drewN ?_ _ | refine blk_drew ?_ | refine blk_alloc ?_ _)); exact BK160.out)) : gb160 ≠ gb172))
    have n15_ := Aside0.mk ((by rw [hg]; exact Nat.ne_of_gt (blk_lt (g := gb160) (o := .cells #[.int .i64 a3_0, .int .i64 a3_1] 23 (0, 0)) (by (with_reducible repeat (first | refine blk_drewN ?_ _ | refine blk_drew ?_ | refine blk_alloc ?_ _)); exact BK160.out)) : gb172 ≠ gb160))
    have z_NB172_171 := fun (h0_ : up b 10 9 = true) (h1_ : up b 10 10 = true) => (show gb172 ≠ gb171 from ((by rw [hg]; exact Nat.ne_of_gt (blk_lt (g := gb171) (o := .cells #[.int .i64 0, .int .i64 0] 23 (0, 0)) (by (with_reducible repeat (first | refine blk_drewN ?_ _ | refine blk_drew ?_ | refine blk_alloc ?_ _)); exact (Q_BK171 ((up_ne (by decide : 9 ≠ 10)).symm.trans h0_) (hoff 12 (by kernel_rfl))))) : gb172 ≠ gb171)))
    have z_NB171_172 := fun (h0_ : up b 10 9 = true) (h1_ : up b 10 10 = true) => (show gb171 ≠ gb172 from ((by rw [hg]; exact Nat.ne_of_lt (blk_lt (g := gb171) (o := .cells #[.int .i64 0, .int .i64 0] 23 (0, 0)) (by (with_reducible repeat (first | refine blk_drewN ?_ _ | refine blk_drew ?_ | refine blk_alloc ?_ _)); exact (Q_BK171 ((up_ne (by decide : 9 ≠ 10)).symm.trans h0_) (hoff 12 (by kernel_rfl))))) : gb171 ≠ gb172)))
    have z_NB173_172 := fun (h0_ : up b 10 10 = true) (h1_ : up b 10 11 = true) => (show gb173 ≠ gb172 from ((by rw [hg]; exact Nat.ne_of_lt (blk_lt (g := gb173) (o := .cells #[.int .i64 0, .int .i64 0] 23 (0, 0)) (by (with_reducible repeat (first | refine blk_drewN ?_ _ | refine blk_drew ?_ | refine blk_alloc ?_ _)); exact (Q_BK173 ((up_ne (by decide : 11 ≠ 10)).symm.trans h1_) (hoff 14 (by kernel_rfl))))) : gb173 ≠ gb172)))
    have z_NB172_173 := fun (h0_ : up b 10 10 = true) (h1_ : up b 10 11 = true) => (show gb172 ≠ gb173 from ((by rw [hg]; exact Nat.ne_of_gt (blk_lt (g := gb173) (o := .cells #[.int .i64 0, .int .i64 0] 23 (0, 0)) (by (with_reducible repeat (first | refine blk_drewN ?_ _ | refine blk_drew ?_ | refine blk_alloc ?_ _)); exact (Q_BK173 ((up_ne (by decide : 11 ≠ 10)).symm.trans h1_) (hoff 14 (by kernel_rfl))))) : gb172 ≠ gb173)))
    have z_BK171 := fun (h0_ : b 9 = true) (h1_ : b 12 = false) => (show w41.heap[gb171]? = some (.cells #[.int .i64 0, .int .i64 0] 23 (0, 0)) from by first | exact (blk_below (g := gb171) (o := .cells #[.int .i64 0, .int .i64 0] 23 (0, 0)) (by (with_reducible repeat (first | refine blk_drewN ?_ _ | refine blk_drew ?_ | refine blk_alloc ?_ _)); exact (Q_BK171 h0_ h1_)) hb))
    have z_BK173 := fun (h0_ : b 11 = true) (h1_ : b 14 = false) => (show w41.heap[gb173]? = some (.cells #[.int .i64 0, .int .i64 0] 23 (0, 0)) from by first | exact (blk_below (g := gb173) (o := .cells #[.int .i64 0, .int .i64 0] 23 (0, 0)) (by (with_reducible repeat (first | refine blk_drewN ?_ _ | refine blk_drew ?_ | refine blk_alloc ?_ _)); exact (Q_BK173 h0_ h1_)) hb))
    clear BK157
    clear BK158
    clear BK159
    clear BK160
    clear HB
    have BK157 := n0_
    have BK158 := n1_
    have BK159 := n2_
    have BK160 := n3_
    have HB := n4_
    have BK172 := n5_
    have GW172 := n6_
    have GE172 := n7_
    have NB157_172 := n8_
    have NB172_157 := n9_
    have NB158_172 := n10_
    have NB172_158 := n11_
    have NB159_172 := n12_
    have NB172_159 := n13_
    have NB160_172 := n14_
    have NB172_160 := n15_
    clear n0_ n1_ n2_ n3_ n4_ n5_ n6_ n7_ n8_ n9_ n10_ n11_ n12_ n13_ n14_ n15_
    clear hb hbox hg
    refine hK.out _ _ ⟨gb171, gb172, gb173, m9_, (.pointer (some ⟨gb172, 0, none⟩)), m11_, (by rw [ha.out]; exact putSel_upk 10 hb_ rfl rfl rfl), (by (with_reducible repeat (first | refine blk_drewN ?_ _ | refine blk_drew ?_ | refine blk_alloc ?_ _)); exact BK157.out), (by (with_reducible repeat (first | refine blk_drewN ?_ _ | refine blk_drew ?_ | refine blk_alloc ?_ _)); exact BK158.out), (by (with_reducible repeat (first | refine blk_drewN ?_ _ | refine blk_drew ?_ | refine blk_alloc ?_ _)); exact BK159.out), (by (with_reducible repeat (first | refine blk_drewN ?_ _ | refine blk_drew ?_ | refine blk_alloc ?_ _)); exact BK160.out), (by repeat (first | (with_reducible first | exact HB.out | apply below_alloc | apply pw_below_drewN | apply below_drew1 | refine below_set ?_ GE157.out | refine below_set ?_ GE158.out | refine below_set ?_ GE159.out | refine below_set ?_ GE160.out | refine below_set ?_ GE172.out) | exact HB.out)), @z_NB172_171, @z_NB171_172, Q_NB173_171, Q_NB171_173, @z_NB173_172, @z_NB172_173, z_BK171, Q_GW171, Q_GE171, Q_NB157_171, Q_NB171_157, Q_NB158_171, Q_NB171_158, Q_NB159_171, Q_NB171_159, Q_NB160_171, Q_NB171_160, fun _ _ => (by (with_reducible repeat (first | refine blk_drewN ?_ _ | refine blk_drew ?_ | refine blk_alloc ?_ _)); exact BK172.out), fun _ => GW172.out, fun _ => GE172.out, fun _ => NB157_172.out, fun _ => NB172_157.out, fun _ => NB158_172.out, fun _ => NB172_158.out, fun _ => NB159_172.out, fun _ => NB172_159.out, fun _ => NB160_172.out, fun _ => NB172_160.out, z_BK173, Q_GW173, Q_GE173, Q_NB157_173, Q_NB173_157, Q_NB158_173, Q_NB173_158, Q_NB159_173, Q_NB173_159, Q_NB160_173, Q_NB173_160, fun h0_ => absurd ((hoff 12 (by kernel_rfl)).symm.trans h0_) (by decide), fun h0_ => absurd ((hoff 13 (by kernel_rfl)).symm.trans h0_) (by decide), fun h0_ => absurd ((hoff 14 (by kernel_rfl)).symm.trans h0_) (by decide), Q_X9_, fun _ => rfl, Q_X11_⟩
   refine steps_cons ?_ ?_
   ·rintro b a w' ⟨gb171, gb172, gb173, m9_, m10_, m11_, ha, Q_BK157, Q_BK158, Q_BK159, Q_BK160, Q_HB, Q_NB172_171, Q_NB171_172, Q_NB173_171, Q_NB171_173, Q_NB173_172, Q_NB172_173, Q_BK171, Q_GW171, Q_GE171, Q_NB157_171, Q_NB171_157, Q_NB158_171, Q_NB171_158, Q_NB159_171, Q_NB171_159, Q_NB160_171, Q_NB171_160, Q_BK172, Q_GW172, Q_GE172, Q_NB157_172, Q_NB172_157, Q_NB158_172, Q_NB172_158, Q_NB159_172, Q_NB172_159, Q_NB160_172, Q_NB172_160, Q_BK173, Q_GW173, Q_GE173, Q_NB157_173, Q_NB173_157, Q_NB158_173, Q_NB173_158, Q_NB159_173, Q_NB173_159, Q_NB160_173, Q_NB173_160, Q_BK171_e12, Q_BK172_e13, Q_BK173_e14, Q_X9_, Q_X10_, Q_X11_⟩ hb_ hon hoff
    refine ⟨_, rfl, fun K hK => ?_⟩
    replace ha := Aside0.mk ha
    have BK157 := Aside0.mk Q_BK157
    have BK158 := Aside0.mk Q_BK158
    have BK159 := Aside0.mk Q_BK159
    have BK160 := Aside0.mk Q_BK160
    have HB := Aside0.mk Q_HB
    refine box_step ?hg (N := 11) ?hd (cs := #[.int .i64 0, .int .i64 0]) (t := 23) ?hr ?_; (case hd => rfl); (case hg => rfl); (case hr => first | (go_simp; done) | (go_simp; rfl))
    intro gb173 hg w41 hbox hb
    have n0_ := Aside0.mk (blk_below (g := gb157) (o := .cells #[.int .i64 a0_0, .int .i64 a0_1] 23 (0, 0)) (by (with_reducible repeat (first | refine blk_drewN ?_ _ | refine blk_drew ?_ | refine blk_alloc ?_ _)); exact BK157.out) hb)
    have n1_ := Aside0.mk (blk_below (g := gb158) (o := .cells #[.int .i64 a1_0, .int .i64 a1_1] 23 (0, 0)) (by (with_reducible repeat (first | refine blk_drewN ?_ _ | refine blk_drew ?_ | refine blk_alloc ?_ _)); exact BK158.out) hb)
    have n2_ := Aside0.mk (blk_below (g := gb159) (o := .cells #[.int .i64 a2_0, .int .i64 a2_1] 23 (0, 0)) (by (with_reducible repeat (first | refine blk_drewN ?_ _ | refine blk_drew ?_ | refine blk_alloc ?_ _)); exact BK159.out) hb)
    have n3_ := Aside0.mk (blk_below (g := gb160) (o := .cells #[.int .i64 a3_0, .int .i64 a3_1] 23 (0, 0)) (by (with_reducible repeat (first | refine blk_drewN ?_ _ | refine blk_drew ?_ | refine blk_alloc ?_ _)); exact BK160.out) hb)
    have n4_ := Aside0.mk (below_step (by repeat (first | (with_reducible first | exact HB.out | apply below_alloc | apply pw_below_drewN | apply below_drew1 | refine below_set ?_ GE157.out | refine below_set ?_ GE158.out | refine below_set ?_ GE159.out | refine below_set ?_ GE160.out) | exact HB.out)) hb)
    have n5_ := Aside0.mk (hbox)
    have n6_ := Aside0.mk ((by rw [hg]; exact (below_size (by repeat (first | (with_reducible first | exact HB.out | apply below_alloc | apply pw_below_drewN | apply below_drew1 | refine below_set ?_ GE157.out | refine below_set ?_ GE158.out | refine below_set ?_ GE159.out | refine below_set ?_ GE160.out) | exact HB.out))) : w.heap.size ≤ gb173))
    have n7_ := Aside0.mk ((by rw [hg]; exact (below_size (by repeat (first | (with_reducible first | exact HB.out | apply below_alloc | apply pw_below_drewN | apply below_drew1 | refine below_set ?_ GE157.out | refine below_set ?_ GE158.out | refine below_set ?_ GE159.out | refine below_set ?_ GE160.out) | exact HB.out))) : w.heap.size ≤ gb173))
    have n8_ := Aside0.mk ((by rw [hg]; exact Nat.ne_of_lt (blk_lt (g := gb157) (o := .cells #[.int .i64 a0_0, .int .i64 a0_1] 23 (0, 0)) (by (with_reducible repeat (first | refine blk_drewN ?_ _ | refine blk_drew ?_ | refine blk_alloc ?_ _)); exact BK157.out)) : gb157 ≠ gb173))
    have n9_ := Aside0.mk ((by rw [hg]; exact Nat.ne_of_gt (blk_lt (g := gb157) (o := .cells #[.int .i64 a0_0, .int .i64 a0_1] 23 (0, 0)) (by (with_reducible repeat (first | refine blk_drewN ?_ _ | refine blk_drew ?_ | refine blk_alloc ?_ _)); exact BK157.out)) : gb173 ≠ gb157))
    have n10_ := Aside0.mk ((by rw [hg]; exact Nat.ne_of_lt (blk_lt (g := gb158) (o := .cells #[.int .i64 a1_0, .int .i64 a1_1] 23 (0, 0)) (by (with_reducible repeat (first | refine blk_drewN ?_ _ | refine blk_drew ?_ | refine blk_alloc ?_ _)); exact BK158.out)) : gb158 ≠ gb173))
    have n11_ := Aside0.mk ((by rw [hg]; exact Nat.ne_of_gt (blk_lt (g := gb158) (o := .cells #[.int .i64 a1_0, .int .i64 a1_1] 23 (0, 0)) (by (with_reducible repeat (first | refine blk_drewN ?_ _ | refine blk_drew ?_ | refine blk_alloc ?_ _)); exact BK158.out)) : gb173 ≠ gb158))
    have n12_ := Aside0.mk ((by rw [hg]; exact Nat.ne_of_lt (blk_lt (g := gb159) (o := .cells #[.int .i64 a2_0, .int .i64 a2_1] 23 (0, 0)) (by (with_reducible repeat (first | refine blk_drewN ?_ _ | refine blk_drew ?_ | refine blk_alloc ?_ _)); exact BK159.out)) : gb159 ≠ gb173))
    have n13_ := Aside0.mk ((by rw [hg]; exact Nat.ne_of_gt (blk_lt (g := gb159) (o := .cells #[.int .i64 a2_0, .int .i64 a2_1] 23 (0, 0)) (by (with_reducible repeat (first | refine blk_drewN ?_ _ | refine blk_drew ?_ | refine blk_alloc ?_ _)); exact BK159.out)) : gb173 ≠ gb159))
    have n14_ := Aside0.mk ((by rw [hg]; exact Nat.ne_of_lt (blk_lt (g := gb160) (o := .cells #[.int .i64 a3_0, .int .i64 a3_1] 23 (0, 0)) (by (with_reducible repeat (first | refine blk_drewN ?_ _ | refine blk_drew ?_ | refine blk_alloc ?_ _)); exact BK160.out)) : gb160 ≠ gb173))
    have n15_ := Aside0.mk ((by rw [hg]; exact Nat.ne_of_gt (blk_lt (g := gb160) (o := .cells #[.int .i64 a3_0, .int .i64 a3_1] 23 (0, 0)) (by (with_reducible repeat (first | refine blk_drewN ?_ _ | refine blk_drew ?_ | refine blk_alloc ?_ _)); exact BK160.out)) : gb173 ≠ gb160))
    have z_NB173_171 := fun (h0_ : up b 11 9 = true) (h1_ : up b 11 11 = true) => (show gb173 ≠ gb171 from ((by rw [hg]; exact Nat.ne_of_gt (blk_lt (g := gb171) (o := .cells #[.int .i64 0, .int .i64 0] 23 (0, 0)) (by (with_reducible repeat (first | refine blk_drewN ?_ _ | refine blk_drew ?_ | refine blk_alloc ?_ _)); exact (Q_BK171 ((up_ne (by decide : 9 ≠ 11)).symm.trans h0_) (hoff 12 (by kernel_rfl))))) : gb173 ≠ gb171)))
    have z_NB171_173 := fun (h0_ : up b 11 9 = true) (h1_ : up b 11 11 = true) => (show gb171 ≠ gb173 from ((by rw [hg]; exact Nat.ne_of_lt (blk_lt (g := gb171) (o := .cells #[.int .i64 0, .int .i64 0] 23 (0, 0)) (by (with_reducible repeat (first | refine blk_drewN ?_ _ | refine blk_drew ?_ | refine blk_alloc ?_ _)); exact (Q_BK171 ((up_ne (by decide : 9 ≠ 11)).symm.trans h0_) (hoff 12 (by kernel_rfl))))) : gb171 ≠ gb173)))
    have z_NB173_172 := fun (h0_ : up b 11 10 = true) (h1_ : up b 11 11 = true) => (show gb173 ≠ gb172 from ((by rw [hg]; exact Nat.ne_of_gt (blk_lt (g := gb172) (o := .cells #[.int .i64 0, .int .i64 0] 23 (0, 0)) (by (with_reducible repeat (first | refine blk_drewN ?_ _ | refine blk_drew ?_ | refine blk_alloc ?_ _)); exact (Q_BK172 ((up_ne (by decide : 10 ≠ 11)).symm.trans h0_) (hoff 13 (by kernel_rfl))))) : gb173 ≠ gb172)))
    have z_NB172_173 := fun (h0_ : up b 11 10 = true) (h1_ : up b 11 11 = true) => (show gb172 ≠ gb173 from ((by rw [hg]; exact Nat.ne_of_lt (blk_lt (g := gb172) (o := .cells #[.int .i64 0, .int .i64 0] 23 (0, 0)) (by (with_reducible repeat (first | refine blk_drewN ?_ _ | refine blk_drew ?_ | refine blk_alloc ?_ _)); exact (Q_BK172 ((up_ne (by decide : 10 ≠ 11)).symm.trans h0_) (hoff 13 (by kernel_rfl))))) : gb172 ≠ gb173)))
    have z_BK171 := fun (h0_ : b 9 = true) (h1_ : b 12 = false) => (show w41.heap[gb171]? = some (.cells #[.int .i64 0, .int .i64 0] 23 (0, 0)) from by first | exact (blk_below (g := gb171) (o := .cells #[.int .i64 0, .int .i64 0] 23 (0, 0)) (by (with_reducible repeat (first | refine blk_drewN ?_ _ | refine blk_drew ?_ | refine blk_alloc ?_ _)); exact (Q_BK171 h0_ h1_)) hb))
    have z_BK172 := fun (h0_ : b 10 = true) (h1_ : b 13 = false) => (show w41.heap[gb172]? = some (.cells #[.int .i64 0, .int .i64 0] 23 (0, 0)) from by first | exact (blk_below (g := gb172) (o := .cells #[.int .i64 0, .int .i64 0] 23 (0, 0)) (by (with_reducible repeat (first | refine blk_drewN ?_ _ | refine blk_drew ?_ | refine blk_alloc ?_ _)); exact (Q_BK172 h0_ h1_)) hb))
    clear BK157
    clear BK158
    clear BK159
    clear BK160
    clear HB
    have BK157 := n0_
    have BK158 := n1_
    have BK159 := n2_
    have BK160 := n3_
    have HB := n4_
    have BK173 := n5_
    have GW173 := n6_
    have GE173 := n7_
    have NB157_173 := n8_
    have NB173_157 := n9_
    have NB158_173 := n10_
    have NB173_158 := n11_
    have NB159_173 := n12_
    have NB173_159 := n13_
    have NB160_173 := n14_
    have NB173_160 := n15_
    clear n0_ n1_ n2_ n3_ n4_ n5_ n6_ n7_ n8_ n9_ n10_ n11_ n12_ n13_ n14_ n15_
    clear hb hbox hg
    refine hK.out _ _ ⟨gb171, gb172, gb173, m9_, m10_, (.pointer (some ⟨gb173, 0, none⟩)), (by rw [ha.out]; exact putSel_upk 11 hb_ rfl rfl rfl), (by (with_reducible repeat (first | refine blk_drewN ?_ _ | refine blk_drew ?_ | refine blk_alloc ?_ _)); exact BK157.out), (by (with_reducible repeat (first | refine blk_drewN ?_ _ | refine blk_drew ?_ | refine blk_alloc ?_ _)); exact BK158.out), (by (with_reducible repeat (first | refine blk_drewN ?_ _ | refine blk_drew ?_ | refine blk_alloc ?_ _)); exact BK159.out), (by (with_reducible repeat (first | refine blk_drewN ?_ _ | refine blk_drew ?_ | refine blk_alloc ?_ _)); exact BK160.out), (by repeat (first | (with_reducible first | exact HB.out | apply below_alloc | apply pw_below_drewN | apply below_drew1 | refine below_set ?_ GE157.out | refine below_set ?_ GE158.out | refine below_set ?_ GE159.out | refine below_set ?_ GE160.out | refine below_set ?_ GE173.out) | exact HB.out)), Q_NB172_171, Q_NB171_172, @z_NB173_171, @z_NB171_173, @z_NB173_172, @z_NB172_173, z_BK171, Q_GW171, Q_GE171, Q_NB157_171, Q_NB171_157, Q_NB158_171, Q_NB171_158, Q_NB159_171, Q_NB171_159, Q_NB160_171, Q_NB171_160, z_BK172, Q_GW172, Q_GE172, Q_NB157_172, Q_NB172_157, Q_NB158_172, Q_NB172_158, Q_NB159_172, Q_NB172_159, Q_NB160_172, Q_NB172_160, fun _ _ => (by (with_reducible repeat (first | refine blk_drewN ?_ _ | refine blk_drew ?_ | refine blk_alloc ?_ _)); exact BK173.out), fun _ => GW173.out, fun _ => GE173.out, fun _ => NB157_173.out, fun _ => NB173_157.out, fun _ => NB158_173.out, fun _ => NB173_158.out, fun _ => NB159_173.out, fun _ => NB173_159.out, fun _ => NB160_173.out, fun _ => NB173_160.out, fun h0_ => absurd ((hoff 12 (by kernel_rfl)).symm.trans h0_) (by decide), fun h0_ => absurd ((hoff 13 (by kernel_rfl)).symm.trans h0_) (by decide), fun h0_ => absurd ((hoff 14 (by kernel_rfl)).symm.trans h0_) (by decide), Q_X9_, Q_X10_, fun _ => rfl⟩
   refine steps_cons ?_ ?_
   ·rintro b a w' ⟨gb171, gb172, gb173, m9_, m10_, m11_, ha, Q_BK157, Q_BK158, Q_BK159, Q_BK160, Q_HB, Q_NB172_171, Q_NB171_172, Q_NB173_171, Q_NB171_173, Q_NB173_172, Q_NB172_173, Q_BK171, Q_GW171, Q_GE171, Q_NB157_171, Q_NB171_157, Q_NB158_171, Q_NB171_158, Q_NB159_171, Q_NB171_159, Q_NB160_171, Q_NB171_160, Q_BK172, Q_GW172, Q_GE172, Q_NB157_172, Q_NB172_157, Q_NB158_172, Q_NB172_158, Q_NB159_172, Q_NB172_159, Q_NB160_172, Q_NB172_160, Q_BK173, Q_GW173, Q_GE173, Q_NB157_173, Q_NB173_157, Q_NB158_173, Q_NB173_158, Q_NB159_173, Q_NB173_159, Q_NB160_173, Q_NB173_160, Q_BK171_e12, Q_BK172_e13, Q_BK173_e14, Q_X9_, Q_X10_, Q_X11_⟩ hb_ hon hoff
    refine ⟨_, rfl, fun K hK => ?_⟩
    have e9 : a.tmps[9]? = some (m9_) := by rw [ha]; exact putSel_on (e := (9, 9, m9_)) 9 rfl rfl (hon 9 (by kernel_rfl)) rfl
    rw [Q_X9_ (hon 9 (by kernel_rfl))] at e9
    have e22 : a.tmps[22]? = some (.agg #[.int .i64 t165, .int .i64 t166]) := by rw [ha]; exact putSel_on (e := (2, 22, .agg #[.int .i64 t165, .int .i64 t166])) 2 rfl rfl (hon 2 (by kernel_rfl)) rfl
    replace ha := Aside0.mk ha
    have BK157 := Aside0.mk Q_BK157
    have BK158 := Aside0.mk Q_BK158
    have BK159 := Aside0.mk Q_BK159
    have BK160 := Aside0.mk Q_BK160
    have HB := Aside0.mk Q_HB
    have NB172_171 := Aside0.mk (Q_NB172_171 (hon 9 (by kernel_rfl)) (hon 10 (by kernel_rfl)))
    have NB171_172 := Aside0.mk (Q_NB171_172 (hon 9 (by kernel_rfl)) (hon 10 (by kernel_rfl)))
    have NB173_171 := Aside0.mk (Q_NB173_171 (hon 9 (by kernel_rfl)) (hon 11 (by kernel_rfl)))
    have NB171_173 := Aside0.mk (Q_NB171_173 (hon 9 (by kernel_rfl)) (hon 11 (by kernel_rfl)))
    have NB173_172 := Aside0.mk (Q_NB173_172 (hon 10 (by kernel_rfl)) (hon 11 (by kernel_rfl)))
    have NB172_173 := Aside0.mk (Q_NB172_173 (hon 10 (by kernel_rfl)) (hon 11 (by kernel_rfl)))
    have BK171 := Aside0.mk (Q_BK171 (hon 9 (by kernel_rfl)) hb_)
    have GW171 := Aside0.mk (Q_GW171 (hon 9 (by kernel_rfl)))
    have GE171 := Aside0.mk (Q_GE171 (hon 9 (by kernel_rfl)))
    have NB157_171 := Aside0.mk (Q_NB157_171 (hon 9 (by kernel_rfl)))
    have NB171_157 := Aside0.mk (Q_NB171_157 (hon 9 (by kernel_rfl)))
    have NB158_171 := Aside0.mk (Q_NB158_171 (hon 9 (by kernel_rfl)))
    have NB171_158 := Aside0.mk (Q_NB171_158 (hon 9 (by kernel_rfl)))
    have NB159_171 := Aside0.mk (Q_NB159_171 (hon 9 (by kernel_rfl)))
    have NB171_159 := Aside0.mk (Q_NB171_159 (hon 9 (by kernel_rfl)))
    have NB160_171 := Aside0.mk (Q_NB160_171 (hon 9 (by kernel_rfl)))
    have NB171_160 := Aside0.mk (Q_NB171_160 (hon 9 (by kernel_rfl)))
    have BK172 := Aside0.mk (Q_BK172 (hon 10 (by kernel_rfl)) (hoff 13 (by kernel_rfl)))
    have GW172 := Aside0.mk (Q_GW172 (hon 10 (by kernel_rfl)))
    have GE172 := Aside0.mk (Q_GE172 (hon 10 (by kernel_rfl)))
    have NB157_172 := Aside0.mk (Q_NB157_172 (hon 10 (by kernel_rfl)))
    have NB172_157 := Aside0.mk (Q_NB172_157 (hon 10 (by kernel_rfl)))
    have NB158_172 := Aside0.mk (Q_NB158_172 (hon 10 (by kernel_rfl)))
    have NB172_158 := Aside0.mk (Q_NB172_158 (hon 10 (by kernel_rfl)))
    have NB159_172 := Aside0.mk (Q_NB159_172 (hon 10 (by kernel_rfl)))
    have NB172_159 := Aside0.mk (Q_NB172_159 (hon 10 (by kernel_rfl)))
    have NB160_172 := Aside0.mk (Q_NB160_172 (hon 10 (by kernel_rfl)))
    have NB172_160 := Aside0.mk (Q_NB172_160 (hon 10 (by kernel_rfl)))
    have BK173 := Aside0.mk (Q_BK173 (hon 11 (by kernel_rfl)) (hoff 14 (by kernel_rfl)))
    have GW173 := Aside0.mk (Q_GW173 (hon 11 (by kernel_rfl)))
    have GE173 := Aside0.mk (Q_GE173 (hon 11 (by kernel_rfl)))
    have NB157_173 := Aside0.mk (Q_NB157_173 (hon 11 (by kernel_rfl)))
    have NB173_157 := Aside0.mk (Q_NB173_157 (hon 11 (by kernel_rfl)))
    have NB158_173 := Aside0.mk (Q_NB158_173 (hon 11 (by kernel_rfl)))
    have NB173_158 := Aside0.mk (Q_NB173_158 (hon 11 (by kernel_rfl)))
    have NB159_173 := Aside0.mk (Q_NB159_173 (hon 11 (by kernel_rfl)))
    have NB173_159 := Aside0.mk (Q_NB173_159 (hon 11 (by kernel_rfl)))
    have NB160_173 := Aside0.mk (Q_NB160_173 (hon 11 (by kernel_rfl)))
    have NB173_160 := Aside0.mk (Q_NB173_160 (hon 11 (by kernel_rfl)))
    have hs48 : w'.cell? ⟨gb171, 0, none⟩ = some (.int .i64 0) := (blk_cell BK171.out 0).trans rfl
    have hfs48 := blk_frozen BK171.out 0
    have hns48_0 := NB157_171.out
    have hns48_1 := NB158_171.out
    have hns48_2 := NB159_171.out
    have hns48_3 := NB160_171.out
    have hns48_5 := NB172_171.out
    have hns48_6 := NB173_171.out
    have hms48_0 := NB171_157.out
    have hms48_1 := NB171_158.out
    have hms48_2 := NB171_159.out
    have hms48_3 := NB171_160.out
    have hms48_5 := NB171_172.out
    have hms48_6 := NB171_173.out
    have hs49 : w'.cell? ⟨gb171, 1, none⟩ = some (.int .i64 0) := (blk_cell BK171.out 1).trans rfl
    have hfs49 := blk_frozen BK171.out 1
    have hns49_0 := NB157_171.out
    have hns49_1 := NB158_171.out
    have hns49_2 := NB159_171.out
    have hns49_3 := NB160_171.out
    have hns49_5 := NB172_171.out
    have hns49_6 := NB173_171.out
    have hms49_0 := NB171_157.out
    have hms49_1 := NB171_158.out
    have hms49_2 := NB171_159.out
    have hms49_3 := NB171_160.out
    have hms49_5 := NB171_172.out
    have hms49_6 := NB171_173.out
    refine skip_ (w1 := ?_) (by rfl) rfl ?_ ?_
    rotate_left
    ·go_simp
     rfl
    refine hK.out _ _ ⟨gb171, gb172, gb173, m9_, m10_, m11_, (by rw [ha.out]; exact putSel_none (v := undef) rfl), (by (with_reducible repeat (first | refine blk_drewN ?_ _ | refine blk_drew ?_ | refine blk_alloc ?_ _)); refine blk_far ?_ NB157_171.out _; (with_reducible repeat (first | refine blk_drewN ?_ _ | refine blk_drew ?_ | refine blk_alloc ?_ _)); refine blk_far ?_ NB157_171.out _; (with_reducible repeat (first | refine blk_drewN ?_ _ | refine blk_drew ?_ | refine blk_alloc ?_ _)); exact BK157.out), (by (with_reducible repeat (first | refine blk_drewN ?_ _ | refine blk_drew ?_ | refine blk_alloc ?_ _)); refine blk_far ?_ NB158_171.out _; (with_reducible repeat (first | refine blk_drewN ?_ _ | refine blk_drew ?_ | refine blk_alloc ?_ _)); refine blk_far ?_ NB158_171.out _; (with_reducible repeat (first | refine blk_drewN ?_ _ | refine blk_drew ?_ | refine blk_alloc ?_ _)); exact BK158.out), (by (with_reducible repeat (first | refine blk_drewN ?_ _ | refine blk_drew ?_ | refine blk_alloc ?_ _)); refine blk_far ?_ NB159_171.out _; (with_reducible repeat (first | refine blk_drewN ?_ _ | refine blk_drew ?_ | refine blk_alloc ?_ _)); refine blk_far ?_ NB159_171.out _; (with_reducible repeat (first | refine blk_drewN ?_ _ | refine blk_drew ?_ | refine blk_alloc ?_ _)); exact BK159.out), (by (with_reducible repeat (first | refine blk_drewN ?_ _ | refine blk_drew ?_ | refine blk_alloc ?_ _)); refine blk_far ?_ NB160_171.out _; (with_reducible repeat (first | refine blk_drewN ?_ _ | refine blk_drew ?_ | refine blk_alloc ?_ _)); refine blk_far ?_ NB160_171.out _; (with_reducible repeat (first | refine blk_drewN ?_ _ | refine blk_drew ?_ | refine blk_alloc ?_ _)); exact BK160.out), (by repeat (first | (with_reducible first | exact HB.out | apply below_alloc | apply pw_below_drewN | apply below_drew1 | refine below_set ?_ GE157.out | refine below_set ?_ GE158.out | refine below_set ?_ GE159.out | refine below_set ?_ GE160.out | refine below_set ?_ GE171.out | refine below_set ?_ GE172.out | refine below_set ?_ GE173.out) | exact HB.out)), fun _ _ => NB172_171.out, fun _ _ => NB171_172.out, fun _ _ => NB173_171.out, fun _ _ => NB171_173.out, fun _ _ => NB173_172.out, fun _ _ => NB172_173.out, fun _ h1_ => absurd ((up_self b 12).symm.trans h1_) (by decide), fun _ => GW171.out, fun _ => GE171.out, fun _ => NB157_171.out, fun _ => NB171_157.out, fun _ => NB158_171.out, fun _ => NB171_158.out, fun _ => NB159_171.out, fun _ => NB171_159.out, fun _ => NB160_171.out, fun _ => NB171_160.out, fun _ _ => (by (with_reducible repeat (first | refine blk_drewN ?_ _ | refine blk_drew ?_ | refine blk_alloc ?_ _)); refine blk_far ?_ NB172_171.out _; (with_reducible repeat (first | refine blk_drewN ?_ _ | refine blk_drew ?_ | refine blk_alloc ?_ _)); refine blk_far ?_ NB172_171.out _; (with_reducible repeat (first | refine blk_drewN ?_ _ | refine blk_drew ?_ | refine blk_alloc ?_ _)); exact BK172.out), fun _ => GW172.out, fun _ => GE172.out, fun _ => NB157_172.out, fun _ => NB172_157.out, fun _ => NB158_172.out, fun _ => NB172_158.out, fun _ => NB159_172.out, fun _ => NB172_159.out, fun _ => NB160_172.out, fun _ => NB172_160.out, fun _ _ => (by (with_reducible repeat (first | refine blk_drewN ?_ _ | refine blk_drew ?_ | refine blk_alloc ?_ _)); refine blk_far ?_ NB173_171.out _; (with_reducible repeat (first | refine blk_drewN ?_ _ | refine blk_drew ?_ | refine blk_alloc ?_ _)); refine blk_far ?_ NB173_171.out _; (with_reducible repeat (first | refine blk_drewN ?_ _ | refine blk_drew ?_ | refine blk_alloc ?_ _)); exact BK173.out), fun _ => GW173.out, fun _ => GE173.out, fun _ => NB157_173.out, fun _ => NB173_157.out, fun _ => NB158_173.out, fun _ => NB173_158.out, fun _ => NB159_173.out, fun _ => NB173_159.out, fun _ => NB160_173.out, fun _ => NB173_160.out, fun _ => (by (with_reducible repeat (first | refine blk_drewN ?_ _ | refine blk_drew ?_ | refine blk_alloc ?_ _)); refine blk_put (cs := #[.int .i64 t165, .int .i64 0]) ?_ 1 _ rfl; (with_reducible repeat (first | refine blk_drewN ?_ _ | refine blk_drew ?_ | refine blk_alloc ?_ _)); refine blk_put (cs := #[.int .i64 0, .int .i64 0]) ?_ 0 _ rfl; (with_reducible repeat (first | refine blk_drewN ?_ _ | refine blk_drew ?_ | refine blk_alloc ?_ _)); exact BK171.out), fun h0_ => absurd ((hoff 13 (by kernel_rfl)).symm.trans h0_) (by decide), fun h0_ => absurd ((hoff 14 (by kernel_rfl)).symm.trans h0_) (by decide), Q_X9_, Q_X10_, Q_X11_⟩
   refine steps_cons ?_ ?_
   ·rintro b a w' ⟨gb171, gb172, gb173, m9_, m10_, m11_, ha, Q_BK157, Q_BK158, Q_BK159, Q_BK160, Q_HB, Q_NB172_171, Q_NB171_172, Q_NB173_171, Q_NB171_173, Q_NB173_172, Q_NB172_173, Q_BK171, Q_GW171, Q_GE171, Q_NB157_171, Q_NB171_157, Q_NB158_171, Q_NB171_158, Q_NB159_171, Q_NB171_159, Q_NB160_171, Q_NB171_160, Q_BK172, Q_GW172, Q_GE172, Q_NB157_172, Q_NB172_157, Q_NB158_172, Q_NB172_158, Q_NB159_172, Q_NB172_159, Q_NB160_172, Q_NB172_160, Q_BK173, Q_GW173, Q_GE173, Q_NB157_173, Q_NB173_157, Q_NB158_173, Q_NB173_158, Q_NB159_173, Q_NB173_159, Q_NB160_173, Q_NB173_160, Q_BK171_e12, Q_BK172_e13, Q_BK173_e14, Q_X9_, Q_X10_, Q_X11_⟩ hb_ hon hoff
    refine ⟨_, rfl, fun K hK => ?_⟩
    have e10 : a.tmps[10]? = some (m10_) := by rw [ha]; exact putSel_on (e := (10, 10, m10_)) 10 rfl rfl (hon 10 (by kernel_rfl)) rfl
    rw [Q_X10_ (hon 10 (by kernel_rfl))] at e10
    have e25 : a.tmps[25]? = some (.agg #[.int .i64 t167, .int .i64 t168]) := by rw [ha]; exact putSel_on (e := (5, 25, .agg #[.int .i64 t167, .int .i64 t168])) 5 rfl rfl (hon 5 (by kernel_rfl)) rfl
    replace ha := Aside0.mk ha
    have BK157 := Aside0.mk Q_BK157
    have BK158 := Aside0.mk Q_BK158
    have BK159 := Aside0.mk Q_BK159
    have BK160 := Aside0.mk Q_BK160
    have HB := Aside0.mk Q_HB
    have NB172_171 := Aside0.mk (Q_NB172_171 (hon 9 (by kernel_rfl)) (hon 10 (by kernel_rfl)))
    have NB171_172 := Aside0.mk (Q_NB171_172 (hon 9 (by kernel_rfl)) (hon 10 (by kernel_rfl)))
    have NB173_171 := Aside0.mk (Q_NB173_171 (hon 9 (by kernel_rfl)) (hon 11 (by kernel_rfl)))
    have NB171_173 := Aside0.mk (Q_NB171_173 (hon 9 (by kernel_rfl)) (hon 11 (by kernel_rfl)))
    have NB173_172 := Aside0.mk (Q_NB173_172 (hon 10 (by kernel_rfl)) (hon 11 (by kernel_rfl)))
    have NB172_173 := Aside0.mk (Q_NB172_173 (hon 10 (by kernel_rfl)) (hon 11 (by kernel_rfl)))
    have GW171 := Aside0.mk (Q_GW171 (hon 9 (by kernel_rfl)))
    have GE171 := Aside0.mk (Q_GE171 (hon 9 (by kernel_rfl)))
    have NB157_171 := Aside0.mk (Q_NB157_171 (hon 9 (by kernel_rfl)))
    have NB171_157 := Aside0.mk (Q_NB171_157 (hon 9 (by kernel_rfl)))
    have NB158_171 := Aside0.mk (Q_NB158_171 (hon 9 (by kernel_rfl)))
    have NB171_158 := Aside0.mk (Q_NB171_158 (hon 9 (by kernel_rfl)))
    have NB159_171 := Aside0.mk (Q_NB159_171 (hon 9 (by kernel_rfl)))
    have NB171_159 := Aside0.mk (Q_NB171_159 (hon 9 (by kernel_rfl)))
    have NB160_171 := Aside0.mk (Q_NB160_171 (hon 9 (by kernel_rfl)))
    have NB171_160 := Aside0.mk (Q_NB171_160 (hon 9 (by kernel_rfl)))
    have BK172 := Aside0.mk (Q_BK172 (hon 10 (by kernel_rfl)) hb_)
    have GW172 := Aside0.mk (Q_GW172 (hon 10 (by kernel_rfl)))
    have GE172 := Aside0.mk (Q_GE172 (hon 10 (by kernel_rfl)))
    have NB157_172 := Aside0.mk (Q_NB157_172 (hon 10 (by kernel_rfl)))
    have NB172_157 := Aside0.mk (Q_NB172_157 (hon 10 (by kernel_rfl)))
    have NB158_172 := Aside0.mk (Q_NB158_172 (hon 10 (by kernel_rfl)))
    have NB172_158 := Aside0.mk (Q_NB172_158 (hon 10 (by kernel_rfl)))
    have NB159_172 := Aside0.mk (Q_NB159_172 (hon 10 (by kernel_rfl)))
    have NB172_159 := Aside0.mk (Q_NB172_159 (hon 10 (by kernel_rfl)))
    have NB160_172 := Aside0.mk (Q_NB160_172 (hon 10 (by kernel_rfl)))
    have NB172_160 := Aside0.mk (Q_NB172_160 (hon 10 (by kernel_rfl)))
    have BK173 := Aside0.mk (Q_BK173 (hon 11 (by kernel_rfl)) (hoff 14 (by kernel_rfl)))
    have GW173 := Aside0.mk (Q_GW173 (hon 11 (by kernel_rfl)))
    have GE173 := Aside0.mk (Q_GE173 (hon 11 (by kernel_rfl)))
    have NB157_173 := Aside0.mk (Q_NB157_173 (hon 11 (by kernel_rfl)))
    have NB173_157 := Aside0.mk (Q_NB173_157 (hon 11 (by kernel_rfl)))
    have NB158_173 := Aside0.mk (Q_NB158_173 (hon 11 (by kernel_rfl)))
    have NB173_158 := Aside0.mk (Q_NB173_158 (hon 11 (by kernel_rfl)))
    have NB159_173 := Aside0.mk (Q_NB159_173 (hon 11 (by kernel_rfl)))
    have NB173_159 := Aside0.mk (Q_NB173_159 (hon 11 (by kernel_rfl)))
    have NB160_173 := Aside0.mk (Q_NB160_173 (hon 11 (by kernel_rfl)))
    have NB173_160 := Aside0.mk (Q_NB173_160 (hon 11 (by kernel_rfl)))
    have BK171 := Aside0.mk (Q_BK171_e12 (hon 12 (by kernel_rfl)))
    have hs50 : w'.cell? ⟨gb172, 0, none⟩ = some (.int .i64 0) := (blk_cell BK172.out 0).trans rfl
    have hfs50 := blk_frozen BK172.out 0
    have hns50_0 := NB157_172.out
    have hns50_1 := NB158_172.out
    have hns50_2 := NB159_172.out
    have hns50_3 := NB160_172.out
    have hns50_4 := NB171_172.out
    have hns50_6 := NB173_172.out
    have hms50_0 := NB172_157.out
    have hms50_1 := NB172_158.out
    have hms50_2 := NB172_159.out
    have hms50_3 := NB172_160.out
    have hms50_4 := NB172_171.out
    have hms50_6 := NB172_173.out
    have hs51 : w'.cell? ⟨gb172, 1, none⟩ = some (.int .i64 0) := (blk_cell BK172.out 1).trans rfl
    have hfs51 := blk_frozen BK172.out 1
    have hns51_0 := NB157_172.out
    have hns51_1 := NB158_172.out
    have hns51_2 := NB159_172.out
    have hns51_3 := NB160_172.out
    have hns51_4 := NB171_172.out
    have hns51_6 := NB173_172.out
    have hms51_0 := NB172_157.out
    have hms51_1 := NB172_158.out
    have hms51_2 := NB172_159.out
    have hms51_3 := NB172_160.out
    have hms51_4 := NB172_171.out
    have hms51_6 := NB172_173.out
    refine skip_ (w1 := ?_) (by rfl) rfl ?_ ?_
    rotate_left
    ·go_simp
     rfl
    refine hK.out _ _ ⟨gb171, gb172, gb173, m9_, m10_, m11_, (by rw [ha.out]; exact putSel_none (v := undef) rfl), (by (with_reducible repeat (first | refine blk_drewN ?_ _ | refine blk_drew ?_ | refine blk_alloc ?_ _)); refine blk_far ?_ NB157_172.out _; (with_reducible repeat (first | refine blk_drewN ?_ _ | refine blk_drew ?_ | refine blk_alloc ?_ _)); refine blk_far ?_ NB157_172.out _; (with_reducible repeat (first | refine blk_drewN ?_ _ | refine blk_drew ?_ | refine blk_alloc ?_ _)); exact BK157.out), (by (with_reducible repeat (first | refine blk_drewN ?_ _ | refine blk_drew ?_ | refine blk_alloc ?_ _)); refine blk_far ?_ NB158_172.out _; (with_reducible repeat (first | refine blk_drewN ?_ _ | refine blk_drew ?_ | refine blk_alloc ?_ _)); refine blk_far ?_ NB158_172.out _; (with_reducible repeat (first | refine blk_drewN ?_ _ | refine blk_drew ?_ | refine blk_alloc ?_ _)); exact BK158.out), (by (with_reducible repeat (first | refine blk_drewN ?_ _ | refine blk_drew ?_ | refine blk_alloc ?_ _)); refine blk_far ?_ NB159_172.out _; (with_reducible repeat (first | refine blk_drewN ?_ _ | refine blk_drew ?_ | refine blk_alloc ?_ _)); refine blk_far ?_ NB159_172.out _; (with_reducible repeat (first | refine blk_drewN ?_ _ | refine blk_drew ?_ | refine blk_alloc ?_ _)); exact BK159.out), (by (with_reducible repeat (first | refine blk_drewN ?_ _ | refine blk_drew ?_ | refine blk_alloc ?_ _)); refine blk_far ?_ NB160_172.out _; (with_reducible repeat (first | refine blk_drewN ?_ _ | refine blk_drew ?_ | refine blk_alloc ?_ _)); refine blk_far ?_ NB160_172.out _; (with_reducible repeat (first | refine blk_drewN ?_ _ | refine blk_drew ?_ | refine blk_alloc ?_ _)); exact BK160.out), (by repeat (first | (with_reducible first | exact HB.out | apply below_alloc | apply pw_below_drewN | apply below_drew1 | refine below_set ?_ GE157.out | refine below_set ?_ GE158.out | refine below_set ?_ GE159.out | refine below_set ?_ GE160.out | refine below_set ?_ GE171.out | refine below_set ?_ GE172.out | refine below_set ?_ GE173.out) | exact HB.out)), fun _ _ => NB172_171.out, fun _ _ => NB171_172.out, fun _ _ => NB173_171.out, fun _ _ => NB171_173.out, fun _ _ => NB173_172.out, fun _ _ => NB172_173.out, fun _ h1_ => absurd ((hon 12 (by kernel_rfl)).symm.trans h1_) (by decide), fun _ => GW171.out, fun _ => GE171.out, fun _ => NB157_171.out, fun _ => NB171_157.out, fun _ => NB158_171.out, fun _ => NB171_158.out, fun _ => NB159_171.out, fun _ => NB171_159.out, fun _ => NB160_171.out, fun _ => NB171_160.out, fun _ h1_ => absurd ((up_self b 13).symm.trans h1_) (by decide), fun _ => GW172.out, fun _ => GE172.out, fun _ => NB157_172.out, fun _ => NB172_157.out, fun _ => NB158_172.out, fun _ => NB172_158.out, fun _ => NB159_172.out, fun _ => NB172_159.out, fun _ => NB160_172.out, fun _ => NB172_160.out, fun _ _ => (by (with_reducible repeat (first | refine blk_drewN ?_ _ | refine blk_drew ?_ | refine blk_alloc ?_ _)); refine blk_far ?_ NB173_172.out _; (with_reducible repeat (first | refine blk_drewN ?_ _ | refine blk_drew ?_ | refine blk_alloc ?_ _)); refine blk_far ?_ NB173_172.out _; (with_reducible repeat (first | refine blk_drewN ?_ _ | refine blk_drew ?_ | refine blk_alloc ?_ _)); exact BK173.out), fun _ => GW173.out, fun _ => GE173.out, fun _ => NB157_173.out, fun _ => NB173_157.out, fun _ => NB158_173.out, fun _ => NB173_158.out, fun _ => NB159_173.out, fun _ => NB173_159.out, fun _ => NB160_173.out, fun _ => NB173_160.out, fun _ => (by (with_reducible repeat (first | refine blk_drewN ?_ _ | refine blk_drew ?_ | refine blk_alloc ?_ _)); refine blk_far ?_ NB171_172.out _; (with_reducible repeat (first | refine blk_drewN ?_ _ | refine blk_drew ?_ | refine blk_alloc ?_ _)); refine blk_far ?_ NB171_172.out _; (with_reducible repeat (first | refine blk_drewN ?_ _ | refine blk_drew ?_ | refine blk_alloc ?_ _)); exact BK171.out), fun _ => (by (with_reducible repeat (first | refine blk_drewN ?_ _ | refine blk_drew ?_ | refine blk_alloc ?_ _)); refine blk_put (cs := #[.int .i64 t167, .int .i64 0]) ?_ 1 _ rfl; (with_reducible repeat (first | refine blk_drewN ?_ _ | refine blk_drew ?_ | refine blk_alloc ?_ _)); refine blk_put (cs := #[.int .i64 0, .int .i64 0]) ?_ 0 _ rfl; (with_reducible repeat (first | refine blk_drewN ?_ _ | refine blk_drew ?_ | refine blk_alloc ?_ _)); exact BK172.out), fun h0_ => absurd ((hoff 14 (by kernel_rfl)).symm.trans h0_) (by decide), Q_X9_, Q_X10_, Q_X11_⟩
   refine steps_cons ?_ ?_
   ·rintro b a w' ⟨gb171, gb172, gb173, m9_, m10_, m11_, ha, Q_BK157, Q_BK158, Q_BK159, Q_BK160, Q_HB, Q_NB172_171, Q_NB171_172, Q_NB173_171, Q_NB171_173, Q_NB173_172, Q_NB172_173, Q_BK171, Q_GW171, Q_GE171, Q_NB157_171, Q_NB171_157, Q_NB158_171, Q_NB171_158, Q_NB159_171, Q_NB171_159, Q_NB160_171, Q_NB171_160, Q_BK172, Q_GW172, Q_GE172, Q_NB157_172, Q_NB172_157, Q_NB158_172, Q_NB172_158, Q_NB159_172, Q_NB172_159, Q_NB160_172, Q_NB172_160, Q_BK173, Q_GW173, Q_GE173, Q_NB157_173, Q_NB173_157, Q_NB158_173, Q_NB173_158, Q_NB159_173, Q_NB173_159, Q_NB160_173, Q_NB173_160, Q_BK171_e12, Q_BK172_e13, Q_BK173_e14, Q_X9_, Q_X10_, Q_X11_⟩ hb_ hon hoff
    refine ⟨_, rfl, fun K hK => ?_⟩
    have e11 : a.tmps[11]? = some (m11_) := by rw [ha]; exact putSel_on (e := (11, 11, m11_)) 11 rfl rfl (hon 11 (by kernel_rfl)) rfl
    rw [Q_X11_ (hon 11 (by kernel_rfl))] at e11
    have e28 : a.tmps[28]? = some (.agg #[.int .i64 t169, .int .i64 t170]) := by rw [ha]; exact putSel_on (e := (8, 28, .agg #[.int .i64 t169, .int .i64 t170])) 8 rfl rfl (hon 8 (by kernel_rfl)) rfl
    replace ha := Aside0.mk ha
    have BK157 := Aside0.mk Q_BK157
    have BK158 := Aside0.mk Q_BK158
    have BK159 := Aside0.mk Q_BK159
    have BK160 := Aside0.mk Q_BK160
    have HB := Aside0.mk Q_HB
    have NB172_171 := Aside0.mk (Q_NB172_171 (hon 9 (by kernel_rfl)) (hon 10 (by kernel_rfl)))
    have NB171_172 := Aside0.mk (Q_NB171_172 (hon 9 (by kernel_rfl)) (hon 10 (by kernel_rfl)))
    have NB173_171 := Aside0.mk (Q_NB173_171 (hon 9 (by kernel_rfl)) (hon 11 (by kernel_rfl)))
    have NB171_173 := Aside0.mk (Q_NB171_173 (hon 9 (by kernel_rfl)) (hon 11 (by kernel_rfl)))
    have NB173_172 := Aside0.mk (Q_NB173_172 (hon 10 (by kernel_rfl)) (hon 11 (by kernel_rfl)))
    have NB172_173 := Aside0.mk (Q_NB172_173 (hon 10 (by kernel_rfl)) (hon 11 (by kernel_rfl)))
    have GW171 := Aside0.mk (Q_GW171 (hon 9 (by kernel_rfl)))
    have GE171 := Aside0.mk (Q_GE171 (hon 9 (by kernel_rfl)))
    have NB157_171 := Aside0.mk (Q_NB157_171 (hon 9 (by kernel_rfl)))
    have NB171_157 := Aside0.mk (Q_NB171_157 (hon 9 (by kernel_rfl)))
    have NB158_171 := Aside0.mk (Q_NB158_171 (hon 9 (by kernel_rfl)))
    have NB171_158 := Aside0.mk (Q_NB171_158 (hon 9 (by kernel_rfl)))
    have NB159_171 := Aside0.mk (Q_NB159_171 (hon 9 (by kernel_rfl)))
    have NB171_159 := Aside0.mk (Q_NB171_159 (hon 9 (by kernel_rfl)))
    have NB160_171 := Aside0.mk (Q_NB160_171 (hon 9 (by kernel_rfl)))
    have NB171_160 := Aside0.mk (Q_NB171_160 (hon 9 (by kernel_rfl)))
    have GW172 := Aside0.mk (Q_GW172 (hon 10 (by kernel_rfl)))
    have GE172 := Aside0.mk (Q_GE172 (hon 10 (by kernel_rfl)))
    have NB157_172 := Aside0.mk (Q_NB157_172 (hon 10 (by kernel_rfl)))
    have NB172_157 := Aside0.mk (Q_NB172_157 (hon 10 (by kernel_rfl)))
    have NB158_172 := Aside0.mk (Q_NB158_172 (hon 10 (by kernel_rfl)))
    have NB172_158 := Aside0.mk (Q_NB172_158 (hon 10 (by kernel_rfl)))
    have NB159_172 := Aside0.mk (Q_NB159_172 (hon 10 (by kernel_rfl)))
    have NB172_159 := Aside0.mk (Q_NB172_159 (hon 10 (by kernel_rfl)))
    have NB160_172 := Aside0.mk (Q_NB160_172 (hon 10 (by kernel_rfl)))
    have NB172_160 := Aside0.mk (Q_NB172_160 (hon 10 (by kernel_rfl)))
    have BK173 := Aside0.mk (Q_BK173 (hon 11 (by kernel_rfl)) hb_)
    have GW173 := Aside0.mk (Q_GW173 (hon 11 (by kernel_rfl)))
    have GE173 := Aside0.mk (Q_GE173 (hon 11 (by kernel_rfl)))
    have NB157_173 := Aside0.mk (Q_NB157_173 (hon 11 (by kernel_rfl)))
    have NB173_157 := Aside0.mk (Q_NB173_157 (hon 11 (by kernel_rfl)))
    have NB158_173 := Aside0.mk (Q_NB158_173 (hon 11 (by kernel_rfl)))
    have NB173_158 := Aside0.mk (Q_NB173_158 (hon 11 (by kernel_rfl)))
    have NB159_173 := Aside0.mk (Q_NB159_173 (hon 11 (by kernel_rfl)))
    have NB173_159 := Aside0.mk (Q_NB173_159 (hon 11 (by kernel_rfl)))
    have NB160_173 := Aside0.mk (Q_NB160_173 (hon 11 (by kernel_rfl)))
    have NB173_160 := Aside0.mk (Q_NB173_160 (hon 11 (by kernel_rfl)))
    have BK171 := Aside0.mk (Q_BK171_e12 (hon 12 (by kernel_rfl)))
    have BK172 := Aside0.mk (Q_BK172_e13 (hon 13 (by kernel_rfl)))
    have hs52 : w'.cell? ⟨gb173, 0, none⟩ = some (.int .i64 0) := (blk_cell BK173.out 0).trans rfl
    have hfs52 := blk_frozen BK173.out 0
    have hns52_0 := NB157_173.out
    have hns52_1 := NB158_173.out
    have hns52_2 := NB159_173.out
    have hns52_3 := NB160_173.out
    have hns52_4 := NB171_173.out
    have hns52_5 := NB172_173.out
    have hms52_0 := NB173_157.out
    have hms52_1 := NB173_158.out
    have hms52_2 := NB173_159.out
    have hms52_3 := NB173_160.out
    have hms52_4 := NB173_171.out
    have hms52_5 := NB173_172.out
    have hs53 : w'.cell? ⟨gb173, 1, none⟩ = some (.int .i64 0) := (blk_cell BK173.out 1).trans rfl
    have hfs53 := blk_frozen BK173.out 1
    have hns53_0 := NB157_173.out
    have hns53_1 := NB158_173.out
    have hns53_2 := NB159_173.out
    have hns53_3 := NB160_173.out
    have hns53_4 := NB171_173.out
    have hns53_5 := NB172_173.out
    have hms53_0 := NB173_157.out
    have hms53_1 := NB173_158.out
    have hms53_2 := NB173_159.out
    have hms53_3 := NB173_160.out
    have hms53_4 := NB173_171.out
    have hms53_5 := NB173_172.out
    refine skip_ (w1 := ?_) (by rfl) rfl ?_ ?_
    rotate_left
    ·go_simp
     rfl
    refine hK.out _ _ ⟨gb171, gb172, gb173, m9_, m10_, m11_, (by rw [ha.out]; exact putSel_none (v := undef) rfl), (by (with_reducible repeat (first | refine blk_drewN ?_ _ | refine blk_drew ?_ | refine blk_alloc ?_ _)); refine blk_far ?_ NB157_173.out _; (with_reducible repeat (first | refine blk_drewN ?_ _ | refine blk_drew ?_ | refine blk_alloc ?_ _)); refine blk_far ?_ NB157_173.out _; (with_reducible repeat (first | refine blk_drewN ?_ _ | refine blk_drew ?_ | refine blk_alloc ?_ _)); exact BK157.out), (by (with_reducible repeat (first | refine blk_drewN ?_ _ | refine blk_drew ?_ | refine blk_alloc ?_ _)); refine blk_far ?_ NB158_173.out _; (with_reducible repeat (first | refine blk_drewN ?_ _ | refine blk_drew ?_ | refine blk_alloc ?_ _)); refine blk_far ?_ NB158_173.out _; (with_reducible repeat (first | refine blk_drewN ?_ _ | refine blk_drew ?_ | refine blk_alloc ?_ _)); exact BK158.out), (by (with_reducible repeat (first | refine blk_drewN ?_ _ | refine blk_drew ?_ | refine blk_alloc ?_ _)); refine blk_far ?_ NB159_173.out _; (with_reducible repeat (first | refine blk_drewN ?_ _ | refine blk_drew ?_ | refine blk_alloc ?_ _)); refine blk_far ?_ NB159_173.out _; (with_reducible repeat (first | refine blk_drewN ?_ _ | refine blk_drew ?_ | refine blk_alloc ?_ _)); exact BK159.out), (by (with_reducible repeat (first | refine blk_drewN ?_ _ | refine blk_drew ?_ | refine blk_alloc ?_ _)); refine blk_far ?_ NB160_173.out _; (with_reducible repeat (first | refine blk_drewN ?_ _ | refine blk_drew ?_ | refine blk_alloc ?_ _)); refine blk_far ?_ NB160_173.out _; (with_reducible repeat (first | refine blk_drewN ?_ _ | refine blk_drew ?_ | refine blk_alloc ?_ _)); exact BK160.out), (by repeat (first | (with_reducible first | exact HB.out | apply below_alloc | apply pw_below_drewN | apply below_drew1 | refine below_set ?_ GE157.out | refine below_set ?_ GE158.out | refine below_set ?_ GE159.out | refine below_set ?_ GE160.out | refine below_set ?_ GE171.out | refine below_set ?_ GE172.out | refine below_set ?_ GE173.out) | exact HB.out)), fun _ _ => NB172_171.out, fun _ _ => NB171_172.out, fun _ _ => NB173_171.out, fun _ _ => NB171_173.out, fun _ _ => NB173_172.out, fun _ _ => NB172_173.out, fun _ h1_ => absurd ((hon 12 (by kernel_rfl)).symm.trans h1_) (by decide), fun _ => GW171.out, fun _ => GE171.out, fun _ => NB157_171.out, fun _ => NB171_157.out, fun _ => NB158_171.out, fun _ => NB171_158.out, fun _ => NB159_171.out, fun _ => NB171_159.out, fun _ => NB160_171.out, fun _ => NB171_160.out, fun _ h1_ => absurd ((hon 13 (by kernel_rfl)).symm.trans h1_) (by decide), fun _ => GW172.out, fun _ => GE172.out, fun _ => NB157_172.out, fun _ => NB172_157.out, fun _ => NB158_172.out, fun _ => NB172_158.out, fun _ => NB159_172.out, fun _ => NB172_159.out, fun _ => NB160_172.out, fun _ => NB172_160.out, fun _ h1_ => absurd ((up_self b 14).symm.trans h1_) (by decide), fun _ => GW173.out, fun _ => GE173.out, fun _ => NB157_173.out, fun _ => NB173_157.out, fun _ => NB158_173.out, fun _ => NB173_158.out, fun _ => NB159_173.out, fun _ => NB173_159.out, fun _ => NB160_173.out, fun _ => NB173_160.out, fun _ => (by (with_reducible repeat (first | refine blk_drewN ?_ _ | refine blk_drew ?_ | refine blk_alloc ?_ _)); refine blk_far ?_ NB171_173.out _; (with_reducible repeat (first | refine blk_drewN ?_ _ | refine blk_drew ?_ | refine blk_alloc ?_ _)); refine blk_far ?_ NB171_173.out _; (with_reducible repeat (first | refine blk_drewN ?_ _ | refine blk_drew ?_ | refine blk_alloc ?_ _)); exact BK171.out), fun _ => (by (with_reducible repeat (first | refine blk_drewN ?_ _ | refine blk_drew ?_ | refine blk_alloc ?_ _)); refine blk_far ?_ NB172_173.out _; (with_reducible repeat (first | refine blk_drewN ?_ _ | refine blk_drew ?_ | refine blk_alloc ?_ _)); refine blk_far ?_ NB172_173.out _; (with_reducible repeat (first | refine blk_drewN ?_ _ | refine blk_drew ?_ | refine blk_alloc ?_ _)); exact BK172.out), fun _ => (by (with_reducible repeat (first | refine blk_drewN ?_ _ | refine blk_drew ?_ | refine blk_alloc ?_ _)); refine blk_put (cs := #[.int .i64 t169, .int .i64 0]) ?_ 1 _ rfl; (with_reducible repeat (first | refine blk_drewN ?_ _ | refine blk_drew ?_ | refine blk_alloc ?_ _)); refine blk_put (cs := #[.int .i64 0, .int .i64 0]) ?_ 0 _ rfl; (with_reducible repeat (first | refine blk_drewN ?_ _ | refine blk_drew ?_ | refine blk_alloc ?_ _)); exact BK173.out), Q_X9_, Q_X10_, Q_X11_⟩
   exact steps_nil
  rintro b a w53 hall ⟨gb171, gb172, gb173, m9_, m10_, m11_, ha, Q_BK157, Q_BK158, Q_BK159, Q_BK160, Q_HB, Q_NB172_171, Q_NB171_172, Q_NB173_171, Q_NB171_173, Q_NB173_172, Q_NB172_173, Q_BK171, Q_GW171, Q_GE171, Q_NB157_171, Q_NB171_157, Q_NB158_171, Q_NB171_158, Q_NB159_171, Q_NB171_159, Q_NB160_171, Q_NB171_160, Q_BK172, Q_GW172, Q_GE172, Q_NB157_172, Q_NB172_157, Q_NB158_172, Q_NB172_158, Q_NB159_172, Q_NB172_159, Q_NB160_172, Q_NB172_160, Q_BK173, Q_GW173, Q_GE173, Q_NB157_173, Q_NB173_157, Q_NB158_173, Q_NB173_158, Q_NB159_173, Q_NB173_159, Q_NB160_173, Q_NB173_160, Q_BK171_e12, Q_BK172_e13, Q_BK173_e14, Q_X9_, Q_X10_, Q_X11_⟩
  clear BK157 BK158 BK159 BK160 HB
  have hb0_ := hall 0 (by kernel_rfl)
  have hb1_ := hall 1 (by kernel_rfl)
  have hb2_ := hall 2 (by kernel_rfl)
  have hb3_ := hall 3 (by kernel_rfl)
  have hb4_ := hall 4 (by kernel_rfl)
  have hb5_ := hall 5 (by kernel_rfl)
  have hb6_ := hall 6 (by kernel_rfl)
  have hb7_ := hall 7 (by kernel_rfl)
  have hb8_ := hall 8 (by kernel_rfl)
  have hb9_ := hall 9 (by kernel_rfl)
  have hb10_ := hall 10 (by kernel_rfl)
  have hb11_ := hall 11 (by kernel_rfl)
  have hb12_ := hall 12 (by kernel_rfl)
  have hb13_ := hall 13 (by kernel_rfl)
  have hb14_ := hall 14 (by kernel_rfl)
  subst ha
  obtain rfl := Q_X9_ hb9_
  obtain rfl := Q_X10_ hb10_
  obtain rfl := Q_X11_ hb11_
  simp only [putSel, hb0_, hb1_, hb2_, hb3_, hb4_, hb5_, hb6_, hb7_, hb8_, hb9_, hb10_, hb11_, hb12_, hb13_, hb14_, if_true, Act.put, List.setIfInBounds_toArray, List.set_cons_zero, List.set_cons_succ]
  have BK157 := Aside0.mk Q_BK157
  clear Q_BK157
  have BK158 := Aside0.mk Q_BK158
  clear Q_BK158
  have BK159 := Aside0.mk Q_BK159
  clear Q_BK159
  have BK160 := Aside0.mk Q_BK160
  clear Q_BK160
  have HB := Aside0.mk Q_HB
  clear Q_HB
  have NB172_171 := Aside0.mk (Q_NB172_171 hb9_ hb10_)
  clear Q_NB172_171
  have NB171_172 := Aside0.mk (Q_NB171_172 hb9_ hb10_)
  clear Q_NB171_172
  have NB173_171 := Aside0.mk (Q_NB173_171 hb9_ hb11_)
  clear Q_NB173_171
  have NB171_173 := Aside0.mk (Q_NB171_173 hb9_ hb11_)
  clear Q_NB171_173
  have NB173_172 := Aside0.mk (Q_NB173_172 hb10_ hb11_)
  clear Q_NB173_172
  have NB172_173 := Aside0.mk (Q_NB172_173 hb10_ hb11_)
  clear Q_NB172_173
  clear Q_BK171
  have GW171 := Aside0.mk (Q_GW171 hb9_)
  clear Q_GW171
  have GE171 := Aside0.mk (Q_GE171 hb9_)
  clear Q_GE171
  have NB157_171 := Aside0.mk (Q_NB157_171 hb9_)
  clear Q_NB157_171
  have NB171_157 := Aside0.mk (Q_NB171_157 hb9_)
  clear Q_NB171_157
  have NB158_171 := Aside0.mk (Q_NB158_171 hb9_)
  clear Q_NB158_171
  have NB171_158 := Aside0.mk (Q_NB171_158 hb9_)
  clear Q_NB171_158
  have NB159_171 := Aside0.mk (Q_NB159_171 hb9_)
  clear Q_NB159_171
  have NB171_159 := Aside0.mk (Q_NB171_159 hb9_)
  clear Q_NB171_159
  have NB160_171 := Aside0.mk (Q_NB160_171 hb9_)
  clear Q_NB160_171
  have NB171_160 := Aside0.mk (Q_NB171_160 hb9_)
  clear Q_NB171_160
  clear Q_BK172
  have GW172 := Aside0.mk (Q_GW172 hb10_)
  clear Q_GW172
  have GE172 := Aside0.mk (Q_GE172 hb10_)
  clear Q_GE172
  have NB157_172 := Aside0.mk (Q_NB157_172 hb10_)
  clear Q_NB157_172
  have NB172_157 := Aside0.mk (Q_NB172_157 hb10_)
  clear Q_NB172_157
  have NB158_172 := Aside0.mk (Q_NB158_172 hb10_)
  clear Q_NB158_172
  have NB172_158 := Aside0.mk (Q_NB172_158 hb10_)
  clear Q_NB172_158
  have NB159_172 := Aside0.mk (Q_NB159_172 hb10_)
  clear Q_NB159_172
  have NB172_159 := Aside0.mk (Q_NB172_159 hb10_)
  clear Q_NB172_159
  have NB160_172 := Aside0.mk (Q_NB160_172 hb10_)
  clear Q_NB160_172
  have NB172_160 := Aside0.mk (Q_NB172_160 hb10_)
  clear Q_NB172_160
  clear Q_BK173
  have GW173 := Aside0.mk (Q_GW173 hb11_)
  clear Q_GW173
  have GE173 := Aside0.mk (Q_GE173 hb11_)
  clear Q_GE173
  have NB157_173 := Aside0.mk (Q_NB157_173 hb11_)
  clear Q_NB157_173
  have NB173_157 := Aside0.mk (Q_NB173_157 hb11_)
  clear Q_NB173_157
  have NB158_173 := Aside0.mk (Q_NB158_173 hb11_)
  clear Q_NB158_173
  have NB173_158 := Aside0.mk (Q_NB173_158 hb11_)
  clear Q_NB173_158
  have NB159_173 := Aside0.mk (Q_NB159_173 hb11_)
  clear Q_NB159_173
  have NB173_159 := Aside0.mk (Q_NB173_159 hb11_)
  clear Q_NB173_159
  have NB160_173 := Aside0.mk (Q_NB160_173 hb11_)
  clear Q_NB160_173
  have NB173_160 := Aside0.mk (Q_NB173_160 hb11_)
  clear Q_NB173_160
  have BK171 := Aside0.mk (Q_BK171_e12 hb12_)
  clear Q_BK171_e12
  have BK172 := Aside0.mk (Q_BK172_e13 hb13_)
  clear Q_BK172_e13
  have BK173 := Aside0.mk (Q_BK173_e14 hb14_)
  clear Q_BK173_e14
  clear hall hb0_ hb1_ hb2_ hb3_ hb4_ hb5_ hb6_ hb7_ hb8_ hb9_ hb10_ hb11_ hb12_ hb13_ hb14_
  try go_wp2
  have n0_ := Aside0.mk (blk_drew BK171.out)
  have n1_ := Aside0.mk (blk_drew BK172.out)
  have n2_ := Aside0.mk (blk_drew BK173.out)
  have n3_ := Aside0.mk (below_drew1 HB.out)
  clear BK171
  clear BK172
  clear BK173
  clear HB
  have BK171 := n0_
  have BK172 := n1_
  have BK173 := n2_
  have HB := n3_
  clear n0_ n1_ n2_ n3_
  refine start_ (n := 8) (S := fun w' => True) (ds := []) #[false, false, false, false, false, false, false, false] (by kernel_rfl) rfl rfl trivial (fun hHeld => ?_); refine with_tabW pred_InCircle.tab4 pred_InCircle.bits4 (fun HT_ HW_ => ?_)
  generalize w53.drew = w54 at BK171 BK172 BK173 HB hHeld ⊢
  refine inv_at [0, 1, 2, 3, 4, 5, 6, 7] (fun a0_ b a w' => ∃ (gb182 : Nat) (m6_ : Value), a = putSel a0_ b [(0, 29, .agg #[.int .i64 t165, .int .i64 t166]), (1, 30, .agg #[.int .i64 t174, .int .u64 t175]), (2, 31, .agg #[.int .i64 t167, .int .i64 t168]), (3, 32, .agg #[.int .i64 t169, .int .i64 t170]), (4, 33, .agg #[.int .i64 t176, .int .u64 t177]), (5, 34, .agg #[.int .u64 t178, .int .u64 t179, .int .u64 t180, .int .u64 t181]), (6, 12, m6_)] ∧ (w'.heap[gb171]? = some (.cells #[.int .i64 t165, .int .i64 t166] 23 (0, 0))) ∧ (w'.heap[gb172]? = some (.cells #[.int .i64 t167, .int .i64 t168] 23 (0, 0))) ∧ (w'.heap[gb173]? = some (.cells #[.int .i64 t169, .int .i64 t170] 23 (0, 0))) ∧ (Below w.heap.size w w') ∧ (b 6 = true → b 7 = false → w'.heap[gb182]? = some (.cells #[.int .u64 0, .int .u64 0, .int .u64 0, .int .u64 0] 50 (0, 0))) ∧ (b 6 = true → w.heap.size ≤ gb182) ∧ (b 6 = true → w.heap.size ≤ gb182) ∧ (b 6 = true → gb171 ≠ gb182) ∧ (b 6 = true → gb182 ≠ gb171) ∧ (b 6 = true → gb172 ≠ gb182) ∧ (b 6 = true → gb182 ≠ gb172) ∧ (b 6 = true → gb173 ≠ gb182) ∧ (b 6 = true → gb182 ≠ gb173) ∧ (b 7 = true → w'.heap[gb182]? = some (.cells #[.int .u64 t178, .int .u64 t179, .int .u64 t180, .int .u64 t181] 50 (0, 0))) ∧ (b 6 = true → (m6_ : Value) = .pointer (some ⟨gb182, 0, none⟩))) HT_.out HW_.out (by kernel_rfl) (by kernel_rfl) ?_ ?_ ?_
  ·exact ⟨0, .bool false, by simp only [putSel, Bool.false_eq_true, if_false], BK171.out, BK172.out, BK173.out, HB.out, fun h_ => absurd h_ (by decide), fun h_ => absurd h_ (by decide), fun h_ => absurd h_ (by decide), fun h_ => absurd h_ (by decide), fun h_ => absurd h_ (by decide), fun h_ => absurd h_ (by decide), fun h_ => absurd h_ (by decide), fun h_ => absurd h_ (by decide), fun h_ => absurd h_ (by decide), fun h_ => absurd h_ (by decide), fun h_ => absurd h_ (by decide)⟩
  ·skip
   clear BK171 BK172 BK173 HB
   refine steps_cons ?_ ?_
   ·rintro b a w' ⟨gb182, m6_, ha, Q_BK171, Q_BK172, Q_BK173, Q_HB, Q_BK182, Q_GW182, Q_GE182, Q_NB171_182, Q_NB182_171, Q_NB172_182, Q_NB182_172, Q_NB173_182, Q_NB182_173, Q_BK182_e7, Q_X6_⟩ hb_ hon hoff
    refine ⟨_, rfl, fun K hK => ?_⟩
    have e9 : a.tmps[9]? = some (.pointer (some ⟨gb171, 0, none⟩)) := by rw [ha]; exact (putSel_off rfl).trans rfl
    replace ha := Aside0.mk ha
    have BK171 := Aside0.mk Q_BK171
    have BK172 := Aside0.mk Q_BK172
    have BK173 := Aside0.mk Q_BK173
    have HB := Aside0.mk Q_HB
    have hc0_ : w'.cell? ⟨gb171, 0, none⟩ = some (.int .i64 t165) := (blk_cell BK171.out 0).trans rfl
    have hc1_ : w'.cell? ⟨gb171, 1, none⟩ = some (.int .i64 t166) := (blk_cell BK171.out 1).trans rfl
    refine value_ (w1 := w') (v := .agg #[.int .i64 t165, .int .i64 t166]) (by rfl) rfl ?_ ?_
    ·go_simp
     (try simp only [i64_w])
     try rfl
    refine hK.out _ _ ⟨gb182, m6_, (by rw [ha.out]; exact putSel_upk 0 hb_ rfl rfl rfl), Q_BK171, Q_BK172, Q_BK173, Q_HB, Q_BK182, Q_GW182, Q_GE182, Q_NB171_182, Q_NB182_171, Q_NB172_182, Q_NB182_172, Q_NB173_182, Q_NB182_173, fun h0_ => absurd ((hoff 7 (by kernel_rfl)).symm.trans h0_) (by decide), Q_X6_⟩
   refine steps_cons ?_ ?_
   ·rintro b a w' ⟨gb182, m6_, ha, Q_BK171, Q_BK172, Q_BK173, Q_HB, Q_BK182, Q_GW182, Q_GE182, Q_NB171_182, Q_NB182_171, Q_NB172_182, Q_NB182_172, Q_NB173_182, Q_NB182_173, Q_BK182_e7, Q_X6_⟩ hb_ hon hoff
    refine ⟨_, rfl, fun K hK => ?_⟩
    have e29 : a.tmps[29]? = some (.agg #[.int .i64 t165, .int .i64 t166]) := by rw [ha]; exact putSel_on (e := (0, 29, .agg #[.int .i64 t165, .int .i64 t166])) 0 rfl rfl (hon 0 (by kernel_rfl)) rfl
    replace ha := Aside0.mk ha
    have BK171 := Aside0.mk Q_BK171
    have BK172 := Aside0.mk Q_BK172
    have BK173 := Aside0.mk Q_BK173
    have HB := Aside0.mk Q_HB
    refine goes_ Try.func26 (by kernel_rfl) rfl #[.agg #[.int .i64 t165, .int .i64 t166]] (by rfl) rfl rfl (by first | (simp only [List.map_toArray, List.map_cons, List.map_nil, Act.eval, Array.getD_eq_getD_getElem?, Option.getD_some, e29]; done) | (simp only [List.map_toArray, List.map_cons, List.map_nil, Act.eval, Array.getD_eq_getD_getElem?, Option.getD_some, e29]; rfl)) ?_
    with_reducible refine (pred_square.calls t165 t166 t174 t175 _ A10.out).mono ?_
    rintro e w55 ⟨rfl, hb⟩
    refine ⟨_, rfl, ?_⟩
    have n0_ := Aside0.mk (blk_below (g := gb171) (o := .cells #[.int .i64 t165, .int .i64 t166] 23 (0, 0)) (by (with_reducible repeat (first | refine blk_drewN ?_ _ | refine blk_drew ?_ | refine blk_alloc ?_ _)); exact BK171.out) hb)
    have n1_ := Aside0.mk (blk_below (g := gb172) (o := .cells #[.int .i64 t167, .int .i64 t168] 23 (0, 0)) (by (with_reducible repeat (first | refine blk_drewN ?_ _ | refine blk_drew ?_ | refine blk_alloc ?_ _)); exact BK172.out) hb)
    have n2_ := Aside0.mk (blk_below (g := gb173) (o := .cells #[.int .i64 t169, .int .i64 t170] 23 (0, 0)) (by (with_reducible repeat (first | refine blk_drewN ?_ _ | refine blk_drew ?_ | refine blk_alloc ?_ _)); exact BK173.out) hb)
    have n3_ := Aside0.mk (below_step (by repeat (first | (with_reducible first | exact HB.out | apply below_alloc | apply pw_below_drewN | apply below_drew1 | refine below_set ?_ GE171.out | refine below_set ?_ GE172.out | refine below_set ?_ GE173.out) | exact HB.out)) hb)
    have z_BK182 := fun (h0_ : b 6 = true) (h1_ : b 7 = false) => (show w55.heap[gb182]? = some (.cells #[.int .u64 0, .int .u64 0, .int .u64 0, .int .u64 0] 50 (0, 0)) from by first | exact (blk_below (g := gb182) (o := .cells #[.int .u64 0, .int .u64 0, .int .u64 0, .int .u64 0] 50 (0, 0)) (by (with_reducible repeat (first | refine blk_drewN ?_ _ | refine blk_drew ?_ | refine blk_alloc ?_ _)); exact (Q_BK182 h0_ h1_)) hb))
    clear BK171
    clear BK172
    clear BK173
    clear HB
    have BK171 := n0_
    have BK172 := n1_
    have BK173 := n2_
    have HB := n3_
    clear n0_ n1_ n2_ n3_
    (try clear hb)
    (try clear hb2)
    (try clear hk)
    (try clear hi)
    refine hK.out _ _ ⟨gb182, m6_, (by rw [ha.out]; exact putSel_upk 1 hb_ rfl rfl rfl), (by (with_reducible repeat (first | refine blk_drewN ?_ _ | refine blk_drew ?_ | refine blk_alloc ?_ _)); exact BK171.out), (by (with_reducible repeat (first | refine blk_drewN ?_ _ | refine blk_drew ?_ | refine blk_alloc ?_ _)); exact BK172.out), (by (with_reducible repeat (first | refine blk_drewN ?_ _ | refine blk_drew ?_ | refine blk_alloc ?_ _)); exact BK173.out), (by repeat (first | (with_reducible first | exact HB.out | apply below_alloc | apply pw_below_drewN | apply below_drew1 | refine below_set ?_ GE171.out | refine below_set ?_ GE172.out | refine below_set ?_ GE173.out) | exact HB.out)), z_BK182, Q_GW182, Q_GE182, Q_NB171_182, Q_NB182_171, Q_NB172_182, Q_NB182_172, Q_NB173_182, Q_NB182_173, fun h0_ => absurd ((hoff 7 (by kernel_rfl)).symm.trans h0_) (by decide), Q_X6_⟩
   refine steps_cons ?_ ?_
   ·rintro b a w' ⟨gb182, m6_, ha, Q_BK171, Q_BK172, Q_BK173, Q_HB, Q_BK182, Q_GW182, Q_GE182, Q_NB171_182, Q_NB182_171, Q_NB172_182, Q_NB182_172, Q_NB173_182, Q_NB182_173, Q_BK182_e7, Q_X6_⟩ hb_ hon hoff
    refine ⟨_, rfl, fun K hK => ?_⟩
    have e10 : a.tmps[10]? = some (.pointer (some ⟨gb172, 0, none⟩)) := by rw [ha]; exact (putSel_off rfl).trans rfl
    replace ha := Aside0.mk ha
    have BK171 := Aside0.mk Q_BK171
    have BK172 := Aside0.mk Q_BK172
    have BK173 := Aside0.mk Q_BK173
    have HB := Aside0.mk Q_HB
    have hc0_ : w'.cell? ⟨gb172, 0, none⟩ = some (.int .i64 t167) := (blk_cell BK172.out 0).trans rfl
    have hc1_ : w'.cell? ⟨gb172, 1, none⟩ = some (.int .i64 t168) := (blk_cell BK172.out 1).trans rfl
    refine value_ (w1 := w') (v := .agg #[.int .i64 t167, .int .i64 t168]) (by rfl) rfl ?_ ?_
    ·go_simp
     (try simp only [i64_w])
     try rfl
    refine hK.out _ _ ⟨gb182, m6_, (by rw [ha.out]; exact putSel_upk 2 hb_ rfl rfl rfl), Q_BK171, Q_BK172, Q_BK173, Q_HB, Q_BK182, Q_GW182, Q_GE182, Q_NB171_182, Q_NB182_171, Q_NB172_182, Q_NB182_172, Q_NB173_182, Q_NB182_173, fun h0_ => absurd ((hoff 7 (by kernel_rfl)).symm.trans h0_) (by decide), Q_X6_⟩
   refine steps_cons ?_ ?_
   ·rintro b a w' ⟨gb182, m6_, ha, Q_BK171, Q_BK172, Q_BK173, Q_HB, Q_BK182, Q_GW182, Q_GE182, Q_NB171_182, Q_NB182_171, Q_NB172_182, Q_NB182_172, Q_NB173_182, Q_NB182_173, Q_BK182_e7, Q_X6_⟩ hb_ hon hoff
    refine ⟨_, rfl, fun K hK => ?_⟩
    have e11 : a.tmps[11]? = some (.pointer (some ⟨gb173, 0, none⟩)) := by rw [ha]; exact (putSel_off rfl).trans rfl
    replace ha := Aside0.mk ha
    have BK171 := Aside0.mk Q_BK171
    have BK172 := Aside0.mk Q_BK172
    have BK173 := Aside0.mk Q_BK173
    have HB := Aside0.mk Q_HB
    have hc0_ : w'.cell? ⟨gb173, 0, none⟩ = some (.int .i64 t169) := (blk_cell BK173.out 0).trans rfl
    have hc1_ : w'.cell? ⟨gb173, 1, none⟩ = some (.int .i64 t170) := (blk_cell BK173.out 1).trans rfl
    refine value_ (w1 := w') (v := .agg #[.int .i64 t169, .int .i64 t170]) (by rfl) rfl ?_ ?_
    ·go_simp
     (try simp only [i64_w])
     try rfl
    refine hK.out _ _ ⟨gb182, m6_, (by rw [ha.out]; exact putSel_upk 3 hb_ rfl rfl rfl), Q_BK171, Q_BK172, Q_BK173, Q_HB, Q_BK182, Q_GW182, Q_GE182, Q_NB171_182, Q_NB182_171, Q_NB172_182, Q_NB182_172, Q_NB173_182, Q_NB182_173, fun h0_ => absurd ((hoff 7 (by kernel_rfl)).symm.trans h0_) (by decide), Q_X6_⟩
   refine steps_cons ?_ ?_
   ·rintro b a w' ⟨gb182, m6_, ha, Q_BK171, Q_BK172, Q_BK173, Q_HB, Q_BK182, Q_GW182, Q_GE182, Q_NB171_182, Q_NB182_171, Q_NB172_182, Q_NB182_172, Q_NB173_182, Q_NB182_173, Q_BK182_e7, Q_X6_⟩ hb_ hon hoff
    refine ⟨_, rfl, fun K hK => ?_⟩
    have e31 : a.tmps[31]? = some (.agg #[.int .i64 t167, .int .i64 t168]) := by rw [ha]; exact putSel_on (e := (2, 31, .agg #[.int .i64 t167, .int .i64 t168])) 2 rfl rfl (hon 2 (by kernel_rfl)) rfl
    have e32 : a.tmps[32]? = some (.agg #[.int .i64 t169, .int .i64 t170]) := by rw [ha]; exact putSel_on (e := (3, 32, .agg #[.int .i64 t169, .int .i64 t170])) 3 rfl rfl (hon 3 (by kernel_rfl)) rfl
    replace ha := Aside0.mk ha
    have BK171 := Aside0.mk Q_BK171
    have BK172 := Aside0.mk Q_BK172
    have BK173 := Aside0.mk Q_BK173
    have HB := Aside0.mk Q_HB
    refine goes_ Try.func27 (by kernel_rfl) rfl #[.agg #[.int .i64 t167, .int .i64 t168], .agg #[.int .i64 t169, .int .i64 t170]] (by rfl) rfl rfl (by first | (simp only [List.map_toArray, List.map_cons, List.map_nil, Act.eval, Array.getD_eq_getD_getElem?, Option.getD_some, e31, e32]; done) | (simp only [List.map_toArray, List.map_cons, List.map_nil, Act.eval, Array.getD_eq_getD_getElem?, Option.getD_some, e31, e32]; rfl)) ?_
    with_reducible refine (pred_across.calls t167 t168 t169 t170 t176 t177 _ A11.out).mono ?_
    rintro e w57 ⟨rfl, hb⟩
    refine ⟨_, rfl, ?_⟩
    have n0_ := Aside0.mk (blk_below (g := gb171) (o := .cells #[.int .i64 t165, .int .i64 t166] 23 (0, 0)) (by (with_reducible repeat (first | refine blk_drewN ?_ _ | refine blk_drew ?_ | refine blk_alloc ?_ _)); exact BK171.out) hb)
    have n1_ := Aside0.mk (blk_below (g := gb172) (o := .cells #[.int .i64 t167, .int .i64 t168] 23 (0, 0)) (by (with_reducible repeat (first | refine blk_drewN ?_ _ | refine blk_drew ?_ | refine blk_alloc ?_ _)); exact BK172.out) hb)
    have n2_ := Aside0.mk (blk_below (g := gb173) (o := .cells #[.int .i64 t169, .int .i64 t170] 23 (0, 0)) (by (with_reducible repeat (first | refine blk_drewN ?_ _ | refine blk_drew ?_ | refine blk_alloc ?_ _)); exact BK173.out) hb)
    have n3_ := Aside0.mk (below_step (by repeat (first | (with_reducible first | exact HB.out | apply below_alloc | apply pw_below_drewN | apply below_drew1 | refine below_set ?_ GE171.out | refine below_set ?_ GE172.out | refine below_set ?_ GE173.out) | exact HB.out)) hb)
    have z_BK182 := fun (h0_ : b 6 = true) (h1_ : b 7 = false) => (show w57.heap[gb182]? = some (.cells #[.int .u64 0, .int .u64 0, .int .u64 0, .int .u64 0] 50 (0, 0)) from by first | exact (blk_below (g := gb182) (o := .cells #[.int .u64 0, .int .u64 0, .int .u64 0, .int .u64 0] 50 (0, 0)) (by (with_reducible repeat (first | refine blk_drewN ?_ _ | refine blk_drew ?_ | refine blk_alloc ?_ _)); exact (Q_BK182 h0_ h1_)) hb))
    clear BK171
    clear BK172
    clear BK173
    clear HB
    have BK171 := n0_
    have BK172 := n1_
    have BK173 := n2_
    have HB := n3_
    clear n0_ n1_ n2_ n3_
    (try clear hb)
    (try clear hb2)
    (try clear hk)
    (try clear hi)
    refine hK.out _ _ ⟨gb182, m6_, (by rw [ha.out]; exact putSel_upk 4 hb_ rfl rfl rfl), (by (with_reducible repeat (first | refine blk_drewN ?_ _ | refine blk_drew ?_ | refine blk_alloc ?_ _)); exact BK171.out), (by (with_reducible repeat (first | refine blk_drewN ?_ _ | refine blk_drew ?_ | refine blk_alloc ?_ _)); exact BK172.out), (by (with_reducible repeat (first | refine blk_drewN ?_ _ | refine blk_drew ?_ | refine blk_alloc ?_ _)); exact BK173.out), (by repeat (first | (with_reducible first | exact HB.out | apply below_alloc | apply pw_below_drewN | apply below_drew1 | refine below_set ?_ GE171.out | refine below_set ?_ GE172.out | refine below_set ?_ GE173.out) | exact HB.out)), z_BK182, Q_GW182, Q_GE182, Q_NB171_182, Q_NB182_171, Q_NB172_182, Q_NB182_172, Q_NB173_182, Q_NB182_173, fun h0_ => absurd ((hoff 7 (by kernel_rfl)).symm.trans h0_) (by decide), Q_X6_⟩
   refine steps_cons ?_ ?_
   ·rintro b a w' ⟨gb182, m6_, ha, Q_BK171, Q_BK172, Q_BK173, Q_HB, Q_BK182, Q_GW182, Q_GE182, Q_NB171_182, Q_NB182_171, Q_NB172_182, Q_NB182_172, Q_NB173_182, Q_NB182_173, Q_BK182_e7, Q_X6_⟩ hb_ hon hoff
    refine ⟨_, rfl, fun K hK => ?_⟩
    have e30 : a.tmps[30]? = some (.agg #[.int .i64 t174, .int .u64 t175]) := by rw [ha]; exact putSel_on (e := (1, 30, .agg #[.int .i64 t174, .int .u64 t175])) 1 rfl rfl (hon 1 (by kernel_rfl)) rfl
    have e33 : a.tmps[33]? = some (.agg #[.int .i64 t176, .int .u64 t177]) := by rw [ha]; exact putSel_on (e := (4, 33, .agg #[.int .i64 t176, .int .u64 t177])) 4 rfl rfl (hon 4 (by kernel_rfl)) rfl
    replace ha := Aside0.mk ha
    have BK171 := Aside0.mk Q_BK171
    have BK172 := Aside0.mk Q_BK172
    have BK173 := Aside0.mk Q_BK173
    have HB := Aside0.mk Q_HB
    refine goes_ Try.func25 (by kernel_rfl) rfl #[.agg #[.int .i64 t174, .int .u64 t175], .agg #[.int .i64 t176, .int .u64 t177]] (by rfl) rfl rfl (by first | (simp only [List.map_toArray, List.map_cons, List.map_nil, Act.eval, Array.getD_eq_getD_getElem?, Option.getD_some, e30, e33]; done) | (simp only [List.map_toArray, List.map_cons, List.map_nil, Act.eval, Array.getD_eq_getD_getElem?, Option.getD_some, e30, e33]; rfl)) ?_
    with_reducible refine (quad_Mul.calls t174 t175 t176 t177 t178 t179 t180 t181 _ A12.out).mono ?_
    rintro e w58 ⟨rfl, hb⟩
    refine ⟨_, rfl, ?_⟩
    have n0_ := Aside0.mk (blk_below (g := gb171) (o := .cells #[.int .i64 t165, .int .i64 t166] 23 (0, 0)) (by (with_reducible repeat (first | refine blk_drewN ?_ _ | refine blk_drew ?_ | refine blk_alloc ?_ _)); exact BK171.out) hb)
    have n1_ := Aside0.mk (blk_below (g := gb172) (o := .cells #[.int .i64 t167, .int .i64 t168] 23 (0, 0)) (by (with_reducible repeat (first | refine blk_drewN ?_ _ | refine blk_drew ?_ | refine blk_alloc ?_ _)); exact BK172.out) hb)
    have n2_ := Aside0.mk (blk_below (g := gb173) (o := .cells #[.int .i64 t169, .int .i64 t170] 23 (0, 0)) (by (with_reducible repeat (first | refine blk_drewN ?_ _ | refine blk_drew ?_ | refine blk_alloc ?_ _)); exact BK173.out) hb)
    have n3_ := Aside0.mk (below_step (by repeat (first | (with_reducible first | exact HB.out | apply below_alloc | apply pw_below_drewN | apply below_drew1 | refine below_set ?_ GE171.out | refine below_set ?_ GE172.out | refine below_set ?_ GE173.out) | exact HB.out)) hb)
    have z_BK182 := fun (h0_ : b 6 = true) (h1_ : b 7 = false) => (show w58.heap[gb182]? = some (.cells #[.int .u64 0, .int .u64 0, .int .u64 0, .int .u64 0] 50 (0, 0)) from by first | exact (blk_below (g := gb182) (o := .cells #[.int .u64 0, .int .u64 0, .int .u64 0, .int .u64 0] 50 (0, 0)) (by (with_reducible repeat (first | refine blk_drewN ?_ _ | refine blk_drew ?_ | refine blk_alloc ?_ _)); exact (Q_BK182 h0_ h1_)) hb))
    clear BK171
    clear BK172
    clear BK173
    clear HB
    have BK171 := n0_
    have BK172 := n1_
    have BK173 := n2_
    have HB := n3_
    clear n0_ n1_ n2_ n3_
    (try clear hb)
    (try clear hb2)
    (try clear hk)
    (try clear hi)
    refine hK.out _ _ ⟨gb182, m6_, (by rw [ha.out]; exact putSel_upk 5 hb_ rfl rfl rfl), (by (with_reducible repeat (first | refine blk_drewN ?_ _ | refine blk_drew ?_ | refine blk_alloc ?_ _)); exact BK171.out), (by (with_reducible repeat (first | refine blk_drewN ?_ _ | refine blk_drew ?_ | refine blk_alloc ?_ _)); exact BK172.out), (by (with_reducible repeat (first | refine blk_drewN ?_ _ | refine blk_drew ?_ | refine blk_alloc ?_ _)); exact BK173.out), (by repeat (first | (with_reducible first | exact HB.out | apply below_alloc | apply pw_below_drewN | apply below_drew1 | refine below_set ?_ GE171.out | refine below_set ?_ GE172.out | refine below_set ?_ GE173.out) | exact HB.out)), z_BK182, Q_GW182, Q_GE182, Q_NB171_182, Q_NB182_171, Q_NB172_182, Q_NB182_172, Q_NB173_182, Q_NB182_173, fun h0_ => absurd ((hoff 7 (by kernel_rfl)).symm.trans h0_) (by decide), Q_X6_⟩
   refine steps_cons ?_ ?_
   ·rintro b a w' ⟨gb182, m6_, ha, Q_BK171, Q_BK172, Q_BK173, Q_HB, Q_BK182, Q_GW182, Q_GE182, Q_NB171_182, Q_NB182_171, Q_NB172_182, Q_NB182_172, Q_NB173_182, Q_NB182_173, Q_BK182_e7, Q_X6_⟩ hb_ hon hoff
    refine ⟨_, rfl, fun K hK => ?_⟩
    replace ha := Aside0.mk ha
    have BK171 := Aside0.mk Q_BK171
    have BK172 := Aside0.mk Q_BK172
    have BK173 := Aside0.mk Q_BK173
    have HB := Aside0.mk Q_HB
    refine box_step ?hg (N := 12) ?hd (cs := #[.int .u64 0, .int .u64 0, .int .u64 0, .int .u64 0]) (t := 50) ?hr ?_; (case hd => rfl); (case hg => rfl); (case hr => first | (go_simp; done) | (go_simp; rfl))
    intro gb182 hg w55 hbox hb
    have n0_ := Aside0.mk (blk_below (g := gb171) (o := .cells #[.int .i64 t165, .int .i64 t166] 23 (0, 0)) (by (with_reducible repeat (first | refine blk_drewN ?_ _ | refine blk_drew ?_ | refine blk_alloc ?_ _)); exact BK171.out) hb)
    have n1_ := Aside0.mk (blk_below (g := gb172) (o := .cells #[.int .i64 t167, .int .i64 t168] 23 (0, 0)) (by (with_reducible repeat (first | refine blk_drewN ?_ _ | refine blk_drew ?_ | refine blk_alloc ?_ _)); exact BK172.out) hb)
    have n2_ := Aside0.mk (blk_below (g := gb173) (o := .cells #[.int .i64 t169, .int .i64 t170] 23 (0, 0)) (by (with_reducible repeat (first | refine blk_drewN ?_ _ | refine blk_drew ?_ | refine blk_alloc ?_ _)); exact BK173.out) hb)
    have n3_ := Aside0.mk (below_step (by repeat (first | (with_reducible first | exact HB.out | apply below_alloc | apply pw_below_drewN | apply below_drew1 | refine below_set ?_ GE171.out | refine below_set ?_ GE172.out | refine below_set ?_ GE173.out) | exact HB.out)) hb)
    have n4_ := Aside0.mk (hbox)
    have n5_ := Aside0.mk ((by rw [hg]; exact (below_size (by repeat (first | (with_reducible first | exact HB.out | apply below_alloc | apply pw_below_drewN | apply below_drew1 | refine below_set ?_ GE171.out | refine below_set ?_ GE172.out | refine below_set ?_ GE173.out) | exact HB.out))) : w.heap.size ≤ gb182))
    have n6_ := Aside0.mk ((by rw [hg]; exact (below_size (by repeat (first | (with_reducible first | exact HB.out | apply below_alloc | apply pw_below_drewN | apply below_drew1 | refine below_set ?_ GE171.out | refine below_set ?_ GE172.out | refine below_set ?_ GE173.out) | exact HB.out))) : w.heap.size ≤ gb182))
    have n7_ := Aside0.mk ((by rw [hg]; exact Nat.ne_of_lt (blk_lt (g := gb171) (o := .cells #[.int .i64 t165, .int .i64 t166] 23 (0, 0)) (by (with_reducible repeat (first | refine blk_drewN ?_ _ | refine blk_drew ?_ | refine blk_alloc ?_ _)); exact BK171.out)) : gb171 ≠ gb182))
    have n8_ := Aside0.mk ((by rw [hg]; exact Nat.ne_of_gt (blk_lt (g := gb171) (o := .cells #[.int .i64 t165, .int .i64 t166] 23 (0, 0)) (by (with_reducible repeat (first | refine blk_drewN ?_ _ | refine blk_drew ?_ | refine blk_alloc ?_ _)); exact BK171.out)) : gb182 ≠ gb171))
    have n9_ := Aside0.mk ((by rw [hg]; exact Nat.ne_of_lt (blk_lt (g := gb172) (o := .cells #[.int .i64 t167, .int .i64 t168] 23 (0, 0)) (by (with_reducible repeat (first | refine blk_drewN ?_ _ | refine blk_drew ?_ | refine blk_alloc ?_ _)); exact BK172.out)) : gb172 ≠ gb182))
    have n10_ := Aside0.mk ((by rw [hg]; exact Nat.ne_of_gt (blk_lt (g := gb172) (o := .cells #[.int .i64 t167, .int .i64 t168] 23 (0, 0)) (by (with_reducible repeat (first | refine blk_drewN ?_ _ | refine blk_drew ?_ | refine blk_alloc ?_ _)); exact BK172.out)) : gb182 ≠ gb172))
    have n11_ := Aside0.mk ((by rw [hg]; exact Nat.ne_of_lt (blk_lt (g := gb173) (o := .cells #[.int .i64 t169, .int .i64 t170] 23 (0, 0)) (by (with_reducible repeat (first | refine blk_drewN ?_ _ | refine blk_drew ?_ | refine blk_alloc ?_ _)); exact BK173.out)) : gb173 ≠ gb182))
    have n12_ := Aside0.mk ((by rw [hg]; exact Nat.ne_of_gt (blk_lt (g := gb173) (o := .cells #[.int .i64 t169, .int .i64 t170] 23 (0, 0)) (by (with_reducible repeat (first | refine blk_drewN ?_ _ | refine blk_drew ?_ | refine blk_alloc ?_ _)); exact BK173.out)) : gb182 ≠ gb173))
    clear BK171
    clear BK172
    clear BK173
    clear HB
    have BK171 := n0_
    have BK172 := n1_
    have BK173 := n2_
    have HB := n3_
    have BK182 := n4_
    have GW182 := n5_
    have GE182 := n6_
    have NB171_182 := n7_
    have NB182_171 := n8_
    have NB172_182 := n9_
    have NB182_172 := n10_
    have NB173_182 := n11_
    have NB182_173 := n12_
    clear n0_ n1_ n2_ n3_ n4_ n5_ n6_ n7_ n8_ n9_ n10_ n11_ n12_
    clear hb hbox hg
    refine hK.out _ _ ⟨gb182, (.pointer (some ⟨gb182, 0, none⟩)), (by rw [ha.out]; exact putSel_upk 6 hb_ rfl rfl rfl), (by (with_reducible repeat (first | refine blk_drewN ?_ _ | refine blk_drew ?_ | refine blk_alloc ?_ _)); exact BK171.out), (by (with_reducible repeat (first | refine blk_drewN ?_ _ | refine blk_drew ?_ | refine blk_alloc ?_ _)); exact BK172.out), (by (with_reducible repeat (first | refine blk_drewN ?_ _ | refine blk_drew ?_ | refine blk_alloc ?_ _)); exact BK173.out), (by repeat (first | (with_reducible first | exact HB.out | apply below_alloc | apply pw_below_drewN | apply below_drew1 | refine below_set ?_ GE171.out | refine below_set ?_ GE172.out | refine below_set ?_ GE173.out | refine below_set ?_ GE182.out) | exact HB.out)), fun _ _ => (by (with_reducible repeat (first | refine blk_drewN ?_ _ | refine blk_drew ?_ | refine blk_alloc ?_ _)); exact BK182.out), fun _ => GW182.out, fun _ => GE182.out, fun _ => NB171_182.out, fun _ => NB182_171.out, fun _ => NB172_182.out, fun _ => NB182_172.out, fun _ => NB173_182.out, fun _ => NB182_173.out, fun h0_ => absurd ((hoff 7 (by kernel_rfl)).symm.trans h0_) (by decide), fun _ => rfl⟩
   refine steps_cons ?_ ?_
   ·rintro b a w' ⟨gb182, m6_, ha, Q_BK171, Q_BK172, Q_BK173, Q_HB, Q_BK182, Q_GW182, Q_GE182, Q_NB171_182, Q_NB182_171, Q_NB172_182, Q_NB182_172, Q_NB173_182, Q_NB182_173, Q_BK182_e7, Q_X6_⟩ hb_ hon hoff
    refine ⟨_, rfl, fun K hK => ?_⟩
    have e12 : a.tmps[12]? = some (m6_) := by rw [ha]; exact putSel_on (e := (6, 12, m6_)) 6 rfl rfl (hon 6 (by kernel_rfl)) rfl
    rw [Q_X6_ (hon 6 (by kernel_rfl))] at e12
    have e34 : a.tmps[34]? = some (.agg #[.int .u64 t178, .int .u64 t179, .int .u64 t180, .int .u64 t181]) := by rw [ha]; exact putSel_on (e := (5, 34, .agg #[.int .u64 t178, .int .u64 t179, .int .u64 t180, .int .u64 t181])) 5 rfl rfl (hon 5 (by kernel_rfl)) rfl
    replace ha := Aside0.mk ha
    have BK171 := Aside0.mk Q_BK171
    have BK172 := Aside0.mk Q_BK172
    have BK173 := Aside0.mk Q_BK173
    have HB := Aside0.mk Q_HB
    have BK182 := Aside0.mk (Q_BK182 (hon 6 (by kernel_rfl)) hb_)
    have GW182 := Aside0.mk (Q_GW182 (hon 6 (by kernel_rfl)))
    have GE182 := Aside0.mk (Q_GE182 (hon 6 (by kernel_rfl)))
    have NB171_182 := Aside0.mk (Q_NB171_182 (hon 6 (by kernel_rfl)))
    have NB182_171 := Aside0.mk (Q_NB182_171 (hon 6 (by kernel_rfl)))
    have NB172_182 := Aside0.mk (Q_NB172_182 (hon 6 (by kernel_rfl)))
    have NB182_172 := Aside0.mk (Q_NB182_172 (hon 6 (by kernel_rfl)))
    have NB173_182 := Aside0.mk (Q_NB173_182 (hon 6 (by kernel_rfl)))
    have NB182_173 := Aside0.mk (Q_NB182_173 (hon 6 (by kernel_rfl)))
    have hs60 : w'.cell? ⟨gb182, 0, none⟩ = some (.int .u64 0) := (blk_cell BK182.out 0).trans rfl
    have hfs60 := blk_frozen BK182.out 0
    have hns60_0 := NB171_182.out
    have hns60_1 := NB172_182.out
    have hns60_2 := NB173_182.out
    have hms60_0 := NB182_171.out
    have hms60_1 := NB182_172.out
    have hms60_2 := NB182_173.out
    have hs61 : w'.cell? ⟨gb182, 1, none⟩ = some (.int .u64 0) := (blk_cell BK182.out 1).trans rfl
    have hfs61 := blk_frozen BK182.out 1
    have hns61_0 := NB171_182.out
    have hns61_1 := NB172_182.out
    have hns61_2 := NB173_182.out
    have hms61_0 := NB182_171.out
    have hms61_1 := NB182_172.out
    have hms61_2 := NB182_173.out
    have hs62 : w'.cell? ⟨gb182, 2, none⟩ = some (.int .u64 0) := (blk_cell BK182.out 2).trans rfl
    have hfs62 := blk_frozen BK182.out 2
    have hns62_0 := NB171_182.out
    have hns62_1 := NB172_182.out
    have hns62_2 := NB173_182.out
    have hms62_0 := NB182_171.out
    have hms62_1 := NB182_172.out
    have hms62_2 := NB182_173.out
    have hs63 : w'.cell? ⟨gb182, 3, none⟩ = some (.int .u64 0) := (blk_cell BK182.out 3).trans rfl
    have hfs63 := blk_frozen BK182.out 3
    have hns63_0 := NB171_182.out
    have hns63_1 := NB172_182.out
    have hns63_2 := NB173_182.out
    have hms63_0 := NB182_171.out
    have hms63_1 := NB182_172.out
    have hms63_2 := NB182_173.out
    refine skip_ (w1 := ?_) (by rfl) rfl ?_ ?_
    rotate_left
    ·go_simp
     rfl
    refine hK.out _ _ ⟨gb182, m6_, (by rw [ha.out]; exact putSel_none (v := undef) rfl), (by (with_reducible repeat (first | refine blk_drewN ?_ _ | refine blk_drew ?_ | refine blk_alloc ?_ _)); refine blk_far ?_ NB171_182.out _; (with_reducible repeat (first | refine blk_drewN ?_ _ | refine blk_drew ?_ | refine blk_alloc ?_ _)); refine blk_far ?_ NB171_182.out _; (with_reducible repeat (first | refine blk_drewN ?_ _ | refine blk_drew ?_ | refine blk_alloc ?_ _)); refine blk_far ?_ NB171_182.out _; (with_reducible repeat (first | refine blk_drewN ?_ _ | refine blk_drew ?_ | refine blk_alloc ?_ _)); refine blk_far ?_ NB171_182.out _; (with_reducible repeat (first | refine blk_drewN ?_ _ | refine blk_drew ?_ | refine blk_alloc ?_ _)); exact BK171.out), (by (with_reducible repeat (first | refine blk_drewN ?_ _ | refine blk_drew ?_ | refine blk_alloc ?_ _)); refine blk_far ?_ NB172_182.out _; (with_reducible repeat (first | refine blk_drewN ?_ _ | refine blk_drew ?_ | refine blk_alloc ?_ _)); refine blk_far ?_ NB172_182.out _; (with_reducible repeat (first | refine blk_drewN ?_ _ | refine blk_drew ?_ | refine blk_alloc ?_ _)); refine blk_far ?_ NB172_182.out _; (with_reducible repeat (first | refine blk_drewN ?_ _ | refine blk_drew ?_ | refine blk_alloc ?_ _)); refine blk_far ?_ NB172_182.out _; (with_reducible repeat (first | refine blk_drewN ?_ _ | refine blk_drew ?_ | refine blk_alloc ?_ _)); exact BK172.out), (by (with_reducible repeat (first | refine blk_drewN ?_ _ | refine blk_drew ?_ | refine blk_alloc ?_ _)); refine blk_far ?_ NB173_182.out _; (with_reducible repeat (first | refine blk_drewN ?_ _ | refine blk_drew ?_ | refine blk_alloc ?_ _)); refine blk_far ?_ NB173_182.out _; (with_reducible repeat (first | refine blk_drewN ?_ _ | refine blk_drew ?_ | refine blk_alloc ?_ _)); refine blk_far ?_ NB173_182.out _; (with_reducible repeat (first | refine blk_drewN ?_ _ | refine blk_drew ?_ | refine blk_alloc ?_ _)); refine blk_far ?_ NB173_182.out _; (with_reducible repeat (first | refine blk_drewN ?_ _ | refine blk_drew ?_ | refine blk_alloc ?_ _)); exact BK173.out), (by repeat (first | (with_reducible first | exact HB.out | apply below_alloc | apply pw_below_drewN | apply below_drew1 | refine below_set ?_ GE171.out | refine below_set ?_ GE172.out | refine below_set ?_ GE173.out | refine below_set ?_ GE182.out) | exact HB.out)), fun _ h1_ => absurd ((up_self b 7).symm.trans h1_) (by decide), fun _ => GW182.out, fun _ => GE182.out, fun _ => NB171_182.out, fun _ => NB182_171.out, fun _ => NB172_182.out, fun _ => NB182_172.out, fun _ => NB173_182.out, fun _ => NB182_173.out, fun _ => (by (with_reducible repeat (first | refine blk_drewN ?_ _ | refine blk_drew ?_ | refine blk_alloc ?_ _)); refine blk_put (cs := #[.int .u64 t178, .int .u64 t179, .int .u64 t180, .int .u64 0]) ?_ 3 _ rfl; (with_reducible repeat (first | refine blk_drewN ?_ _ | refine blk_drew ?_ | refine blk_alloc ?_ _)); refine blk_put (cs := #[.int .u64 t178, .int .u64 t179, .int .u64 0, .int .u64 0]) ?_ 2 _ rfl; (with_reducible repeat (first | refine blk_drewN ?_ _ | refine blk_drew ?_ | refine blk_alloc ?_ _)); refine blk_put (cs := #[.int .u64 t178, .int .u64 0, .int .u64 0, .int .u64 0]) ?_ 1 _ rfl; (with_reducible repeat (first | refine blk_drewN ?_ _ | refine blk_drew ?_ | refine blk_alloc ?_ _)); refine blk_put (cs := #[.int .u64 0, .int .u64 0, .int .u64 0, .int .u64 0]) ?_ 0 _ rfl; (with_reducible repeat (first | refine blk_drewN ?_ _ | refine blk_drew ?_ | refine blk_alloc ?_ _)); exact BK182.out), Q_X6_⟩
   exact steps_nil
  rintro b a w63 hall ⟨gb182, m6_, ha, Q_BK171, Q_BK172, Q_BK173, Q_HB, Q_BK182, Q_GW182, Q_GE182, Q_NB171_182, Q_NB182_171, Q_NB172_182, Q_NB182_172, Q_NB173_182, Q_NB182_173, Q_BK182_e7, Q_X6_⟩
  clear BK171 BK172 BK173 HB
  have hb0_ := hall 0 (by kernel_rfl)
  have hb1_ := hall 1 (by kernel_rfl)
  have hb2_ := hall 2 (by kernel_rfl)
  have hb3_ := hall 3 (by kernel_rfl)
  have hb4_ := hall 4 (by kernel_rfl)
  have hb5_ := hall 5 (by kernel_rfl)
  have hb6_ := hall 6 (by kernel_rfl)
  have hb7_ := hall 7 (by kernel_rfl)
  subst ha
  obtain rfl := Q_X6_ hb6_
  simp only [putSel, hb0_, hb1_, hb2_, hb3_, hb4_, hb5_, hb6_, hb7_, if_true, Act.put, List.setIfInBounds_toArray, List.set_cons_zero, List.set_cons_succ]
  have BK171 := Aside0.mk Q_BK171
  clear Q_BK171
  have BK172 := Aside0.mk Q_BK172
  clear Q_BK172
  have BK173 := Aside0.mk Q_BK173
  clear Q_BK173
  have HB := Aside0.mk Q_HB
  clear Q_HB
  clear Q_BK182
  have GW182 := Aside0.mk (Q_GW182 hb6_)
  clear Q_GW182
  have GE182 := Aside0.mk (Q_GE182 hb6_)
  clear Q_GE182
  have NB171_182 := Aside0.mk (Q_NB171_182 hb6_)
  clear Q_NB171_182
  have NB182_171 := Aside0.mk (Q_NB182_171 hb6_)
  clear Q_NB182_171
  have NB172_182 := Aside0.mk (Q_NB172_182 hb6_)
  clear Q_NB172_182
  have NB182_172 := Aside0.mk (Q_NB182_172 hb6_)
  clear Q_NB182_172
  have NB173_182 := Aside0.mk (Q_NB173_182 hb6_)
  clear Q_NB173_182
  have NB182_173 := Aside0.mk (Q_NB182_173 hb6_)
  clear Q_NB182_173
  have BK182 := Aside0.mk (Q_BK182_e7 hb7_)
  clear Q_BK182_e7
  clear hall hb0_ hb1_ hb2_ hb3_ hb4_ hb5_ hb6_ hb7_
  try go_wp2
  have n0_ := Aside0.mk (blk_drew BK171.out)
  have n1_ := Aside0.mk (blk_drew BK172.out)
  have n2_ := Aside0.mk (blk_drew BK173.out)
  have n3_ := Aside0.mk (blk_drew BK182.out)
  have n4_ := Aside0.mk (below_drew1 HB.out)
  clear BK171
  clear BK172
  clear BK173
  clear BK182
  clear HB
  have BK171 := n0_
  have BK172 := n1_
  have BK173 := n2_
  have BK182 := n3_
  have HB := n4_
  clear n0_ n1_ n2_ n3_ n4_
  refine start_ (n := 9) (S := fun w' => w'.cell? ⟨gb182, 0, none⟩ = some (.int .u64 t178) ∧ w'.cell? ⟨gb182, 1, none⟩ = some (.int .u64 t179) ∧ w'.cell? ⟨gb182, 2, none⟩ = some (.int .u64 t180) ∧ w'.cell? ⟨gb182, 3, none⟩ = some (.int .u64 t181) ∧ w'.cell? ⟨gb172, 0, none⟩ = some (.int .i64 t167) ∧ w'.cell? ⟨gb172, 1, none⟩ = some (.int .i64 t168) ∧ w'.cell? ⟨gb173, 0, none⟩ = some (.int .i64 t169) ∧ w'.cell? ⟨gb173, 1, none⟩ = some (.int .i64 t170) ∧ w'.cell? ⟨gb171, 0, none⟩ = some (.int .i64 t165) ∧ w'.cell? ⟨gb171, 1, none⟩ = some (.int .i64 t166)) (ds := [8]) #[false, false, false, false, false, false, false, false, false] (by kernel_rfl) rfl rfl ⟨(blk_cell BK182.out 0).trans rfl, (blk_cell BK182.out 1).trans rfl, (blk_cell BK182.out 2).trans rfl, (blk_cell BK182.out 3).trans rfl, (blk_cell BK172.out 0).trans rfl, (blk_cell BK172.out 1).trans rfl, (blk_cell BK173.out 0).trans rfl, (blk_cell BK173.out 1).trans rfl, (blk_cell BK171.out 0).trans rfl, (blk_cell BK171.out 1).trans rfl⟩ (fun hHeld => ?_); refine with_tabW pred_InCircle.tab5 pred_InCircle.bits5 (fun HT_ HW_ => ?_)
  generalize w63.drew = w64 at BK171 BK172 BK173 BK182 HB hHeld ⊢
  refine take_ (i := 0) (N := some 35) (v := ?_) (a' := ?_) #[true, false, false, false, false, false, false, false, false] rfl rfl (take_ofW HT_.out HW_.out (by kernel_rfl)) (fun _ _ _ h => h) (Or.inl ⟨by rfl, ?_⟩) hHeld ?_ ?_
  rotate_left
  ·rintro w' ⟨s0, s1, s2, s3, s4, s5, s6, s7, s8, s9⟩
   go_simp
   with_reducible rfl
  rotate_left
  ·simp only [Act.put, List.setIfInBounds_toArray, List.set_cons_zero, List.set_cons_succ, i64_w, i32_w]
   rfl
  refine take_ (i := 1) (N := some 36) (v := ?_) (a' := ?_) #[true, true, false, false, false, false, false, false, false] rfl rfl (take_ofW HT_.out HW_.out (by kernel_rfl)) (fun _ _ _ h => h) (Or.inl ⟨by rfl, ?_⟩) hHeld ?_ ?_
  rotate_left
  ·rintro w' ⟨s0, s1, s2, s3, s4, s5, s6, s7, s8, s9⟩
   go_simp
   with_reducible rfl
  rotate_left
  ·simp only [Act.put, List.setIfInBounds_toArray, List.set_cons_zero, List.set_cons_succ, i64_w, i32_w]
   rfl
  refine take_ (i := 3) (N := some 38) (v := ?_) (a' := ?_) #[true, true, false, true, false, false, false, false, false] rfl rfl (take_ofW HT_.out HW_.out (by kernel_rfl)) (fun _ _ _ h => h) (Or.inl ⟨by rfl, ?_⟩) hHeld ?_ ?_
  rotate_left
  ·rintro w' ⟨s0, s1, s2, s3, s4, s5, s6, s7, s8, s9⟩
   go_simp
   with_reducible rfl
  rotate_left
  ·simp only [Act.put, List.setIfInBounds_toArray, List.set_cons_zero, List.set_cons_succ, i64_w, i32_w]
   rfl
  refine take_ (i := 4) (N := some 39) (v := ?_) (a' := ?_) #[true, true, false, true, true, false, false, false, false] rfl rfl (take_ofW HT_.out HW_.out (by kernel_rfl)) (fun _ _ _ h => h) (Or.inl ⟨by rfl, ?_⟩) hHeld ?_ ?_
  rotate_left
  ·rintro w' ⟨s0, s1, s2, s3, s4, s5, s6, s7, s8, s9⟩
   go_simp
   with_reducible rfl
  rotate_left
  ·simp only [Act.put, List.setIfInBounds_toArray, List.set_cons_zero, List.set_cons_succ, i64_w, i32_w]
   rfl
  refine one_ (i := 2) (N := some 37) #[true, true, true, true, true, false, false, false, false] rfl rfl (one_of HT_.out (by kernel_rfl)) (by decide) (fun K hK => ?_)
  refine goes_ Try.func26 (by kernel_rfl) rfl #[.agg #[.int .i64 t167, .int .i64 t168]] (by rfl) rfl rfl (by (try simp only [List.map_toArray, List.map_cons, List.map_nil]); first | done | rfl | (simp only [List.length_drop, List.length_take]; rfl)) ?_
  with_reducible refine (pred_square.calls t167 t168 t183 t184 _ A13.out).mono ?_
  rintro e w65 ⟨rfl, hb⟩
  refine ⟨_, rfl, ?_⟩
  have n0_ := Aside0.mk (blk_below (g := gb171) (o := .cells #[.int .i64 t165, .int .i64 t166] 23 (0, 0)) (by (with_reducible repeat (first | refine blk_drewN ?_ _ | refine blk_drew ?_ | refine blk_alloc ?_ _)); exact BK171.out) hb)
  have n1_ := Aside0.mk (blk_below (g := gb172) (o := .cells #[.int .i64 t167, .int .i64 t168] 23 (0, 0)) (by (with_reducible repeat (first | refine blk_drewN ?_ _ | refine blk_drew ?_ | refine blk_alloc ?_ _)); exact BK172.out) hb)
  have n2_ := Aside0.mk (blk_below (g := gb173) (o := .cells #[.int .i64 t169, .int .i64 t170] 23 (0, 0)) (by (with_reducible repeat (first | refine blk_drewN ?_ _ | refine blk_drew ?_ | refine blk_alloc ?_ _)); exact BK173.out) hb)
  have n3_ := Aside0.mk (blk_below (g := gb182) (o := .cells #[.int .u64 t178, .int .u64 t179, .int .u64 t180, .int .u64 t181] 50 (0, 0)) (by (with_reducible repeat (first | refine blk_drewN ?_ _ | refine blk_drew ?_ | refine blk_alloc ?_ _)); exact BK182.out) hb)
  have n4_ := Aside0.mk (below_step (by repeat (first | (with_reducible first | exact HB.out | apply below_alloc | apply pw_below_drewN | apply below_drew1 | refine below_set ?_ GE171.out | refine below_set ?_ GE172.out | refine below_set ?_ GE173.out | refine below_set ?_ GE182.out) | exact HB.out)) hb)
  clear BK171
  clear BK172
  clear BK173
  clear BK182
  clear HB
  have BK171 := n0_
  have BK172 := n1_
  have BK173 := n2_
  have BK182 := n3_
  have HB := n4_
  clear n0_ n1_ n2_ n3_ n4_
  (try clear hb)
  (try clear hb2)
  (try clear hk)
  (try clear hi)
  refine hK.out _ _ ⟨(blk_cell BK182.out 0).trans rfl, (blk_cell BK182.out 1).trans rfl, (blk_cell BK182.out 2).trans rfl, (blk_cell BK182.out 3).trans rfl, (blk_cell BK172.out 0).trans rfl, (blk_cell BK172.out 1).trans rfl, (blk_cell BK173.out 0).trans rfl, (blk_cell BK173.out 1).trans rfl, (blk_cell BK171.out 0).trans rfl, (blk_cell BK171.out 1).trans rfl⟩ (fun hHeld => ?_)
  clear hK K
  refine norm_ (a' := ?_) ?_ ?_
  rotate_left
  ·show Act.put _ (some 37) _ = _
   simp only [Act.put, List.setIfInBounds_toArray, List.set_cons_zero, List.set_cons_succ, i64_w, i32_w]
   rfl
  refine one_ (i := 5) (N := some 40) #[true, true, true, true, true, true, false, false, false] rfl rfl (one_of HT_.out (by kernel_rfl)) (by decide) (fun K hK => ?_)
  refine goes_ Try.func27 (by kernel_rfl) rfl #[.agg #[.int .i64 t169, .int .i64 t170], .agg #[.int .i64 t165, .int .i64 t166]] (by rfl) rfl rfl (by (try simp only [List.map_toArray, List.map_cons, List.map_nil]); first | done | rfl | (simp only [List.length_drop, List.length_take]; rfl)) ?_
  with_reducible refine (pred_across.calls t169 t170 t165 t166 t185 t186 _ A14.out).mono ?_
  rintro e w66 ⟨rfl, hb⟩
  refine ⟨_, rfl, ?_⟩
  have n0_ := Aside0.mk (blk_below (g := gb171) (o := .cells #[.int .i64 t165, .int .i64 t166] 23 (0, 0)) (by (with_reducible repeat (first | refine blk_drewN ?_ _ | refine blk_drew ?_ | refine blk_alloc ?_ _)); exact BK171.out) hb)
  have n1_ := Aside0.mk (blk_below (g := gb172) (o := .cells #[.int .i64 t167, .int .i64 t168] 23 (0, 0)) (by (with_reducible repeat (first | refine blk_drewN ?_ _ | refine blk_drew ?_ | refine blk_alloc ?_ _)); exact BK172.out) hb)
  have n2_ := Aside0.mk (blk_below (g := gb173) (o := .cells #[.int .i64 t169, .int .i64 t170] 23 (0, 0)) (by (with_reducible repeat (first | refine blk_drewN ?_ _ | refine blk_drew ?_ | refine blk_alloc ?_ _)); exact BK173.out) hb)
  have n3_ := Aside0.mk (blk_below (g := gb182) (o := .cells #[.int .u64 t178, .int .u64 t179, .int .u64 t180, .int .u64 t181] 50 (0, 0)) (by (with_reducible repeat (first | refine blk_drewN ?_ _ | refine blk_drew ?_ | refine blk_alloc ?_ _)); exact BK182.out) hb)
  have n4_ := Aside0.mk (below_step (by repeat (first | (with_reducible first | exact HB.out | apply below_alloc | apply pw_below_drewN | apply below_drew1 | refine below_set ?_ GE171.out | refine below_set ?_ GE172.out | refine below_set ?_ GE173.out | refine below_set ?_ GE182.out) | exact HB.out)) hb)
  clear BK171
  clear BK172
  clear BK173
  clear BK182
  clear HB
  have BK171 := n0_
  have BK172 := n1_
  have BK173 := n2_
  have BK182 := n3_
  have HB := n4_
  clear n0_ n1_ n2_ n3_ n4_
  (try clear hb)
  (try clear hb2)
  (try clear hk)
  (try clear hi)
  refine hK.out _ _ ⟨(blk_cell BK182.out 0).trans rfl, (blk_cell BK182.out 1).trans rfl, (blk_cell BK182.out 2).trans rfl, (blk_cell BK182.out 3).trans rfl, (blk_cell BK172.out 0).trans rfl, (blk_cell BK172.out 1).trans rfl, (blk_cell BK173.out 0).trans rfl, (blk_cell BK173.out 1).trans rfl, (blk_cell BK171.out 0).trans rfl, (blk_cell BK171.out 1).trans rfl⟩ (fun hHeld => ?_)
  clear hK K
  refine norm_ (a' := ?_) ?_ ?_
  rotate_left
  ·show Act.put _ (some 40) _ = _
   simp only [Act.put, List.setIfInBounds_toArray, List.set_cons_zero, List.set_cons_succ, i64_w, i32_w]
   rfl
  refine one_ (i := 6) (N := some 41) #[true, true, true, true, true, true, true, false, false] rfl rfl (one_of HT_.out (by kernel_rfl)) (by decide) (fun K hK => ?_)
  refine goes_ Try.func25 (by kernel_rfl) rfl #[.agg #[.int .i64 t183, .int .u64 t184], .agg #[.int .i64 t185, .int .u64 t186]] (by rfl) rfl rfl (by (try simp only [List.map_toArray, List.map_cons, List.map_nil]); first | done | rfl | (simp only [List.length_drop, List.length_take]; rfl)) ?_
  with_reducible refine (quad_Mul.calls t183 t184 t185 t186 t187 t188 t189 t190 _ A15.out).mono ?_
  rintro e w67 ⟨rfl, hb⟩
  refine ⟨_, rfl, ?_⟩
  have n0_ := Aside0.mk (blk_below (g := gb171) (o := .cells #[.int .i64 t165, .int .i64 t166] 23 (0, 0)) (by (with_reducible repeat (first | refine blk_drewN ?_ _ | refine blk_drew ?_ | refine blk_alloc ?_ _)); exact BK171.out) hb)
  have n1_ := Aside0.mk (blk_below (g := gb172) (o := .cells #[.int .i64 t167, .int .i64 t168] 23 (0, 0)) (by (with_reducible repeat (first | refine blk_drewN ?_ _ | refine blk_drew ?_ | refine blk_alloc ?_ _)); exact BK172.out) hb)
  have n2_ := Aside0.mk (blk_below (g := gb173) (o := .cells #[.int .i64 t169, .int .i64 t170] 23 (0, 0)) (by (with_reducible repeat (first | refine blk_drewN ?_ _ | refine blk_drew ?_ | refine blk_alloc ?_ _)); exact BK173.out) hb)
  have n3_ := Aside0.mk (blk_below (g := gb182) (o := .cells #[.int .u64 t178, .int .u64 t179, .int .u64 t180, .int .u64 t181] 50 (0, 0)) (by (with_reducible repeat (first | refine blk_drewN ?_ _ | refine blk_drew ?_ | refine blk_alloc ?_ _)); exact BK182.out) hb)
  have n4_ := Aside0.mk (below_step (by repeat (first | (with_reducible first | exact HB.out | apply below_alloc | apply pw_below_drewN | apply below_drew1 | refine below_set ?_ GE171.out | refine below_set ?_ GE172.out | refine below_set ?_ GE173.out | refine below_set ?_ GE182.out) | exact HB.out)) hb)
  clear BK171
  clear BK172
  clear BK173
  clear BK182
  clear HB
  have BK171 := n0_
  have BK172 := n1_
  have BK173 := n2_
  have BK182 := n3_
  have HB := n4_
  clear n0_ n1_ n2_ n3_ n4_
  (try clear hb)
  (try clear hb2)
  (try clear hk)
  (try clear hi)
  refine hK.out _ _ ⟨(blk_cell BK182.out 0).trans rfl, (blk_cell BK182.out 1).trans rfl, (blk_cell BK182.out 2).trans rfl, (blk_cell BK182.out 3).trans rfl, (blk_cell BK172.out 0).trans rfl, (blk_cell BK172.out 1).trans rfl, (blk_cell BK173.out 0).trans rfl, (blk_cell BK173.out 1).trans rfl, (blk_cell BK171.out 0).trans rfl, (blk_cell BK171.out 1).trans rfl⟩ (fun hHeld => ?_)
  clear hK K
  refine norm_ (a' := ?_) ?_ ?_
  rotate_left
  ·show Act.put _ (some 41) _ = _
   simp only [Act.put, List.setIfInBounds_toArray, List.set_cons_zero, List.set_cons_succ, i64_w, i32_w]
   rfl
  refine one_ (i := 7) (N := some 42) #[true, true, true, true, true, true, true, true, false] rfl rfl (one_of HT_.out (by kernel_rfl)) (by decide) (fun K hK => ?_)
  refine goes_ Try.func28 (by kernel_rfl) rfl #[.agg #[.int .u64 t178, .int .u64 t179, .int .u64 t180, .int .u64 t181], .agg #[.int .u64 t187, .int .u64 t188, .int .u64 t189, .int .u64 t190]] (by rfl) rfl rfl (by (try simp only [List.map_toArray, List.map_cons, List.map_nil]); first | done | rfl | (simp only [List.length_drop, List.length_take]; rfl)) ?_
  with_reducible refine (quad_Add.calls t178 t179 t180 t181 t187 t188 t189 t190 t191 t192 t193 t194 _ A16.out).mono ?_
  rintro e w68 ⟨rfl, hb⟩
  refine ⟨_, rfl, ?_⟩
  have n0_ := Aside0.mk (blk_below (g := gb171) (o := .cells #[.int .i64 t165, .int .i64 t166] 23 (0, 0)) (by (with_reducible repeat (first | refine blk_drewN ?_ _ | refine blk_drew ?_ | refine blk_alloc ?_ _)); exact BK171.out) hb)
  have n1_ := Aside0.mk (blk_below (g := gb172) (o := .cells #[.int .i64 t167, .int .i64 t168] 23 (0, 0)) (by (with_reducible repeat (first | refine blk_drewN ?_ _ | refine blk_drew ?_ | refine blk_alloc ?_ _)); exact BK172.out) hb)
  have n2_ := Aside0.mk (blk_below (g := gb173) (o := .cells #[.int .i64 t169, .int .i64 t170] 23 (0, 0)) (by (with_reducible repeat (first | refine blk_drewN ?_ _ | refine blk_drew ?_ | refine blk_alloc ?_ _)); exact BK173.out) hb)
  have n3_ := Aside0.mk (blk_below (g := gb182) (o := .cells #[.int .u64 t178, .int .u64 t179, .int .u64 t180, .int .u64 t181] 50 (0, 0)) (by (with_reducible repeat (first | refine blk_drewN ?_ _ | refine blk_drew ?_ | refine blk_alloc ?_ _)); exact BK182.out) hb)
  have n4_ := Aside0.mk (below_step (by repeat (first | (with_reducible first | exact HB.out | apply below_alloc | apply pw_below_drewN | apply below_drew1 | refine below_set ?_ GE171.out | refine below_set ?_ GE172.out | refine below_set ?_ GE173.out | refine below_set ?_ GE182.out) | exact HB.out)) hb)
  clear BK171
  clear BK172
  clear BK173
  clear BK182
  clear HB
  have BK171 := n0_
  have BK172 := n1_
  have BK173 := n2_
  have BK182 := n3_
  have HB := n4_
  clear n0_ n1_ n2_ n3_ n4_
  (try clear hb)
  (try clear hb2)
  (try clear hk)
  (try clear hi)
  refine hK.out _ _ ⟨(blk_cell BK182.out 0).trans rfl, (blk_cell BK182.out 1).trans rfl, (blk_cell BK182.out 2).trans rfl, (blk_cell BK182.out 3).trans rfl, (blk_cell BK172.out 0).trans rfl, (blk_cell BK172.out 1).trans rfl, (blk_cell BK173.out 0).trans rfl, (blk_cell BK173.out 1).trans rfl, (blk_cell BK171.out 0).trans rfl, (blk_cell BK171.out 1).trans rfl⟩ (fun hHeld => ?_)
  clear hK K
  refine norm_ (a' := ?_) ?_ ?_
  rotate_left
  ·show Act.put _ (some 42) _ = _
   simp only [Act.put, List.setIfInBounds_toArray, List.set_cons_zero, List.set_cons_succ, i64_w, i32_w]
   rfl
  refine last_ (i := 8) (N := none) #[true, true, true, true, true, true, true, true, true] rfl rfl (one_of HT_.out (by kernel_rfl)) (by decide) (fun K hK => ?_)
  have hs69 : w68.cell? ⟨gb182, 0, none⟩ = some (.int .u64 t178) := (blk_cell BK182.out 0).trans rfl
  have hfs69 := blk_frozen BK182.out 0
  have hns69_0 := NB171_182.out
  have hns69_1 := NB172_182.out
  have hns69_2 := NB173_182.out
  have hms69_0 := NB182_171.out
  have hms69_1 := NB182_172.out
  have hms69_2 := NB182_173.out
  have hs70 : w68.cell? ⟨gb182, 1, none⟩ = some (.int .u64 t179) := (blk_cell BK182.out 1).trans rfl
  have hfs70 := blk_frozen BK182.out 1
  have hns70_0 := NB171_182.out
  have hns70_1 := NB172_182.out
  have hns70_2 := NB173_182.out
  have hms70_0 := NB182_171.out
  have hms70_1 := NB182_172.out
  have hms70_2 := NB182_173.out
  have hs71 : w68.cell? ⟨gb182, 2, none⟩ = some (.int .u64 t180) := (blk_cell BK182.out 2).trans rfl
  have hfs71 := blk_frozen BK182.out 2
  have hns71_0 := NB171_182.out
  have hns71_1 := NB172_182.out
  have hns71_2 := NB173_182.out
  have hms71_0 := NB182_171.out
  have hms71_1 := NB182_172.out
  have hms71_2 := NB182_173.out
  have hs72 : w68.cell? ⟨gb182, 3, none⟩ = some (.int .u64 t181) := (blk_cell BK182.out 3).trans rfl
  have hfs72 := blk_frozen BK182.out 3
  have hns72_0 := NB171_182.out
  have hns72_1 := NB172_182.out
  have hns72_2 := NB173_182.out
  have hms72_0 := NB182_171.out
  have hms72_1 := NB182_172.out
  have hms72_2 := NB182_173.out
  refine skip_ (w1 := ?_) (by rfl) rfl ?_ ?_
  rotate_left
  ·go_simp
   rfl
  refine hK.out _ _ ?_
  clear hK K
  refine done_ (done_of HT_.out (by kernel_rfl)) ?_
  try go_wp2
  have n0_ : Aside0 (((((w68.setCell ⟨gb182, 0, none⟩ (.int .u64 t191)).setCell ⟨gb182, 1, none⟩ (.int .u64 t192)).setCell ⟨gb182, 2, none⟩ (.int .u64 t193)).setCell ⟨gb182, 3, none⟩ (.int .u64 t194)).heap[gb171]? = some (.cells #[.int .i64 t165, .int .i64 t166] 23 (0, 0))) := ⟨by (with_reducible repeat (first | refine blk_drewN ?_ _ | refine blk_drew ?_ | refine blk_alloc ?_ _)); refine blk_far ?_ NB171_182.out _; (with_reducible repeat (first | refine blk_drewN ?_ _ | refine blk_drew ?_ | refine blk_alloc ?_ _)); refine blk_far ?_ NB171_182.out _; (with_reducible repeat (first | refine blk_drewN ?_ _ | refine blk_drew ?_ | refine blk_alloc ?_ _)); refine blk_far ?_ NB171_182.out _; (with_reducible repeat (first | refine blk_drewN ?_ _ | refine blk_drew ?_ | refine blk_alloc ?_ _)); refine blk_far ?_ NB171_182.out _; (with_reducible repeat (first | refine blk_drewN ?_ _ | refine blk_drew ?_ | refine blk_alloc ?_ _)); exact BK171.out⟩
  have n1_ : Aside0 (((((w68.setCell ⟨gb182, 0, none⟩ (.int .u64 t191)).setCell ⟨gb182, 1, none⟩ (.int .u64 t192)).setCell ⟨gb182, 2, none⟩ (.int .u64 t193)).setCell ⟨gb182, 3, none⟩ (.int .u64 t194)).heap[gb172]? = some (.cells #[.int .i64 t167, .int .i64 t168] 23 (0, 0))) := ⟨by (with_reducible repeat (first | refine blk_drewN ?_ _ | refine blk_drew ?_ | refine blk_alloc ?_ _)); refine blk_far ?_ NB172_182.out _; (with_reducible repeat (first | refine blk_drewN ?_ _ | refine blk_drew ?_ | refine blk_alloc ?_ _)); refine blk_far ?_ NB172_182.out _; (with_reducible repeat (first | refine blk_drewN ?_ _ | refine blk_drew ?_ | refine blk_alloc ?_ _)); refine blk_far ?_ NB172_182.out _; (with_reducible repeat (first | refine blk_drewN ?_ _ | refine blk_drew ?_ | refine blk_alloc ?_ _)); refine blk_far ?_ NB172_182.out _; (with_reducible repeat (first | refine blk_drewN ?_ _ | refine blk_drew ?_ | refine blk_alloc ?_ _)); exact BK172.out⟩
  have n2_ : Aside0 (((((w68.setCell ⟨gb182, 0, none⟩ (.int .u64 t191)).setCell ⟨gb182, 1, none⟩ (.int .u64 t192)).setCell ⟨gb182, 2, none⟩ (.int .u64 t193)).setCell ⟨gb182, 3, none⟩ (.int .u64 t194)).heap[gb173]? = some (.cells #[.int .i64 t169, .int .i64 t170] 23 (0, 0))) := ⟨by (with_reducible repeat (first | refine blk_drewN ?_ _ | refine blk_drew ?_ | refine blk_alloc ?_ _)); refine blk_far ?_ NB173_182.out _; (with_reducible repeat (first | refine blk_drewN ?_ _ | refine blk_drew ?_ | refine blk_alloc ?_ _)); refine blk_far ?_ NB173_182.out _; (with_reducible repeat (first | refine blk_drewN ?_ _ | refine blk_drew ?_ | refine blk_alloc ?_ _)); refine blk_far ?_ NB173_182.out _; (with_reducible repeat (first | refine blk_drewN ?_ _ | refine blk_drew ?_ | refine blk_alloc ?_ _)); refine blk_far ?_ NB173_182.out _; (with_reducible repeat (first | refine blk_drewN ?_ _ | refine blk_drew ?_ | refine blk_alloc ?_ _)); exact BK173.out⟩
  have n3_ : Aside0 (((((w68.setCell ⟨gb182, 0, none⟩ (.int .u64 t191)).setCell ⟨gb182, 1, none⟩ (.int .u64 t192)).setCell ⟨gb182, 2, none⟩ (.int .u64 t193)).setCell ⟨gb182, 3, none⟩ (.int .u64 t194)).heap[gb182]? = some (.cells #[.int .u64 t191, .int .u64 t192, .int .u64 t193, .int .u64 t194] 50 (0, 0))) := ⟨by (with_reducible repeat (first | refine blk_drewN ?_ _ | refine blk_drew ?_ | refine blk_alloc ?_ _)); refine blk_put (cs := #[.int .u64 t191, .int .u64 t192, .int .u64 t193, .int .u64 t181]) ?_ 3 _ rfl; (with_reducible repeat (first | refine blk_drewN ?_ _ | refine blk_drew ?_ | refine blk_alloc ?_ _)); refine blk_put (cs := #[.int .u64 t191, .int .u64 t192, .int .u64 t180, .int .u64 t181]) ?_ 2 _ rfl; (with_reducible repeat (first | refine blk_drewN ?_ _ | refine blk_drew ?_ | refine blk_alloc ?_ _)); refine blk_put (cs := #[.int .u64 t191, .int .u64 t179, .int .u64 t180, .int .u64 t181]) ?_ 1 _ rfl; (with_reducible repeat (first | refine blk_drewN ?_ _ | refine blk_drew ?_ | refine blk_alloc ?_ _)); refine blk_put (cs := #[.int .u64 t178, .int .u64 t179, .int .u64 t180, .int .u64 t181]) ?_ 0 _ rfl; (with_reducible repeat (first | refine blk_drewN ?_ _ | refine blk_drew ?_ | refine blk_alloc ?_ _)); exact BK182.out⟩
  have n4_ : Aside0 (Below w.heap.size w ((((w68.setCell ⟨gb182, 0, none⟩ (.int .u64 t191)).setCell ⟨gb182, 1, none⟩ (.int .u64 t192)).setCell ⟨gb182, 2, none⟩ (.int .u64 t193)).setCell ⟨gb182, 3, none⟩ (.int .u64 t194))) := ⟨by repeat (first | (with_reducible first | exact HB.out | apply below_alloc | apply pw_below_drewN | apply below_drew1 | refine below_set ?_ GE171.out | refine below_set ?_ GE172.out | refine below_set ?_ GE173.out | refine below_set ?_ GE182.out) | exact HB.out)⟩
  (try clear BK171)
  (try clear BK172)
  (try clear BK173)
  (try clear BK182)
  (try clear HB)
  generalize ((((w68.setCell ⟨gb182, 0, none⟩ (.int .u64 t191)).setCell ⟨gb182, 1, none⟩ (.int .u64 t192)).setCell ⟨gb182, 2, none⟩ (.int .u64 t193)).setCell ⟨gb182, 3, none⟩ (.int .u64 t194)) = w73 at n0_ n1_ n2_ n3_ n4_ ⊢
  have BK171 := n0_
  have BK172 := n1_
  have BK173 := n2_
  have BK182 := n3_
  have HB := n4_
  clear n0_ n1_ n2_ n3_ n4_
  have n0_ := Aside0.mk (blk_drew BK171.out)
  have n1_ := Aside0.mk (blk_drew BK172.out)
  have n2_ := Aside0.mk (blk_drew BK173.out)
  have n3_ := Aside0.mk (blk_drew BK182.out)
  have n4_ := Aside0.mk (below_drew1 HB.out)
  clear BK171
  clear BK172
  clear BK173
  clear BK182
  clear HB
  have BK171 := n0_
  have BK172 := n1_
  have BK173 := n2_
  have BK182 := n3_
  have HB := n4_
  clear n0_ n1_ n2_ n3_ n4_
  refine start_ (n := 9) (S := fun w' => w'.cell? ⟨gb182, 0, none⟩ = some (.int .u64 t191) ∧ w'.cell? ⟨gb182, 1, none⟩ = some (.int .u64 t192) ∧ w'.cell? ⟨gb182, 2, none⟩ = some (.int .u64 t193) ∧ w'.cell? ⟨gb182, 3, none⟩ = some (.int .u64 t194) ∧ w'.cell? ⟨gb173, 0, none⟩ = some (.int .i64 t169) ∧ w'.cell? ⟨gb173, 1, none⟩ = some (.int .i64 t170) ∧ w'.cell? ⟨gb171, 0, none⟩ = some (.int .i64 t165) ∧ w'.cell? ⟨gb171, 1, none⟩ = some (.int .i64 t166) ∧ w'.cell? ⟨gb172, 0, none⟩ = some (.int .i64 t167) ∧ w'.cell? ⟨gb172, 1, none⟩ = some (.int .i64 t168)) (ds := [8]) #[false, false, false, false, false, false, false, false, false] (by kernel_rfl) rfl rfl ⟨(blk_cell BK182.out 0).trans rfl, (blk_cell BK182.out 1).trans rfl, (blk_cell BK182.out 2).trans rfl, (blk_cell BK182.out 3).trans rfl, (blk_cell BK173.out 0).trans rfl, (blk_cell BK173.out 1).trans rfl, (blk_cell BK171.out 0).trans rfl, (blk_cell BK171.out 1).trans rfl, (blk_cell BK172.out 0).trans rfl, (blk_cell BK172.out 1).trans rfl⟩ (fun hHeld => ?_); refine with_tabW pred_InCircle.tab6 pred_InCircle.bits6 (fun HT_ HW_ => ?_)
  generalize w73.drew = w74 at BK171 BK172 BK173 BK182 HB hHeld ⊢
  refine take_ (i := 0) (N := some 43) (v := ?_) (a' := ?_) #[true, false, false, false, false, false, false, false, false] rfl rfl (take_ofW HT_.out HW_.out (by kernel_rfl)) (fun _ _ _ h => h) (Or.inl ⟨by rfl, ?_⟩) hHeld ?_ ?_
  rotate_left
  ·rintro w' ⟨s0, s1, s2, s3, s4, s5, s6, s7, s8, s9⟩
   go_simp
   with_reducible rfl
  rotate_left
  ·simp only [Act.put, List.setIfInBounds_toArray, List.set_cons_zero, List.set_cons_succ, i64_w, i32_w]
   rfl
  refine take_ (i := 1) (N := some 44) (v := ?_) (a' := ?_) #[true, true, false, false, false, false, false, false, false] rfl rfl (take_ofW HT_.out HW_.out (by kernel_rfl)) (fun _ _ _ h => h) (Or.inl ⟨by rfl, ?_⟩) hHeld ?_ ?_
  rotate_left
  ·rintro w' ⟨s0, s1, s2, s3, s4, s5, s6, s7, s8, s9⟩
   go_simp
   with_reducible rfl
  rotate_left
  ·simp only [Act.put, List.setIfInBounds_toArray, List.set_cons_zero, List.set_cons_succ, i64_w, i32_w]
   rfl
  refine take_ (i := 3) (N := some 46) (v := ?_) (a' := ?_) #[true, true, false, true, false, false, false, false, false] rfl rfl (take_ofW HT_.out HW_.out (by kernel_rfl)) (fun _ _ _ h => h) (Or.inl ⟨by rfl, ?_⟩) hHeld ?_ ?_
  rotate_left
  ·rintro w' ⟨s0, s1, s2, s3, s4, s5, s6, s7, s8, s9⟩
   go_simp
   with_reducible rfl
  rotate_left
  ·simp only [Act.put, List.setIfInBounds_toArray, List.set_cons_zero, List.set_cons_succ, i64_w, i32_w]
   rfl
  refine take_ (i := 4) (N := some 47) (v := ?_) (a' := ?_) #[true, true, false, true, true, false, false, false, false] rfl rfl (take_ofW HT_.out HW_.out (by kernel_rfl)) (fun _ _ _ h => h) (Or.inl ⟨by rfl, ?_⟩) hHeld ?_ ?_
  rotate_left
  ·rintro w' ⟨s0, s1, s2, s3, s4, s5, s6, s7, s8, s9⟩
   go_simp
   with_reducible rfl
  rotate_left
  ·simp only [Act.put, List.setIfInBounds_toArray, List.set_cons_zero, List.set_cons_succ, i64_w, i32_w]
   rfl
  refine one_ (i := 2) (N := some 45) #[true, true, true, true, true, false, false, false, false] rfl rfl (one_of HT_.out (by kernel_rfl)) (by decide) (fun K hK => ?_)
  refine goes_ Try.func26 (by kernel_rfl) rfl #[.agg #[.int .i64 t169, .int .i64 t170]] (by rfl) rfl rfl (by (try simp only [List.map_toArray, List.map_cons, List.map_nil]); first | done | rfl | (simp only [List.length_drop, List.length_take]; rfl)) ?_
  with_reducible refine (pred_square.calls t169 t170 t195 t196 _ A17.out).mono ?_
  rintro e w75 ⟨rfl, hb⟩
  refine ⟨_, rfl, ?_⟩
  have n0_ := Aside0.mk (blk_below (g := gb171) (o := .cells #[.int .i64 t165, .int .i64 t166] 23 (0, 0)) (by (with_reducible repeat (first | refine blk_drewN ?_ _ | refine blk_drew ?_ | refine blk_alloc ?_ _)); exact BK171.out) hb)
  have n1_ := Aside0.mk (blk_below (g := gb172) (o := .cells #[.int .i64 t167, .int .i64 t168] 23 (0, 0)) (by (with_reducible repeat (first | refine blk_drewN ?_ _ | refine blk_drew ?_ | refine blk_alloc ?_ _)); exact BK172.out) hb)
  have n2_ := Aside0.mk (blk_below (g := gb173) (o := .cells #[.int .i64 t169, .int .i64 t170] 23 (0, 0)) (by (with_reducible repeat (first | refine blk_drewN ?_ _ | refine blk_drew ?_ | refine blk_alloc ?_ _)); exact BK173.out) hb)
  have n3_ := Aside0.mk (blk_below (g := gb182) (o := .cells #[.int .u64 t191, .int .u64 t192, .int .u64 t193, .int .u64 t194] 50 (0, 0)) (by (with_reducible repeat (first | refine blk_drewN ?_ _ | refine blk_drew ?_ | refine blk_alloc ?_ _)); exact BK182.out) hb)
  have n4_ := Aside0.mk (below_step (by repeat (first | (with_reducible first | exact HB.out | apply below_alloc | apply pw_below_drewN | apply below_drew1 | refine below_set ?_ GE171.out | refine below_set ?_ GE172.out | refine below_set ?_ GE173.out | refine below_set ?_ GE182.out) | exact HB.out)) hb)
  clear BK171
  clear BK172
  clear BK173
  clear BK182
  clear HB
  have BK171 := n0_
  have BK172 := n1_
  have BK173 := n2_
  have BK182 := n3_
  have HB := n4_
  clear n0_ n1_ n2_ n3_ n4_
  (try clear hb)
  (try clear hb2)
  (try clear hk)
  (try clear hi)
  refine hK.out _ _ ⟨(blk_cell BK182.out 0).trans rfl, (blk_cell BK182.out 1).trans rfl, (blk_cell BK182.out 2).trans rfl, (blk_cell BK182.out 3).trans rfl, (blk_cell BK173.out 0).trans rfl, (blk_cell BK173.out 1).trans rfl, (blk_cell BK171.out 0).trans rfl, (blk_cell BK171.out 1).trans rfl, (blk_cell BK172.out 0).trans rfl, (blk_cell BK172.out 1).trans rfl⟩ (fun hHeld => ?_)
  clear hK K
  refine norm_ (a' := ?_) ?_ ?_
  rotate_left
  ·show Act.put _ (some 45) _ = _
   simp only [Act.put, List.setIfInBounds_toArray, List.set_cons_zero, List.set_cons_succ, i64_w, i32_w]
   rfl
  refine one_ (i := 5) (N := some 48) #[true, true, true, true, true, true, false, false, false] rfl rfl (one_of HT_.out (by kernel_rfl)) (by decide) (fun K hK => ?_)
  refine goes_ Try.func27 (by kernel_rfl) rfl #[.agg #[.int .i64 t165, .int .i64 t166], .agg #[.int .i64 t167, .int .i64 t168]] (by rfl) rfl rfl (by (try simp only [List.map_toArray, List.map_cons, List.map_nil]); first | done | rfl | (simp only [List.length_drop, List.length_take]; rfl)) ?_
  with_reducible refine (pred_across.calls t165 t166 t167 t168 t197 t198 _ A18.out).mono ?_
  rintro e w76 ⟨rfl, hb⟩
  refine ⟨_, rfl, ?_⟩
  have n0_ := Aside0.mk (blk_below (g := gb171) (o := .cells #[.int .i64 t165, .int .i64 t166] 23 (0, 0)) (by (with_reducible repeat (first | refine blk_drewN ?_ _ | refine blk_drew ?_ | refine blk_alloc ?_ _)); exact BK171.out) hb)
  have n1_ := Aside0.mk (blk_below (g := gb172) (o := .cells #[.int .i64 t167, .int .i64 t168] 23 (0, 0)) (by (with_reducible repeat (first | refine blk_drewN ?_ _ | refine blk_drew ?_ | refine blk_alloc ?_ _)); exact BK172.out) hb)
  have n2_ := Aside0.mk (blk_below (g := gb173) (o := .cells #[.int .i64 t169, .int .i64 t170] 23 (0, 0)) (by (with_reducible repeat (first | refine blk_drewN ?_ _ | refine blk_drew ?_ | refine blk_alloc ?_ _)); exact BK173.out) hb)
  have n3_ := Aside0.mk (blk_below (g := gb182) (o := .cells #[.int .u64 t191, .int .u64 t192, .int .u64 t193, .int .u64 t194] 50 (0, 0)) (by (with_reducible repeat (first | refine blk_drewN ?_ _ | refine blk_drew ?_ | refine blk_alloc ?_ _)); exact BK182.out) hb)
  have n4_ := Aside0.mk (below_step (by repeat (first | (with_reducible first | exact HB.out | apply below_alloc | apply pw_below_drewN | apply below_drew1 | refine below_set ?_ GE171.out | refine below_set ?_ GE172.out | refine below_set ?_ GE173.out | refine below_set ?_ GE182.out) | exact HB.out)) hb)
  clear BK171
  clear BK172
  clear BK173
  clear BK182
  clear HB
  have BK171 := n0_
  have BK172 := n1_
  have BK173 := n2_
  have BK182 := n3_
  have HB := n4_
  clear n0_ n1_ n2_ n3_ n4_
  (try clear hb)
  (try clear hb2)
  (try clear hk)
  (try clear hi)
  refine hK.out _ _ ⟨(blk_cell BK182.out 0).trans rfl, (blk_cell BK182.out 1).trans rfl, (blk_cell BK182.out 2).trans rfl, (blk_cell BK182.out 3).trans rfl, (blk_cell BK173.out 0).trans rfl, (blk_cell BK173.out 1).trans rfl, (blk_cell BK171.out 0).trans rfl, (blk_cell BK171.out 1).trans rfl, (blk_cell BK172.out 0).trans rfl, (blk_cell BK172.out 1).trans rfl⟩ (fun hHeld => ?_)
  clear hK K
  refine norm_ (a' := ?_) ?_ ?_
  rotate_left
  ·show Act.put _ (some 48) _ = _
   simp only [Act.put, List.setIfInBounds_toArray, List.set_cons_zero, List.set_cons_succ, i64_w, i32_w]
   rfl
  refine one_ (i := 6) (N := some 49) #[true, true, true, true, true, true, true, false, false] rfl rfl (one_of HT_.out (by kernel_rfl)) (by decide) (fun K hK => ?_)
  refine goes_ Try.func25 (by kernel_rfl) rfl #[.agg #[.int .i64 t195, .int .u64 t196], .agg #[.int .i64 t197, .int .u64 t198]] (by rfl) rfl rfl (by (try simp only [List.map_toArray, List.map_cons, List.map_nil]); first | done | rfl | (simp only [List.length_drop, List.length_take]; rfl)) ?_
  with_reducible refine (quad_Mul.calls t195 t196 t197 t198 t199 t200 t201 t202 _ A19.out).mono ?_
  rintro e w77 ⟨rfl, hb⟩
  refine ⟨_, rfl, ?_⟩
  have n0_ := Aside0.mk (blk_below (g := gb171) (o := .cells #[.int .i64 t165, .int .i64 t166] 23 (0, 0)) (by (with_reducible repeat (first | refine blk_drewN ?_ _ | refine blk_drew ?_ | refine blk_alloc ?_ _)); exact BK171.out) hb)
  have n1_ := Aside0.mk (blk_below (g := gb172) (o := .cells #[.int .i64 t167, .int .i64 t168] 23 (0, 0)) (by (with_reducible repeat (first | refine blk_drewN ?_ _ | refine blk_drew ?_ | refine blk_alloc ?_ _)); exact BK172.out) hb)
  have n2_ := Aside0.mk (blk_below (g := gb173) (o := .cells #[.int .i64 t169, .int .i64 t170] 23 (0, 0)) (by (with_reducible repeat (first | refine blk_drewN ?_ _ | refine blk_drew ?_ | refine blk_alloc ?_ _)); exact BK173.out) hb)
  have n3_ := Aside0.mk (blk_below (g := gb182) (o := .cells #[.int .u64 t191, .int .u64 t192, .int .u64 t193, .int .u64 t194] 50 (0, 0)) (by (with_reducible repeat (first | refine blk_drewN ?_ _ | refine blk_drew ?_ | refine blk_alloc ?_ _)); exact BK182.out) hb)
  have n4_ := Aside0.mk (below_step (by repeat (first | (with_reducible first | exact HB.out | apply below_alloc | apply pw_below_drewN | apply below_drew1 | refine below_set ?_ GE171.out | refine below_set ?_ GE172.out | refine below_set ?_ GE173.out | refine below_set ?_ GE182.out) | exact HB.out)) hb)
  clear BK171
  clear BK172
  clear BK173
  clear BK182
  clear HB
  have BK171 := n0_
  have BK172 := n1_
  have BK173 := n2_
  have BK182 := n3_
  have HB := n4_
  clear n0_ n1_ n2_ n3_ n4_
  (try clear hb)
  (try clear hb2)
  (try clear hk)
  (try clear hi)
  refine hK.out _ _ ⟨(blk_cell BK182.out 0).trans rfl, (blk_cell BK182.out 1).trans rfl, (blk_cell BK182.out 2).trans rfl, (blk_cell BK182.out 3).trans rfl, (blk_cell BK173.out 0).trans rfl, (blk_cell BK173.out 1).trans rfl, (blk_cell BK171.out 0).trans rfl, (blk_cell BK171.out 1).trans rfl, (blk_cell BK172.out 0).trans rfl, (blk_cell BK172.out 1).trans rfl⟩ (fun hHeld => ?_)
  clear hK K
  refine norm_ (a' := ?_) ?_ ?_
  rotate_left
  ·show Act.put _ (some 49) _ = _
   simp only [Act.put, List.setIfInBounds_toArray, List.set_cons_zero, List.set_cons_succ, i64_w, i32_w]
   rfl
  refine one_ (i := 7) (N := some 50) #[true, true, true, true, true, true, true, true, false] rfl rfl (one_of HT_.out (by kernel_rfl)) (by decide) (fun K hK => ?_)
  refine goes_ Try.func28 (by kernel_rfl) rfl #[.agg #[.int .u64 t191, .int .u64 t192, .int .u64 t193, .int .u64 t194], .agg #[.int .u64 t199, .int .u64 t200, .int .u64 t201, .int .u64 t202]] (by rfl) rfl rfl (by (try simp only [List.map_toArray, List.map_cons, List.map_nil]); first | done | rfl | (simp only [List.length_drop, List.length_take]; rfl)) ?_
  with_reducible refine (quad_Add.calls t191 t192 t193 t194 t199 t200 t201 t202 t203 t204 t205 t206 _ A20.out).mono ?_
  rintro e w78 ⟨rfl, hb⟩
  refine ⟨_, rfl, ?_⟩
  have n0_ := Aside0.mk (blk_below (g := gb171) (o := .cells #[.int .i64 t165, .int .i64 t166] 23 (0, 0)) (by (with_reducible repeat (first | refine blk_drewN ?_ _ | refine blk_drew ?_ | refine blk_alloc ?_ _)); exact BK171.out) hb)
  have n1_ := Aside0.mk (blk_below (g := gb172) (o := .cells #[.int .i64 t167, .int .i64 t168] 23 (0, 0)) (by (with_reducible repeat (first | refine blk_drewN ?_ _ | refine blk_drew ?_ | refine blk_alloc ?_ _)); exact BK172.out) hb)
  have n2_ := Aside0.mk (blk_below (g := gb173) (o := .cells #[.int .i64 t169, .int .i64 t170] 23 (0, 0)) (by (with_reducible repeat (first | refine blk_drewN ?_ _ | refine blk_drew ?_ | refine blk_alloc ?_ _)); exact BK173.out) hb)
  have n3_ := Aside0.mk (blk_below (g := gb182) (o := .cells #[.int .u64 t191, .int .u64 t192, .int .u64 t193, .int .u64 t194] 50 (0, 0)) (by (with_reducible repeat (first | refine blk_drewN ?_ _ | refine blk_drew ?_ | refine blk_alloc ?_ _)); exact BK182.out) hb)
  have n4_ := Aside0.mk (below_step (by repeat (first | (with_reducible first | exact HB.out | apply below_alloc | apply pw_below_drewN | apply below_drew1 | refine below_set ?_ GE171.out | refine below_set ?_ GE172.out | refine below_set ?_ GE173.out | refine below_set ?_ GE182.out) | exact HB.out)) hb)
  clear BK171
  clear BK172
  clear BK173
  clear BK182
  clear HB
  have BK171 := n0_
  have BK172 := n1_
  have BK173 := n2_
  have BK182 := n3_
  have HB := n4_
  clear n0_ n1_ n2_ n3_ n4_
  (try clear hb)
  (try clear hb2)
  (try clear hk)
  (try clear hi)
  refine hK.out _ _ ⟨(blk_cell BK182.out 0).trans rfl, (blk_cell BK182.out 1).trans rfl, (blk_cell BK182.out 2).trans rfl, (blk_cell BK182.out 3).trans rfl, (blk_cell BK173.out 0).trans rfl, (blk_cell BK173.out 1).trans rfl, (blk_cell BK171.out 0).trans rfl, (blk_cell BK171.out 1).trans rfl, (blk_cell BK172.out 0).trans rfl, (blk_cell BK172.out 1).trans rfl⟩ (fun hHeld => ?_)
  clear hK K
  refine norm_ (a' := ?_) ?_ ?_
  rotate_left
  ·show Act.put _ (some 50) _ = _
   simp only [Act.put, List.setIfInBounds_toArray, List.set_cons_zero, List.set_cons_succ, i64_w, i32_w]
   rfl
  refine last_ (i := 8) (N := none) #[true, true, true, true, true, true, true, true, true] rfl rfl (one_of HT_.out (by kernel_rfl)) (by decide) (fun K hK => ?_)
  have hs79 : w78.cell? ⟨gb182, 0, none⟩ = some (.int .u64 t191) := (blk_cell BK182.out 0).trans rfl
  have hfs79 := blk_frozen BK182.out 0
  have hns79_0 := NB171_182.out
  have hns79_1 := NB172_182.out
  have hns79_2 := NB173_182.out
  have hms79_0 := NB182_171.out
  have hms79_1 := NB182_172.out
  have hms79_2 := NB182_173.out
  have hs80 : w78.cell? ⟨gb182, 1, none⟩ = some (.int .u64 t192) := (blk_cell BK182.out 1).trans rfl
  have hfs80 := blk_frozen BK182.out 1
  have hns80_0 := NB171_182.out
  have hns80_1 := NB172_182.out
  have hns80_2 := NB173_182.out
  have hms80_0 := NB182_171.out
  have hms80_1 := NB182_172.out
  have hms80_2 := NB182_173.out
  have hs81 : w78.cell? ⟨gb182, 2, none⟩ = some (.int .u64 t193) := (blk_cell BK182.out 2).trans rfl
  have hfs81 := blk_frozen BK182.out 2
  have hns81_0 := NB171_182.out
  have hns81_1 := NB172_182.out
  have hns81_2 := NB173_182.out
  have hms81_0 := NB182_171.out
  have hms81_1 := NB182_172.out
  have hms81_2 := NB182_173.out
  have hs82 : w78.cell? ⟨gb182, 3, none⟩ = some (.int .u64 t194) := (blk_cell BK182.out 3).trans rfl
  have hfs82 := blk_frozen BK182.out 3
  have hns82_0 := NB171_182.out
  have hns82_1 := NB172_182.out
  have hns82_2 := NB173_182.out
  have hms82_0 := NB182_171.out
  have hms82_1 := NB182_172.out
  have hms82_2 := NB182_173.out
  refine skip_ (w1 := ?_) (by rfl) rfl ?_ ?_
  rotate_left
  ·go_simp
   rfl
  refine hK.out _ _ ?_
  clear hK K
  refine done_ (done_of HT_.out (by kernel_rfl)) ?_
  have hnb83 := NB182_171.out
  have hnc83 := NB171_182.out
  have hnb84 := NB182_172.out
  have hnc84 := NB172_182.out
  have hnb85 := NB182_173.out
  have hnc85 := NB173_182.out
  have hcz86_0 : w78.cell? ⟨gb182, 0, none⟩ = some (.int .u64 t191) := (blk_cell BK182.out 0).trans rfl
  have hcz86_1 : w78.cell? ⟨gb182, 1, none⟩ = some (.int .u64 t192) := (blk_cell BK182.out 1).trans rfl
  have hcz86_2 : w78.cell? ⟨gb182, 2, none⟩ = some (.int .u64 t193) := (blk_cell BK182.out 2).trans rfl
  have hcz86_3 : w78.cell? ⟨gb182, 3, none⟩ = some (.int .u64 t194) := (blk_cell BK182.out 3).trans rfl
  have hfz86_0 := blk_frozen BK182.out 0
  have hfz86_1 := blk_frozen BK182.out 1
  have hfz86_2 := blk_frozen BK182.out 2
  have hfz86_3 := blk_frozen BK182.out 3
  try go_wp2_with (first | ((with_reducible refine gate_callee (f := 29) rfl ?_); refine goesL_ (some 52) rfl rfl Try.func29 (by kernel_rfl) rfl #[.agg #[.int .u64 t203, .int .u64 t204, .int .u64 t205, .int .u64 t206]] rfl (by (try simp only [List.map_toArray, List.map_cons, List.map_nil]); first | done | rfl | (simp only [List.length_drop, List.length_take]; rfl)) ?_; (with_reducible refine (quad_Sign.calls t203 t204 t205 t206 t207 _ A21.out).mono ?_); rintro e w87 ⟨rfl, hb⟩; refine ⟨_, rfl, ?_⟩; have n0_ := Aside0.mk (blk_below (g := gb171) (o := .cells #[.int .i64 t165, .int .i64 t166] 23 (0, 0)) (by (with_reducible repeat (first | refine blk_drewN ?_ _ | refine blk_drew ?_ | refine blk_alloc ?_ _)); refine blk_far ?_ NB171_182.out _; (with_reducible repeat (first | refine blk_drewN ?_ _ | refine blk_drew ?_ | refine blk_alloc ?_ _)); refine blk_far ?_ NB171_182.out _; (with_reducible repeat (first | refine blk_drewN ?_ _ | refine blk_drew ?_ | refine blk_alloc ?_ _)); refine blk_far ?_ NB171_182.out _; (with_reducible repeat (first | refine blk_drewN ?_ _ | refine blk_drew ?_ | refine blk_alloc ?_ _)); refine blk_far ?_ NB171_182.out _; (with_reducible repeat (first | refine blk_drewN ?_ _ | refine blk_drew ?_ | refine blk_alloc ?_ _)); exact BK171.out) hb); have n1_ := Aside0.mk (blk_below (g := gb172) (o := .cells #[.int .i64 t167, .int .i64 t168] 23 (0, 0)) (by (with_reducible repeat (first | refine blk_drewN ?_ _ | refine blk_drew ?_ | refine blk_alloc ?_ _)); refine blk_far ?_ NB172_182.out _; (with_reducible repeat (first | refine blk_drewN ?_ _ | refine blk_drew ?_ | refine blk_alloc ?_ _)); refine blk_far ?_ NB172_182.out _; (with_reducible repeat (first | refine blk_drewN ?_ _ | refine blk_drew ?_ | refine blk_alloc ?_ _)); refine blk_far ?_ NB172_182.out _; (with_reducible repeat (first | refine blk_drewN ?_ _ | refine blk_drew ?_ | refine blk_alloc ?_ _)); refine blk_far ?_ NB172_182.out _; (with_reducible repeat (first | refine blk_drewN ?_ _ | refine blk_drew ?_ | refine blk_alloc ?_ _)); exact BK172.out) hb); have n2_ := Aside0.mk (blk_below (g := gb173) (o := .cells #[.int .i64 t169, .int .i64 t170] 23 (0, 0)) (by (with_reducible repeat (first | refine blk_drewN ?_ _ | refine blk_drew ?_ | refine blk_alloc ?_ _)); refine blk_far ?_ NB173_182.out _; (with_reducible repeat (first | refine blk_drewN ?_ _ | refine blk_drew ?_ | refine blk_alloc ?_ _)); refine blk_far ?_ NB173_182.out _; (with_reducible repeat (first | refine blk_drewN ?_ _ | refine blk_drew ?_ | refine blk_alloc ?_ _)); refine blk_far ?_ NB173_182.out _; (with_reducible repeat (first | refine blk_drewN ?_ _ | refine blk_drew ?_ | refine blk_alloc ?_ _)); refine blk_far ?_ NB173_182.out _; (with_reducible repeat (first | refine blk_drewN ?_ _ | refine blk_drew ?_ | refine blk_alloc ?_ _)); exact BK173.out) hb); have n3_ := Aside0.mk (blk_below (g := gb182) (o := .cells #[.int .u64 t203, .int .u64 t204, .int .u64 t205, .int .u64 t206] 50 (0, 0)) (by (with_reducible repeat (first | refine blk_drewN ?_ _ | refine blk_drew ?_ | refine blk_alloc ?_ _)); refine blk_put (cs := #[.int .u64 t203, .int .u64 t204, .int .u64 t205, .int .u64 t194]) ?_ 3 _ rfl; (with_reducible repeat (first | refine blk_drewN ?_ _ | refine blk_drew ?_ | refine blk_alloc ?_ _)); refine blk_put (cs := #[.int .u64 t203, .int .u64 t204, .int .u64 t193, .int .u64 t194]) ?_ 2 _ rfl; (with_reducible repeat (first | refine blk_drewN ?_ _ | refine blk_drew ?_ | refine blk_alloc ?_ _)); refine blk_put (cs := #[.int .u64 t203, .int .u64 t192, .int .u64 t193, .int .u64 t194]) ?_ 1 _ rfl; (with_reducible repeat (first | refine blk_drewN ?_ _ | refine blk_drew ?_ | refine blk_alloc ?_ _)); refine blk_put (cs := #[.int .u64 t191, .int .u64 t192, .int .u64 t193, .int .u64 t194]) ?_ 0 _ rfl; (with_reducible repeat (first | refine blk_drewN ?_ _ | refine blk_drew ?_ | refine blk_alloc ?_ _)); exact BK182.out) hb); have n4_ := Aside0.mk (below_step (by repeat (first | (with_reducible first | exact HB.out | apply below_alloc | apply pw_below_drewN | apply below_drew1 | refine below_set ?_ GE171.out | refine below_set ?_ GE172.out | refine below_set ?_ GE173.out | refine below_set ?_ GE182.out) | exact HB.out)) hb); clear BK171; clear BK172; clear BK173; clear BK182; clear HB; have BK171 := n0_; have BK172 := n1_; have BK173 := n2_; have BK182 := n3_; have HB := n4_; clear n0_ n1_ n2_ n3_ n4_; (try clear hb); (try clear hb2); (try clear hk); (try clear hi)))
  go_ret
  exact ⟨by first | rfl | (simp [errW_none, errW_some] <;> rfl) | (simp [*, errW_none, errW_some] <;> rfl), by repeat (first | (with_reducible first | exact HB.out | apply below_alloc | apply pw_below_drewN | apply below_drew1 | refine below_set ?_ GE171.out | refine below_set ?_ GE172.out | refine below_set ?_ GE173.out | refine below_set ?_ GE182.out) | exact HB.out)⟩
 ·replace c6 := Bool.eq_false_iff.mpr c6
  subst c6
  have H1 : (some 0) = some r := by rw [if_neg (show ¬ (false = true) by decide)] at H; exact H
  clear H
  have H := H1
  clear H1
  obtain rfl := Option.some.inj H
  go_enter Try.func8, Try.ntmps8
  go_wp2_with (first | ((with_reducible refine gate_dst (N := 4) rfl ?_); refine box_event ?hg (N := 4) ?hd (cs := #[.int .i64 a0_0, .int .i64 a0_1]) (t := 23) ?hr ?_; (case hd => rfl); (case hg => rfl); (case hr => first | (go_simp; done) | (go_simp; rfl)); intro gb157 hg w88 hbox hb; have n0_ := Aside0.mk (below_step (by repeat (first | (with_reducible first | exact HB.out | apply below_alloc | apply pw_below_drewN | apply below_drew1) | exact HB.out)) hb); have n1_ := Aside0.mk (hbox); have n2_ := Aside0.mk ((by rw [hg]; exact (below_size (by repeat (first | (with_reducible first | exact HB.out | apply below_alloc | apply pw_below_drewN | apply below_drew1) | exact HB.out))) : w.heap.size ≤ gb157)); have n3_ := Aside0.mk ((by rw [hg]; exact (below_size (by repeat (first | (with_reducible first | exact HB.out | apply below_alloc | apply pw_below_drewN | apply below_drew1) | exact HB.out))) : w.heap.size ≤ gb157)); clear HB; have HB := n0_; have BK157 := n1_; have GW157 := n2_; have GE157 := n3_; clear n0_ n1_ n2_ n3_; clear hb hbox hg) | ((with_reducible refine gate_dst (N := 5) rfl ?_); refine box_event ?hg (N := 5) ?hd (cs := #[.int .i64 a1_0, .int .i64 a1_1]) (t := 23) ?hr ?_; (case hd => rfl); (case hg => rfl); (case hr => first | (go_simp; done) | (go_simp; rfl)); intro gb158 hg w89 hbox hb; have n0_ := Aside0.mk (blk_below (g := gb157) (o := .cells #[.int .i64 a0_0, .int .i64 a0_1] 23 (0, 0)) (by (with_reducible repeat (first | refine blk_drewN ?_ _ | refine blk_drew ?_ | refine blk_alloc ?_ _)); exact BK157.out) hb); have n1_ := Aside0.mk (below_step (by repeat (first | (with_reducible first | exact HB.out | apply below_alloc | apply pw_below_drewN | apply below_drew1 | refine below_set ?_ GE157.out) | exact HB.out)) hb); have n2_ := Aside0.mk (hbox); have n3_ := Aside0.mk ((by rw [hg]; exact (below_size (by repeat (first | (with_reducible first | exact HB.out | apply below_alloc | apply pw_below_drewN | apply below_drew1 | refine below_set ?_ GE157.out) | exact HB.out))) : w.heap.size ≤ gb158)); have n4_ := Aside0.mk ((by rw [hg]; exact (below_size (by repeat (first | (with_reducible first | exact HB.out | apply below_alloc | apply pw_below_drewN | apply below_drew1 | refine below_set ?_ GE157.out) | exact HB.out))) : w.heap.size ≤ gb158)); have n5_ := Aside0.mk ((by rw [hg]; exact Nat.ne_of_lt (blk_lt (g := gb157) (o := .cells #[.int .i64 a0_0, .int .i64 a0_1] 23 (0, 0)) (by (with_reducible repeat (first | refine blk_drewN ?_ _ | refine blk_drew ?_ | refine blk_alloc ?_ _)); exact BK157.out)) : gb157 ≠ gb158)); have n6_ := Aside0.mk ((by rw [hg]; exact Nat.ne_of_gt (blk_lt (g := gb157) (o := .cells #[.int .i64 a0_0, .int .i64 a0_1] 23 (0, 0)) (by (with_reducible repeat (first | refine blk_drewN ?_ _ | refine blk_drew ?_ | refine blk_alloc ?_ _)); exact BK157.out)) : gb158 ≠ gb157)); clear BK157; clear HB; have BK157 := n0_; have HB := n1_; have BK158 := n2_; have GW158 := n3_; have GE158 := n4_; have NB157_158 := n5_; have NB158_157 := n6_; clear n0_ n1_ n2_ n3_ n4_ n5_ n6_; clear hb hbox hg) | ((with_reducible refine gate_dst (N := 6) rfl ?_); refine box_event ?hg (N := 6) ?hd (cs := #[.int .i64 a2_0, .int .i64 a2_1]) (t := 23) ?hr ?_; (case hd => rfl); (case hg => rfl); (case hr => first | (go_simp; done) | (go_simp; rfl)); intro gb159 hg w90 hbox hb; have n0_ := Aside0.mk (blk_below (g := gb157) (o := .cells #[.int .i64 a0_0, .int .i64 a0_1] 23 (0, 0)) (by (with_reducible repeat (first | refine blk_drewN ?_ _ | refine blk_drew ?_ | refine blk_alloc ?_ _)); exact BK157.out) hb); have n1_ := Aside0.mk (blk_below (g := gb158) (o := .cells #[.int .i64 a1_0, .int .i64 a1_1] 23 (0, 0)) (by (with_reducible repeat (first | refine blk_drewN ?_ _ | refine blk_drew ?_ | refine blk_alloc ?_ _)); exact BK158.out) hb); have n2_ := Aside0.mk (below_step (by repeat (first | (with_reducible first | exact HB.out | apply below_alloc | apply pw_below_drewN | apply below_drew1 | refine below_set ?_ GE157.out | refine below_set ?_ GE158.out) | exact HB.out)) hb); have n3_ := Aside0.mk (hbox); have n4_ := Aside0.mk ((by rw [hg]; exact (below_size (by repeat (first | (with_reducible first | exact HB.out | apply below_alloc | apply pw_below_drewN | apply below_drew1 | refine below_set ?_ GE157.out | refine below_set ?_ GE158.out) | exact HB.out))) : w.heap.size ≤ gb159)); have n5_ := Aside0.mk ((by rw [hg]; exact (below_size (by repeat (first | (with_reducible first | exact HB.out | apply below_alloc | apply pw_below_drewN | apply below_drew1 | refine below_set ?_ GE157.out | refine below_set ?_ GE158.out) | exact HB.out))) : w.heap.size ≤ gb159)); have n6_ := Aside0.mk ((by rw [hg]; exact Nat.ne_of_lt (blk_lt (g := gb157) (o := .cells #[.int .i64 a0_0, .int .i64 a0_1] 23 (0, 0)) (by (with_reducible repeat (first | refine blk_drewN ?_ _ | refine blk_drew ?_ | refine blk_alloc ?_ _)); exact BK157.out)) : gb157 ≠ gb159)); have n7_ := Aside0.mk ((by rw [hg]; exact Nat.ne_of_gt (blk_lt (g := gb157) (o := .cells #[.int .i64 a0_0, .int .i64 a0_1] 23 (0, 0)) (by (with_reducible repeat (first | refine blk_drewN ?_ _ | refine blk_drew ?_ | refine blk_alloc ?_ _)); exact BK157.out)) : gb159 ≠ gb157)); have n8_ := Aside0.mk ((by rw [hg]; exact Nat.ne_of_lt (blk_lt (g := gb158) (o := .cells #[.int .i64 a1_0, .int .i64 a1_1] 23 (0, 0)) (by (with_reducible repeat (first | refine blk_drewN ?_ _ | refine blk_drew ?_ | refine blk_alloc ?_ _)); exact BK158.out)) : gb158 ≠ gb159)); have n9_ := Aside0.mk ((by rw [hg]; exact Nat.ne_of_gt (blk_lt (g := gb158) (o := .cells #[.int .i64 a1_0, .int .i64 a1_1] 23 (0, 0)) (by (with_reducible repeat (first | refine blk_drewN ?_ _ | refine blk_drew ?_ | refine blk_alloc ?_ _)); exact BK158.out)) : gb159 ≠ gb158)); clear BK157; clear BK158; clear HB; have BK157 := n0_; have BK158 := n1_; have HB := n2_; have BK159 := n3_; have GW159 := n4_; have GE159 := n5_; have NB157_159 := n6_; have NB159_157 := n7_; have NB158_159 := n8_; have NB159_158 := n9_; clear n0_ n1_ n2_ n3_ n4_ n5_ n6_ n7_ n8_ n9_; clear hb hbox hg) | ((with_reducible refine gate_dst (N := 7) rfl ?_); refine box_event ?hg (N := 7) ?hd (cs := #[.int .i64 a3_0, .int .i64 a3_1]) (t := 23) ?hr ?_; (case hd => rfl); (case hg => rfl); (case hr => first | (go_simp; done) | (go_simp; rfl)); intro gb160 hg w91 hbox hb; have n0_ := Aside0.mk (blk_below (g := gb157) (o := .cells #[.int .i64 a0_0, .int .i64 a0_1] 23 (0, 0)) (by (with_reducible repeat (first | refine blk_drewN ?_ _ | refine blk_drew ?_ | refine blk_alloc ?_ _)); exact BK157.out) hb); have n1_ := Aside0.mk (blk_below (g := gb158) (o := .cells #[.int .i64 a1_0, .int .i64 a1_1] 23 (0, 0)) (by (with_reducible repeat (first | refine blk_drewN ?_ _ | refine blk_drew ?_ | refine blk_alloc ?_ _)); exact BK158.out) hb); have n2_ := Aside0.mk (blk_below (g := gb159) (o := .cells #[.int .i64 a2_0, .int .i64 a2_1] 23 (0, 0)) (by (with_reducible repeat (first | refine blk_drewN ?_ _ | refine blk_drew ?_ | refine blk_alloc ?_ _)); exact BK159.out) hb); have n3_ := Aside0.mk (below_step (by repeat (first | (with_reducible first | exact HB.out | apply below_alloc | apply pw_below_drewN | apply below_drew1 | refine below_set ?_ GE157.out | refine below_set ?_ GE158.out | refine below_set ?_ GE159.out) | exact HB.out)) hb); have n4_ := Aside0.mk (hbox); have n5_ := Aside0.mk ((by rw [hg]; exact (below_size (by repeat (first | (with_reducible first | exact HB.out | apply below_alloc | apply pw_below_drewN | apply below_drew1 | refine below_set ?_ GE157.out | refine below_set ?_ GE158.out | refine below_set ?_ GE159.out) | exact HB.out))) : w.heap.size ≤ gb160)); have n6_ := Aside0.mk ((by rw [hg]; exact (below_size (by repeat (first | (with_reducible first | exact HB.out | apply below_alloc | apply pw_below_drewN | apply below_drew1 | refine below_set ?_ GE157.out | refine below_set ?_ GE158.out | refine below_set ?_ GE159.out) | exact HB.out))) : w.heap.size ≤ gb160)); have n7_ := Aside0.mk ((by rw [hg]; exact Nat.ne_of_lt (blk_lt (g := gb157) (o := .cells #[.int .i64 a0_0, .int .i64 a0_1] 23 (0, 0)) (by (with_reducible repeat (first | refine blk_drewN ?_ _ | refine blk_drew ?_ | refine blk_alloc ?_ _)); exact BK157.out)) : gb157 ≠ gb160)); have n8_ := Aside0.mk ((by rw [hg]; exact Nat.ne_of_gt (blk_lt (g := gb157) (o := .cells #[.int .i64 a0_0, .int .i64 a0_1] 23 (0, 0)) (by (with_reducible repeat (first | refine blk_drewN ?_ _ | refine blk_drew ?_ | refine blk_alloc ?_ _)); exact BK157.out)) : gb160 ≠ gb157)); have n9_ := Aside0.mk ((by rw [hg]; exact Nat.ne_of_lt (blk_lt (g := gb158) (o := .cells #[.int .i64 a1_0, .int .i64 a1_1] 23 (0, 0)) (by (with_reducible repeat (first | refine blk_drewN ?_ _ | refine blk_drew ?_ | refine blk_alloc ?_ _)); exact BK158.out)) : gb158 ≠ gb160)); have n10_ := Aside0.mk ((by rw [hg]; exact Nat.ne_of_gt (blk_lt (g := gb158) (o := .cells #[.int .i64 a1_0, .int .i64 a1_1] 23 (0, 0)) (by (with_reducible repeat (first | refine blk_drewN ?_ _ | refine blk_drew ?_ | refine blk_alloc ?_ _)); exact BK158.out)) : gb160 ≠ gb158)); have n11_ := Aside0.mk ((by rw [hg]; exact Nat.ne_of_lt (blk_lt (g := gb159) (o := .cells #[.int .i64 a2_0, .int .i64 a2_1] 23 (0, 0)) (by (with_reducible repeat (first | refine blk_drewN ?_ _ | refine blk_drew ?_ | refine blk_alloc ?_ _)); exact BK159.out)) : gb159 ≠ gb160)); have n12_ := Aside0.mk ((by rw [hg]; exact Nat.ne_of_gt (blk_lt (g := gb159) (o := .cells #[.int .i64 a2_0, .int .i64 a2_1] 23 (0, 0)) (by (with_reducible repeat (first | refine blk_drewN ?_ _ | refine blk_drew ?_ | refine blk_alloc ?_ _)); exact BK159.out)) : gb160 ≠ gb159)); clear BK157; clear BK158; clear BK159; clear HB; have BK157 := n0_; have BK158 := n1_; have BK159 := n2_; have HB := n3_; have BK160 := n4_; have GW160 := n5_; have GE160 := n6_; have NB157_160 := n7_; have NB160_157 := n8_; have NB158_160 := n9_; have NB160_158 := n10_; have NB159_160 := n11_; have NB160_159 := n12_; clear n0_ n1_ n2_ n3_ n4_ n5_ n6_ n7_ n8_ n9_ n10_ n11_ n12_; clear hb hbox hg; have hnb92 := NB157_158.out; have hnc92 := NB158_157.out; have hnb93 := NB157_159.out; have hnc93 := NB159_157.out; have hnb94 := NB157_160.out; have hnc94 := NB160_157.out; have hcz95_0 : w91.cell? ⟨gb157, 0, none⟩ = some (.int .i64 a0_0) := (blk_cell BK157.out 0).trans rfl; have hcz95_1 : w91.cell? ⟨gb157, 1, none⟩ = some (.int .i64 a0_1) := (blk_cell BK157.out 1).trans rfl; have hfz95_0 := blk_frozen BK157.out 0; have hfz95_1 := blk_frozen BK157.out 1; have hnb96 := NB158_159.out; have hnc96 := NB159_158.out; have hnb97 := NB158_160.out; have hnc97 := NB160_158.out; have hcz98_0 : w91.cell? ⟨gb158, 0, none⟩ = some (.int .i64 a1_0) := (blk_cell BK158.out 0).trans rfl; have hcz98_1 : w91.cell? ⟨gb158, 1, none⟩ = some (.int .i64 a1_1) := (blk_cell BK158.out 1).trans rfl; have hfz98_0 := blk_frozen BK158.out 0; have hfz98_1 := blk_frozen BK158.out 1; have hnb99 := NB159_160.out; have hnc99 := NB160_159.out; have hcz100_0 : w91.cell? ⟨gb159, 0, none⟩ = some (.int .i64 a2_0) := (blk_cell BK159.out 0).trans rfl; have hcz100_1 : w91.cell? ⟨gb159, 1, none⟩ = some (.int .i64 a2_1) := (blk_cell BK159.out 1).trans rfl; have hfz100_0 := blk_frozen BK159.out 0; have hfz100_1 := blk_frozen BK159.out 1; have hcz101_0 : w91.cell? ⟨gb160, 0, none⟩ = some (.int .i64 a3_0) := (blk_cell BK160.out 0).trans rfl; have hcz101_1 : w91.cell? ⟨gb160, 1, none⟩ = some (.int .i64 a3_1) := (blk_cell BK160.out 1).trans rfl; have hfz101_0 := blk_frozen BK160.out 0; have hfz101_1 := blk_frozen BK160.out 1) | ((with_reducible refine gate_dst (N := 17) rfl ?_); refine Kd.R_lit k23 _ 23 ?hg (N := 17) ?hd (xs := ([(⟨a0_0, a0_1⟩ : S23), (⟨a1_0, a1_1⟩ : S23), (⟨a2_0, a2_1⟩ : S23), (⟨a3_0, a3_1⟩ : S23)] : List (S23))) (inner := [.int .i64 a0_0, .int .i64 a0_1, .int .i64 a1_0, .int .i64 a1_1, .int .i64 a2_0, .int .i64 a2_1, .int .i64 a3_0, .int .i64 a3_1]) (ok := fun _ => True) (okp := fun _ => True) ?hr ?hp (fun _ hk => hk) trivial (Below.refl _ _) (Nat.le_refl _) (by simp) ?_; (case hd => rfl); (case hg => rfl); (case hr => first | (go_simp; done) | (go_simp; rfl)); (case hp => exact (Reps.c2 (show Kd.M k23 _ _ _ (⟨a0_0, a0_1⟩ : S23) [.int .i64 a0_0, .int .i64 a0_1] from (k23_mkM _ _ _ (⟨a0_0, a0_1⟩ : S23) )) (Reps.c2 (show Kd.M k23 _ _ _ (⟨a1_0, a1_1⟩ : S23) [.int .i64 a1_0, .int .i64 a1_1] from (k23_mkM _ _ _ (⟨a1_0, a1_1⟩ : S23) )) (Reps.c2 (show Kd.M k23 _ _ _ (⟨a2_0, a2_1⟩ : S23) [.int .i64 a2_0, .int .i64 a2_1] from (k23_mkM _ _ _ (⟨a2_0, a2_1⟩ : S23) )) (Reps.c2 (show Kd.M k23 _ _ _ (⟨a3_0, a3_1⟩ : S23) [.int .i64 a3_0, .int .i64 a3_1] from (k23_mkM _ _ _ (⟨a3_0, a3_1⟩ : S23) )) (Reps.none _ _)))))); intro v162 w102 ho103 hb hg_ hnew_; clear hg_ hnew_; (first | rw [← Ny161.out] at ho103 | (simp only [Int.reduceToNat] at ho103; rw [← Ny161.out] at ho103)); have n0_ := Aside0.mk (Kd.R_lower (Kd.R_newB (Kd.R_newB (Kd.R_newB (Kd.R_newB ho103 (g := gb157) (o := .cells #[.int .i64 a0_0, .int .i64 a0_1] 23 (0, 0)) (by (with_reducible repeat (first | refine blk_drewN ?_ _ | refine blk_drew ?_ | refine blk_alloc ?_ _)); exact BK157.out)) (g := gb158) (o := .cells #[.int .i64 a1_0, .int .i64 a1_1] 23 (0, 0)) (by (with_reducible repeat (first | refine blk_drewN ?_ _ | refine blk_drew ?_ | refine blk_alloc ?_ _)); exact BK158.out)) (g := gb159) (o := .cells #[.int .i64 a2_0, .int .i64 a2_1] 23 (0, 0)) (by (with_reducible repeat (first | refine blk_drewN ?_ _ | refine blk_drew ?_ | refine blk_alloc ?_ _)); exact BK159.out)) (g := gb160) (o := .cells #[.int .i64 a3_0, .int .i64 a3_1] 23 (0, 0)) (by (with_reducible repeat (first | refine blk_drewN ?_ _ | refine blk_drew ?_ | refine blk_alloc ?_ _)); exact BK160.out)) (below_size (by repeat (first | (with_reducible first | exact HB.out | apply below_alloc | apply pw_below_drewN | apply below_drew1 | refine below_set ?_ GE157.out | refine below_set ?_ GE158.out | refine below_set ?_ GE159.out | refine below_set ?_ GE160.out) | exact HB.out)))); have n1_ := Aside0.mk (blk_below (g := gb157) (o := .cells #[.int .i64 a0_0, .int .i64 a0_1] 23 (0, 0)) (by (with_reducible repeat (first | refine blk_drewN ?_ _ | refine blk_drew ?_ | refine blk_alloc ?_ _)); exact BK157.out) hb); have n2_ := Aside0.mk (blk_below (g := gb158) (o := .cells #[.int .i64 a1_0, .int .i64 a1_1] 23 (0, 0)) (by (with_reducible repeat (first | refine blk_drewN ?_ _ | refine blk_drew ?_ | refine blk_alloc ?_ _)); exact BK158.out) hb); have n3_ := Aside0.mk (blk_below (g := gb159) (o := .cells #[.int .i64 a2_0, .int .i64 a2_1] 23 (0, 0)) (by (with_reducible repeat (first | refine blk_drewN ?_ _ | refine blk_drew ?_ | refine blk_alloc ?_ _)); exact BK159.out) hb); have n4_ := Aside0.mk (blk_below (g := gb160) (o := .cells #[.int .i64 a3_0, .int .i64 a3_1] 23 (0, 0)) (by (with_reducible repeat (first | refine blk_drewN ?_ _ | refine blk_drew ?_ | refine blk_alloc ?_ _)); exact BK160.out) hb); have n5_ := Aside0.mk (below_step (by repeat (first | (with_reducible first | exact HB.out | apply below_alloc | apply pw_below_drewN | apply below_drew1 | refine below_set ?_ GE157.out | refine below_set ?_ GE158.out | refine below_set ?_ GE159.out | refine below_set ?_ GE160.out) | exact HB.out)) hb); clear BK157; clear BK158; clear BK159; clear BK160; clear HB; have HO163 := n0_; have BK157 := n1_; have BK158 := n2_; have BK159 := n3_; have BK160 := n4_; have HB := n5_; clear n0_ n1_ n2_ n3_ n4_ n5_; clear hb ho103; obtain ⟨Ao104, co104, eo104⟩ := Kd.R_slice HO163.out; subst eo104) | ((with_reducible refine gate_callee (f := 23) rfl ?_); refine goesL_ (some 18) rfl rfl Try.func23 (by kernel_rfl) rfl #[.slice Ao104 y161.length co104] rfl (by (try simp only [List.map_toArray, List.map_cons, List.map_nil]); first | done | rfl | (simp only [List.length_drop, List.length_take]; rfl)) ?_; (with_reducible refine (pred_can.calls k _ _ y161 false _ ?side1 ?side2 A5.out).mono ?_); (case side1 => repeat (first | exact (Kd.R_reads' HO163.out).2.2 | (with_reducible refine Kd.C_alloc ?_ _) | (with_reducible refine Kd.C_drewN ?_ _) | (with_reducible refine Kd.C_drew ?_))); (case side2 => exact (Kd.R_reads' HO163.out).2.1); rintro e w105 ⟨rfl, hb⟩; refine ⟨_, rfl, ?_⟩; have n0_ := Aside0.mk (Kd.R_below (by (with_reducible repeat (first | apply Kd.R_alloc | apply Kd.R_drewN | apply Kd.R_drew)); exact HO163.out) hb); have n1_ := Aside0.mk (blk_below (g := gb157) (o := .cells #[.int .i64 a0_0, .int .i64 a0_1] 23 (0, 0)) (by (with_reducible repeat (first | refine blk_drewN ?_ _ | refine blk_drew ?_ | refine blk_alloc ?_ _)); exact BK157.out) hb); have n2_ := Aside0.mk (blk_below (g := gb158) (o := .cells #[.int .i64 a1_0, .int .i64 a1_1] 23 (0, 0)) (by (with_reducible repeat (first | refine blk_drewN ?_ _ | refine blk_drew ?_ | refine blk_alloc ?_ _)); exact BK158.out) hb); have n3_ := Aside0.mk (blk_below (g := gb159) (o := .cells #[.int .i64 a2_0, .int .i64 a2_1] 23 (0, 0)) (by (with_reducible repeat (first | refine blk_drewN ?_ _ | refine blk_drew ?_ | refine blk_alloc ?_ _)); exact BK159.out) hb); have n4_ := Aside0.mk (blk_below (g := gb160) (o := .cells #[.int .i64 a3_0, .int .i64 a3_1] 23 (0, 0)) (by (with_reducible repeat (first | refine blk_drewN ?_ _ | refine blk_drew ?_ | refine blk_alloc ?_ _)); exact BK160.out) hb); have n5_ := Aside0.mk (below_step (by repeat (first | (with_reducible first | exact HB.out | apply below_alloc | apply pw_below_drewN | apply below_drew1 | refine below_set ?_ GE157.out | refine below_set ?_ GE158.out | refine below_set ?_ GE159.out | refine below_set ?_ GE160.out) | exact HB.out)) hb); clear HO163; clear BK157; clear BK158; clear BK159; clear BK160; clear HB; have HO163 := n0_; have BK157 := n1_; have BK158 := n2_; have BK159 := n3_; have BK160 := n4_; have HB := n5_; clear n0_ n1_ n2_ n3_ n4_ n5_; (try clear hb); (try clear hb2); (try clear hk); (try clear hi)))
  go_ret
  exact ⟨by first | rfl | (simp [errW_none, errW_some] <;> rfl) | (simp [*, errW_none, errW_some] <;> rfl), by repeat (first | (with_reducible first | exact HB.out | apply below_alloc | apply pw_below_drewN | apply below_drew1 | refine below_set ?_ GE157.out | refine below_set ?_ GE158.out | refine below_set ?_ GE159.out | refine below_set ?_ GE160.out) | exact HB.out)⟩
end Go.Proofs.Ytmeckkckjikjiaa.F
end
