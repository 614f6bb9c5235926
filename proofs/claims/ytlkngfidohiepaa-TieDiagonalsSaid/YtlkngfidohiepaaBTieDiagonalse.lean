/- TieDiagonals: own texts in one (part 5 of 5): contracts of the functions that the law reaches. -/
import Derived.Test.YtlkngfidohiepaaBTieDiagonalsd

section
namespace Go.Proofs.Ytlkngfidohiepaa.F
open Go.RowKit Go.Proofs.YtlkngfidohiepaaW.PrintWords Go.Proofs.YtlkngfidohiepaaW.PrintLast Go.Proofs.YtlkngfidohiepaaW.PrintMore
attribute [local go_sem] max2_int min2_int max_two min_two max_three min_three max_four min_four
set_option linter.unusedVariables false
set_option linter.unusedSimpArgs false
def zelligeref07_sign.f (a0 : Int) : Option (Int) := if a0 < 0 then (some (-1)) else (if a0 > 0 then (some 1) else (some 0))
set_option maxHeartbeats 8000000 in
set_option maxRecDepth 100000 in
theorem zelligeref07_sign.calls (a0 : Int) (r : Int) (w : World) (h : zelligeref07_sign.f a0 = some r) :
  Calls Try.prog 22 #[.int .i64 a0] w fun e w' => e = .returned (.int .i64 r) ∧ Drawn0 w w' := by
 have H : (if a0 < 0 then (some (-1)) else (if a0 > 0 then (some 1) else (some 0))) = some r := h
 clear h
 by_cases c2 : a0 < 0
 ·rw [if_pos c2] at H
  have c2b0 : decide (a0 < 0) = true := decide_eq_true c2
  clear c2
  obtain rfl := Option.some.inj H
  go_enter Try.func22, Try.ntmps22
  go_wp2
  go_ret
  exact ⟨by first | rfl | (simp; done) | (simp [*]; done), by repeat (first | exact Drawn0.refl _ | apply Drawn0.step)⟩
 ·rw [if_neg c2] at H
  have c2b0 : decide (a0 < 0) = false := decide_eq_false c2
  clear c2
  by_cases c3 : a0 > 0
  ·rw [if_pos c3] at H
   have c3b0 : decide (0 < a0) = true := decide_eq_true c3
   clear c3
   obtain rfl := Option.some.inj H
   go_enter Try.func22, Try.ntmps22
   go_wp2
   go_ret
   exact ⟨by first | rfl | (simp; done) | (simp [*]; done), by repeat (first | exact Drawn0.refl _ | apply Drawn0.step)⟩
  ·rw [if_neg c3] at H
   have c3b0 : decide (0 < a0) = false := decide_eq_false c3
   clear c3
   obtain rfl := Option.some.inj H
   go_enter Try.func22, Try.ntmps22
   go_wp2
   go_ret
   exact ⟨by first | rfl | (simp; done) | (simp [*]; done), by repeat (first | exact Drawn0.refl _ | apply Drawn0.step)⟩
end Go.Proofs.Ytlkngfidohiepaa.F
end
section
namespace Go.Proofs.Ytlkngfidohiepaa.F
end Go.Proofs.Ytlkngfidohiepaa.F
end
section
namespace Go.Proofs.Ytlkngfidohiepaa.Rf
open Go Go.RowKit Go.Proofs.YtlkngfidohiepaaW.PrintWords Go.Proofs.YtlkngfidohiepaaW.PrintLast Go.Proofs.YtlkngfidohiepaaW.PrintMore Go.Proofs.Ytlkngfidohiepaa.F Go.Proofs.Ytlkngfidohiepaa.Whole Go.Proofs.Ytlkngfidohiepaa.Reg Go.Proofs.Ytlkngfidohiepaa.Pm Go.Proofs.Ytlkngfidohiepaa.Pd Go.Proofs.Ytlkngfidohiepaa.Wd
set_option linter.unusedVariables false
set_option linter.unusedSimpArgs false
structure B4 (w : World) (a0 a1 b0 b1 c0 c1 d0 d1 : Int) (W : World) : Prop where
 mk :: (out : Below w.heap.size w W ∧ w.heap.size + 1 + 1 + 1 + 1 ≤ W.heap.size ∧ W.heap[w.heap.size]? = some (.cells #[.int .i64 a0, .int .i64 a1] 23 (0, 0)) ∧ W.heap[w.heap.size + 1]? = some (.cells #[.int .i64 b0, .int .i64 b1] 23 (0, 0)) ∧ W.heap[w.heap.size + 1 + 1]? = some (.cells #[.int .i64 c0, .int .i64 c1] 23 (0, 0)) ∧ W.heap[w.heap.size + 1 + 1 + 1]? = some (.cells #[.int .i64 d0, .int .i64 d1] 23 (0, 0)))
section
variable {w W W' : World} {a0 a1 b0 b1 c0 c1 d0 d1 : Int}
theorem B4.below (h : B4 w a0 a1 b0 b1 c0 c1 d0 d1 W) (hb : Below W.heap.size W W') : B4 w a0 a1 b0 b1 c0 c1 d0 d1 W' :=
 ⟨⟨below_step h.out.1 hb, Nat.le_trans h.out.2.1 hb.size, blk_below h.out.2.2.1 hb, blk_below h.out.2.2.2.1 hb, blk_below h.out.2.2.2.2.1 hb, blk_below h.out.2.2.2.2.2 hb⟩⟩
theorem B4.cells (h : B4 w a0 a1 b0 b1 c0 c1 d0 d1 W) : W.cell? ⟨w.heap.size, 0, none⟩ = some (.int .i64 a0) ∧ W.cell? ⟨w.heap.size, 1, none⟩ = some (.int .i64 a1) ∧ W.cell? ⟨w.heap.size + 1, 0, none⟩ = some (.int .i64 b0) ∧ W.cell? ⟨w.heap.size + 1, 1, none⟩ = some (.int .i64 b1) ∧ W.cell? ⟨w.heap.size + 1 + 1, 0, none⟩ = some (.int .i64 c0) ∧ W.cell? ⟨w.heap.size + 1 + 1, 1, none⟩ = some (.int .i64 c1) ∧ W.cell? ⟨w.heap.size + 1 + 1 + 1, 0, none⟩ = some (.int .i64 d0) ∧ W.cell? ⟨w.heap.size + 1 + 1 + 1, 1, none⟩ = some (.int .i64 d1) :=
 ⟨(blk_cell h.out.2.2.1 0).trans rfl, (blk_cell h.out.2.2.1 1).trans rfl, (blk_cell h.out.2.2.2.1 0).trans rfl, (blk_cell h.out.2.2.2.1 1).trans rfl, (blk_cell h.out.2.2.2.2.1 0).trans rfl, (blk_cell h.out.2.2.2.2.1 1).trans rfl, (blk_cell h.out.2.2.2.2.2 0).trans rfl, (blk_cell h.out.2.2.2.2.2 1).trans rfl⟩
end
def inc3.T : Bool × List (List Nat × List Nat) := (true, [([], []), ([0], [0]), ([], []), ([2], [2]), ([1, 3], [1, 3]), ([], []), ([5], [5]), ([], []), ([7], [7]), ([6, 8, 4], [6, 8]), ([], []), ([10], [10]), ([], []), ([12], [12]), ([11, 13, 9], [11, 13]), ([], []), ([15], [15]), ([], []), ([17], [17]), ([16, 18, 14], [16, 18]), ([], []), ([20], [20]), ([], []), ([22], [22]), ([21, 23, 19], [21, 23]), ([], []), ([25], [25]), ([], []), ([27], [27]), ([26, 28, 24], [26, 28]), ([], []), ([], []), ([], []), ([], []), ([], []), ([], []), ([30, 4, 29, 0, 1, 2, 3, 4, 30, 31, 32, 33, 34, 35], [4, 30]), ([31, 9, 36, 0, 1, 2, 3, 4, 5, 6, 7, 8, 9, 30, 31, 32, 33, 34, 35, 36], [9, 31]), ([32, 14, 37, 0, 1, 2, 3, 4, 5, 6, 7, 8, 9, 10, 11, 12, 13, 14, 30, 31, 32, 33, 34, 35, 36, 37], [14, 32]), ([33, 19, 38, 0, 1, 2, 3, 4, 5, 6, 7, 8, 9, 10, 11, 12, 13, 14, 15, 16, 17, 18, 19, 30, 31, 32, 33, 34, 35, 36, 37, 38], [19, 33]), ([34, 24, 39, 0, 1, 2, 3, 4, 5, 6, 7, 8, 9, 10, 11, 12, 13, 14, 15, 16, 17, 18, 19, 20, 21, 22, 23, 24, 30, 31, 32, 33, 34, 35, 36, 37, 38, 39], [24, 34]), ([35, 29, 40, 0, 1, 2, 3, 4, 5, 6, 7, 8, 9, 10, 11, 12, 13, 14, 15, 16, 17, 18, 19, 20, 21, 22, 23, 24, 25, 26, 27, 28, 29, 30, 31, 32, 33, 34, 35, 36, 37, 38, 39, 40], [29, 35])])
def inc3.B : List Nat := [0, 1, 0, 4, 15, 0, 32, 0, 128, 511, 0, 1024, 0, 4096, 16383, 0, 32768, 0, 131072, 524287, 0, 1048576, 0, 4194304, 16777215, 0, 33554432, 0, 134217728, 536870911, 0, 0, 0, 0, 0, 0, 68719476735, 137438953471, 274877906943, 549755813887, 1099511627775, 2199023255551]
theorem inc3.tab : rtab .any (opsOf Try.f19 3) = inc3.T := by kernel_rfl
theorem inc3.bits : waitsOk inc3.T.2 inc3.B = true := by kernel_rfl
def inc4.T : Bool × List (List Nat × List Nat) := (true, [([], []), ([], []), ([0, 1], [0, 1]), ([], []), ([], []), ([3, 4, 2], [3, 4]), ([], []), ([], []), ([6, 7, 5], [6, 7]), ([5, 8, 8], [5, 8]), ([2, 9, 9], [2, 9]), ([], []), ([11, 10, 10, 0, 1, 2, 3, 4, 5, 6, 7, 8, 9, 10, 11], [10, 11])])
def inc4.B : List Nat := [0, 0, 3, 0, 0, 31, 0, 0, 255, 511, 1023, 0, 4095]
theorem inc4.tab : rtab .any (opsOf Try.f19 4) = inc4.T := by kernel_rfl
theorem inc4.bits : waitsOk inc4.T.2 inc4.B = true := by kernel_rfl
def inc5.T : Bool × List (List Nat × List Nat) := (true, [([], []), ([], []), ([], []), ([1, 2], [1, 2]), ([], []), ([], []), ([4, 5, 3], [4, 5]), ([], []), ([], []), ([7, 8, 6], [7, 8]), ([6, 9, 9], [6, 9]), ([3, 10, 10], [3, 10]), ([0, 11, 11], [0, 11]), ([12, 12, 0, 1, 2, 3, 4, 5, 6, 7, 8, 9, 10, 11, 12], [12])])
def inc5.B : List Nat := [0, 0, 0, 6, 0, 0, 62, 0, 0, 510, 1022, 2046, 4095, 8191]
theorem inc5.tab : rtab .any (opsOf Try.f19 5) = inc5.T := by kernel_rfl
theorem inc5.bits : waitsOk inc5.T.2 inc5.B = true := by kernel_rfl
def inc6.T : Bool × List (List Nat × List Nat) := (true, [([], []), ([], []), ([], []), ([1, 2], [1, 2]), ([], []), ([], []), ([4, 5, 3], [4, 5]), ([], []), ([], []), ([7, 8, 6], [7, 8]), ([6, 9, 9], [6, 9]), ([3, 10, 10], [3, 10]), ([0, 11, 11], [0, 11]), ([12, 12, 0, 1, 2, 3, 4, 5, 6, 7, 8, 9, 10, 11, 12], [12])])
def inc6.B : List Nat := [0, 0, 0, 6, 0, 0, 62, 0, 0, 510, 1022, 2046, 4095, 8191]
theorem inc6.tab : rtab .any (opsOf Try.f19 6) = inc6.T := by kernel_rfl
theorem inc6.bits : waitsOk inc6.T.2 inc6.B = true := by kernel_rfl
end Go.Proofs.Ytlkngfidohiepaa.Rf
end
section
namespace Go.Proofs.Ytlkngfidohiepaa.Rf
open Go Go.RowKit Go.Proofs.YtlkngfidohiepaaW.PrintWords Go.Proofs.Ytlkngfidohiepaa.F Go.Proofs.Ytlkngfidohiepaa.Wd Go.Proofs.Ytlkngfidohiepaa.Pm Go.Proofs.Ytlkngfidohiepaa.Pd
set_option linter.unusedVariables false
theorem sign_p (n : Int) : zelligeref07_sign.f n = some n.sign := by
 unfold zelligeref07_sign.f
 rcases sign_cases n with ⟨h, e⟩ | ⟨h, e⟩ | ⟨h, e⟩
 ·rw [if_pos h, e]
 ·rw [if_neg (by omega), if_neg (by omega), e]
 ·rw [if_neg (by omega), if_pos h, e]
theorem near_p {a0 a1 b0 b1 : Int} (ha : CoP a0 a1) (hb : CoP b0 b1) : ∃ m, zelligeref07_near.f a0 a1 b0 b1 = some m ∧ (m = true → Am (b0 - a0) 8191 ∧ Am (b1 - a1) 8191) := by
 unfold CoP Co at *
 unfold zelligeref07_near.f
 rw [p64 (x := b0 - a0) (by omega), p64 (x := b1 - a1) (by omega)]
 by_cases h1 : b0 - a0 > -8192
 ·rw [if_pos h1]
  by_cases h2 : b0 - a0 < 8192
  ·rw [if_pos h2]
   by_cases h3 : b1 - a1 > -8192
   ·rw [if_pos h3]
    exact ⟨_, rfl, fun h => ⟨Am.of (by omega), Am.of (by have := of_decide_eq_true h; omega)⟩⟩
   ·rw [if_neg h3]; exact ⟨_, rfl, fun h => by cases h⟩
  ·rw [if_neg h2]; exact ⟨_, rfl, fun h => by cases h⟩
 ·rw [if_neg h1]; exact ⟨_, rfl, fun h => by cases h⟩
theorem am64 {n : Int} {B : Nat} (h : Am n B) (hB : B ≤ 9223372036854775807) : wrap64 n = n := p64 (by have := h.le; omega)
theorem cr_am {x y z t : Int} (h : Am x 8191) (h' : Am y 8191) (hz : Am z 8191) (ht : Am t 8191) : Am (x * t) 67092481 ∧ Am (y * z) 67092481 ∧ Am (x * t - y * z) 134184962 := ⟨(Am.mul h ht).mono (by omega), (Am.mul h' hz).mono (by omega), ((Am.mul h ht).sub (Am.mul h' hz)).mono (by omega)⟩
end Go.Proofs.Ytlkngfidohiepaa.Rf
end
section
namespace Go.Proofs.Ytlkngfidohiepaa.F
end Go.Proofs.Ytlkngfidohiepaa.F
end
section
namespace Go.Proofs.Ytlkngfidohiepaa.Rf
open Go Go.RowKit Go.Proofs.YtlkngfidohiepaaW.PrintWords Go.Proofs.YtlkngfidohiepaaW.PrintLast Go.Proofs.YtlkngfidohiepaaW.PrintMore Go.Proofs.Ytlkngfidohiepaa.F Go.Proofs.Ytlkngfidohiepaa.Whole Go.Proofs.Ytlkngfidohiepaa.Pm Go.Proofs.Ytlkngfidohiepaa.Pd Go.Proofs.Ytlkngfidohiepaa.Wd
set_option linter.unusedVariables false
set_option linter.unusedSimpArgs false
theorem field_s (q : Int) (v : Value) (W : World) : (Instr.field 42 (.agg #[.int .i64 q, v]) 0).run Try.prog W = .ok (.int .i64 q) W := by kernel_rfl
structure B3 (w : World) (a0 a1 b0 b1 c0 c1 : Int) (W : World) : Prop where
 mk :: (out : Below w.heap.size w W ∧ W.heap[w.heap.size]? = some (.cells #[.int .i64 a0, .int .i64 a1] 23 (0, 0)) ∧ W.heap[w.heap.size + 1]? = some (.cells #[.int .i64 b0, .int .i64 b1] 23 (0, 0)) ∧ W.heap[w.heap.size + 1 + 1]? = some (.cells #[.int .i64 c0, .int .i64 c1] 23 (0, 0)))
section
variable {w W W' : World} {a0 a1 b0 b1 c0 c1 : Int}
theorem B3.below (h : B3 w a0 a1 b0 b1 c0 c1 W) (hb : Below W.heap.size W W') : B3 w a0 a1 b0 b1 c0 c1 W' :=
 ⟨⟨below_step h.out.1 hb, blk_below h.out.2.1 hb, blk_below h.out.2.2.1 hb, blk_below h.out.2.2.2 hb⟩⟩
theorem B3.cells (h : B3 w a0 a1 b0 b1 c0 c1 W) : W.cell? ⟨w.heap.size, 0, none⟩ = some (.int .i64 a0) ∧ W.cell? ⟨w.heap.size, 1, none⟩ = some (.int .i64 a1) ∧ W.cell? ⟨w.heap.size + 1, 0, none⟩ = some (.int .i64 b0) ∧ W.cell? ⟨w.heap.size + 1, 1, none⟩ = some (.int .i64 b1) ∧ W.cell? ⟨w.heap.size + 1 + 1, 0, none⟩ = some (.int .i64 c0) ∧ W.cell? ⟨w.heap.size + 1 + 1, 1, none⟩ = some (.int .i64 c1) :=
 ⟨(blk_cell h.out.2.1 0).trans rfl, (blk_cell h.out.2.1 1).trans rfl, (blk_cell h.out.2.2.1 0).trans rfl, (blk_cell h.out.2.2.1 1).trans rfl, (blk_cell h.out.2.2.2 0).trans rfl, (blk_cell h.out.2.2.2 1).trans rfl⟩
end
set_option maxHeartbeats 8000000 in
set_option maxRecDepth 100000 in
theorem orient_near {a0 a1 b0 b1 c0 c1 : Int} (ha : CoP a0 a1) (hb : CoP b0 b1) (hc : CoP c0 c1) (Nb : Aside0 (zelligeref07_near.f a0 a1 b0 b1 = some true)) (Nc : Aside0 (zelligeref07_near.f a0 a1 c0 c1 = some true))
  (q : Int) (SG : Aside0 (zelligeref07_sign.f (wrap64 (wrap64 (wrap64 (b0 - a0) * wrap64 (c1 - a1)) - wrap64 (wrap64 (b1 - a1) * wrap64 (c0 - a0)))) = some q)) (w : World) :
  Calls Try.prog 12 #[.agg #[.int .i64 a0, .int .i64 a1], .agg #[.int .i64 b0, .int .i64 b1], .agg #[.int .i64 c0, .int .i64 c1]] w fun e w' => e = .returned (.int .i64 q) ∧ Below w.heap.size w w' := by
 have AH := Aside0.mk (And.intro ha (And.intro hb hc))
 clear ha hb hc
 go_enter Try.func12, Try.ntmps12
 go_upto_region 1 with fail
 obtain ⟨n0, n1, n2, bw, nw⟩ := Whole.three_new w (.cells #[.int .i64 a0, .int .i64 a1] 23) (.cells #[.int .i64 b0, .int .i64 b1] 23) (.cells #[.int .i64 c0, .int .i64 c1] 23)
 generalize (((w.alloc (.cells #[.int .i64 a0, .int .i64 a1] 23)).alloc (.cells #[.int .i64 b0, .int .i64 b1] 23)).alloc (.cells #[.int .i64 c0, .int .i64 c1] 23)) = W at n0 n1 n2 bw nw ⊢
 have S := Aside0.mk (B3.mk ⟨bw, n0, n1, n2⟩)
 clear n0 n1 n2 bw nw
 obtain ⟨k0, k1, k2, k3, k4, k5⟩ := S.out.cells
 go_wp2_with (first | (first | (with_reducible go_at_call 21; with_reducible refine (zelligeref07_near.calls a0 a1 b0 b1 _ _ Nb.out).mono ?_; rintro e v1 ⟨rfl, hb⟩; have S := Aside0.mk (S.out.below hb); clear hb k0 k1 k2 k3 k4 k5; obtain ⟨k0, k1, k2, k3, k4, k5⟩ := S.out.cells) | (with_reducible go_at_call 21; with_reducible refine (zelligeref07_near.calls a0 a1 c0 c1 _ _ Nc.out).mono ?_; rintro e v1 ⟨rfl, hb⟩; have S := Aside0.mk (S.out.below hb); clear hb k0 k1 k2 k3 k4 k5; obtain ⟨k0, k1, k2, k3, k4, k5⟩ := S.out.cells)) | (with_reducible go_at_call 22; with_reducible refine (zelligeref07_sign.calls _ _ _ SG.out).mono ?_; rintro e v1 ⟨rfl, hb⟩; have S := Aside0.mk (S.out.below hb.below); clear hb k0 k1 k2 k3 k4 k5; obtain ⟨k0, k1, k2, k3, k4, k5⟩ := S.out.cells))
 go_ret
 exact ⟨rfl, S.out.out.1⟩
set_option maxHeartbeats 8000000 in
set_option maxRecDepth 100000 in
theorem orient_far {a0 a1 b0 b1 c0 c1 : Int} (ha : CoP a0 a1) (hb : CoP b0 b1) (hc : CoP c0 c1) (m1 m2 : Bool) (hm : m1 = true → m2 = true → False) (Nb : Aside0 (zelligeref07_near.f a0 a1 b0 b1 = some m1)) (Nc : Aside0 (zelligeref07_near.f a0 a1 c0 c1 = some m2))
  (q : Int) (hq : Aside0 ((ar a0 a1 b0 b1 c0 c1).sign = q)) (w : World) :
  Calls Try.prog 12 #[.agg #[.int .i64 a0, .int .i64 a1], .agg #[.int .i64 b0, .int .i64 b1], .agg #[.int .i64 c0, .int .i64 c1]] w fun e w' => e = .returned (.int .i64 q) ∧ Below w.heap.size w w' := by
 have AH := Aside0.mk (And.intro ha (And.intro hb hc))
 clear ha hb hc
 go_enter Try.func12, Try.ntmps12
 go_upto_region 1 with fail
 obtain ⟨n0, n1, n2, bw, nw⟩ := Whole.three_new w (.cells #[.int .i64 a0, .int .i64 a1] 23) (.cells #[.int .i64 b0, .int .i64 b1] 23) (.cells #[.int .i64 c0, .int .i64 c1] 23)
 generalize (((w.alloc (.cells #[.int .i64 a0, .int .i64 a1] 23)).alloc (.cells #[.int .i64 b0, .int .i64 b1] 23)).alloc (.cells #[.int .i64 c0, .int .i64 c1] 23)) = W at n0 n1 n2 bw nw ⊢
 have S := Aside0.mk (B3.mk ⟨bw, n0, n1, n2⟩)
 clear n0 n1 n2 bw nw
 obtain ⟨k0, k1, k2, k3, k4, k5⟩ := S.out.cells
 cases m1
 ·go_upto_region 3 with (first | (with_reducible go_at_call 21; with_reducible refine (zelligeref07_near.calls a0 a1 b0 b1 _ _ Nb.out).mono ?_; rintro e v1 ⟨rfl, hb⟩; have S := Aside0.mk (S.out.below hb); clear hb k0 k1 k2 k3 k4 k5; obtain ⟨k0, k1, k2, k3, k4, k5⟩ := S.out.cells) | (with_reducible go_at_call 21; with_reducible refine (zelligeref07_near.calls a0 a1 c0 c1 _ _ Nc.out).mono ?_; rintro e v1 ⟨rfl, hb⟩; have S := Aside0.mk (S.out.below hb); clear hb k0 k1 k2 k3 k4 k5; obtain ⟨k0, k1, k2, k3, k4, k5⟩ := S.out.cells))
  clear k0 k1 k2 k3 k4 k5 Nb Nc hm
  have n0 := S.out.out.2.1; have n1 := S.out.out.2.2.1; have n2 := S.out.out.2.2.2
  obtain ⟨k0, k1, k2, k3, k4, k5⟩ := S.out.cells
  go_wp2_with fail
  obtain ⟨ha, hb, hc⟩ := AH.out
  refine (area_c ha hb hc _).mono ?_
  rintro e w1 ⟨v, rfl, hN, hb⟩
  obtain ⟨A1, l1, c1', rfl, _⟩ := hN
  rw [hq.out]
  have S := Aside0.mk (S.out.below hb)
  clear hb
  have hf := field_s q (.slice A1 l1 c1')
  go_wp2
  go_ret
  exact ⟨rfl, S.out.out.1⟩
 cases m2
 ·go_upto_region 3 with (first | (with_reducible go_at_call 21; with_reducible refine (zelligeref07_near.calls a0 a1 b0 b1 _ _ Nb.out).mono ?_; rintro e v1 ⟨rfl, hb⟩; have S := Aside0.mk (S.out.below hb); clear hb k0 k1 k2 k3 k4 k5; obtain ⟨k0, k1, k2, k3, k4, k5⟩ := S.out.cells) | (with_reducible go_at_call 21; with_reducible refine (zelligeref07_near.calls a0 a1 c0 c1 _ _ Nc.out).mono ?_; rintro e v1 ⟨rfl, hb⟩; have S := Aside0.mk (S.out.below hb); clear hb k0 k1 k2 k3 k4 k5; obtain ⟨k0, k1, k2, k3, k4, k5⟩ := S.out.cells))
  clear k0 k1 k2 k3 k4 k5 Nb Nc hm
  obtain ⟨k0, k1, k2, k3, k4, k5⟩ := S.out.cells
  go_wp2_with fail
  obtain ⟨ha, hb, hc⟩ := AH.out
  refine (area_c ha hb hc _).mono ?_
  rintro e w1 ⟨v, rfl, hN, hb⟩
  obtain ⟨A1, l1, c1', rfl, _⟩ := hN
  rw [hq.out]
  have S := Aside0.mk (S.out.below hb)
  clear hb
  have hf := field_s q (.slice A1 l1 c1')
  go_wp2
  go_ret
  exact ⟨rfl, S.out.out.1⟩
 exact (hm rfl rfl).elim
end Go.Proofs.Ytlkngfidohiepaa.Rf
namespace Go.Proofs.Ytlkngfidohiepaa.F
open Go Go.RowKit Go.Proofs.YtlkngfidohiepaaW.PrintWords Go.Proofs.Ytlkngfidohiepaa.Pm Go.Proofs.Ytlkngfidohiepaa.Pd Go.Proofs.Ytlkngfidohiepaa.Rf
def zelligeref07_Orient.f (a0_0 a0_1 a1_0 a1_1 a2_0 a2_1 : Int) : Option Int := if CoP a0_0 a0_1 ∧ CoP a1_0 a1_1 ∧ CoP a2_0 a2_1 then some (ar a0_0 a0_1 a1_0 a1_1 a2_0 a2_1).sign else none
theorem zelligeref07_Orient.calls (a0_0 a0_1 a1_0 a1_1 a2_0 a2_1 : Int) (r : Int) (w : World) (h : zelligeref07_Orient.f a0_0 a0_1 a1_0 a1_1 a2_0 a2_1 = some r) :
  Calls Try.prog 12 #[.agg #[.int .i64 a0_0, .int .i64 a0_1], .agg #[.int .i64 a1_0, .int .i64 a1_1], .agg #[.int .i64 a2_0, .int .i64 a2_1]] w fun e w' => e = .returned (.int .i64 r) ∧ Below w.heap.size w w' := by
 unfold zelligeref07_Orient.f at h
 by_cases hh : CoP a0_0 a0_1 ∧ CoP a1_0 a1_1 ∧ CoP a2_0 a2_1
 ·rw [if_pos hh] at h
  obtain rfl := Option.some.inj h
  obtain ⟨ha, hb, hc⟩ := hh
  obtain ⟨m1, e1, g1⟩ := near_p ha hb
  obtain ⟨m2, e2, g2⟩ := near_p ha hc
  by_cases hm : m1 = true ∧ m2 = true
  ·obtain ⟨rfl, rfl⟩ := hm
   have u := g1 rfl; have v := g2 rfl
   have P := cr_am u.1 u.2 v.1 v.2
   refine orient_near ha hb hc ⟨e1⟩ ⟨e2⟩ _ ⟨?_⟩ w
   rw [am64 u.1 (by omega), am64 u.2 (by omega), am64 v.1 (by omega), am64 v.2 (by omega), am64 P.1 (by omega), am64 P.2.1 (by omega), am64 P.2.2 (by omega), sign_p]
   rfl
  ·exact orient_far ha hb hc m1 m2 (fun x y => hm ⟨x, y⟩) ⟨e1⟩ ⟨e2⟩ _ ⟨rfl⟩ w
 ·rw [if_neg hh] at h
  cases h
end Go.Proofs.Ytlkngfidohiepaa.F
end
section
namespace Go.Proofs.Ytlkngfidohiepaa.F
end Go.Proofs.Ytlkngfidohiepaa.F
end
section
namespace Go.Proofs.Ytlkngfidohiepaa.Tl
open Go Go.RowKit Go.Proofs.YtlkngfidohiepaaW.PrintWords Go.Proofs.Ytlkngfidohiepaa.F Go.Proofs.Ytlkngfidohiepaa.Wd Go.Proofs.Ytlkngfidohiepaa.Pm Go.Proofs.Ytlkngfidohiepaa.Pd Go.Proofs.Ytlkngfidohiepaa.Tm
set_option linter.unusedVariables false
set_option linter.unusedSimpArgs false
theorem rc_f {a b : Int} (h : I64 a ∧ I64 b) : zelligeref06_Can.f a b = some (decide (CoP a b)) := by
 unfold zelligeref06_Can.f
 rw [if_pos h]
theorem rc4_f {a0 a1 b0 b1 c0 c1 d0 d1 : Int} (ha : I64 a0 ∧ I64 a1) (hb : I64 b0 ∧ I64 b1) (hc : I64 c0 ∧ I64 c1) (hd : I64 d0 ∧ I64 d1) : zelligeref08_Can.f a0 a1 b0 b1 c0 c1 d0 d1 = some (decide (CoP a0 a1 ∧ CoP b0 b1 ∧ CoP c0 c1 ∧ CoP d0 d1)) := by
 unfold zelligeref08_Can.f
 rw [rc_f ha, rc_f hb, rc_f hc, rc_f hd, Option.bind_some, Option.bind_some, Option.bind_some, Option.bind_some]
 by_cases h1 : CoP a0 a1
 ·rw [if_pos (decide_eq_true h1)]
  by_cases h2 : CoP b0 b1
  ·rw [if_pos (decide_eq_true h2)]
   by_cases h3 : CoP c0 c1
   ·rw [if_pos (decide_eq_true h3)]
    congr 1
    rw [decide_eq_decide]
    exact ⟨fun q => ⟨h1, h2, h3, q⟩, fun q => q.2.2.2⟩
   ·rw [if_neg (by rw [decide_eq_true_eq]; exact h3), decide_eq_false (fun q => h3 q.2.2.1)]
  ·rw [if_neg (by rw [decide_eq_true_eq]; exact h2), decide_eq_false (fun q => h2 q.2.1)]
 ·rw [if_neg (by rw [decide_eq_true_eq]; exact h1), decide_eq_false (fun q => h1 q.1)]
theorem ro_f {a0 a1 b0 b1 c0 c1 : Int} (ha : CoP a0 a1) (hb : CoP b0 b1) (hc : CoP c0 c1) : zelligeref07_Orient.f a0 a1 b0 b1 c0 c1 = some (ar a0 a1 b0 b1 c0 c1).sign := by
 unfold zelligeref07_Orient.f
 rw [if_pos ⟨ha, hb, hc⟩]
theorem co_does {a0 a1 b0 b1 c0 c1 d0 d1 : Int} (ha : CoP a0 a1) (hb : CoP b0 b1) (hc : CoP c0 c1) (hd : CoP d0 d1) (g : 0 < ar a0 a1 b0 b1 c0 c1) (n1 : ¬ (d0 = a0 ∧ d1 = a1)) (n2 : ¬ (d0 = b0 ∧ d1 = b1)) (n3 : ¬ (d0 = c0 ∧ d1 = c1)) :
  coS a0 a1 b0 b1 c0 c1 d0 d1 = decide (does a0 a1 b0 b1 c0 c1 d0 d1) := by
 unfold coS tieS
 rw [decide_eq_true hd, Bool.true_and, decide_eq_decide]
 exact ⟨fun q => q.2.2.2.2.2, fun q => ⟨⟨ha, hb, hc⟩, g, n1, n2, n3, q⟩⟩
theorem i64_of {n : Int} (h : (Lit.int .i64 n).wf = true) : I64 n := by have := bounds_i64 h; omega
end Go.Proofs.Ytlkngfidohiepaa.Tl
end
section
namespace Go.Proofs.Ytlkngfidohiepaa.F
open Go.RowKit Go.Proofs.YtlkngfidohiepaaW.PrintWords Go.Proofs.YtlkngfidohiepaaW.PrintLast Go.Proofs.YtlkngfidohiepaaW.PrintMore
attribute [local go_sem] max2_int min2_int max_two min_two max_three min_three max_four min_four
set_option linter.unusedVariables false
set_option linter.unusedSimpArgs false
def zelligelaw08_TieDiagonals.j0 : Nat → Bool → Int → Int → Int → Int → Int → Int → Int → Int → Option (Bool)
 | 0, _, _, _, _, _, _, _, _, _ => none
 | k + 1, x48, x553000, x553001, x554000, x554001, x555000, x555001, x556000, x556001 => if x48 = true then ((zelligelaw08_lives.f k).bind fun t561 => (some t561)) else ((tie_Conflict.f k x554000 x554001 x555000 x555001 x556000 x556001 x553000 x553001).bind fun t562 => ((tie_Conflict.f k x556000 x556001 x553000 x553001 x554000 x554001 x555000 x555001).bind fun t563 => (if (t563 == t562) = true then ((tie_Conflict.f k x555000 x555001 x556000 x556001 x553000 x553001 x554000 x554001).bind fun t564 => (if (t564 == (!t562)) = true then ((tie_Conflict.f k x553000 x553001 x554000 x554001 x555000 x555001 x556000 x556001).bind fun t565 => (if (t565 == (!t562)) = true then ((zelligelaw08_lives.f k).bind fun t566 => (some t566)) else (some false))) else (some false))) else (some false))))
def zelligelaw08_TieDiagonals.f (k : Nat) (a0_0 : Int) (a0_1 : Int) (a0_2 : Int) (a0_3 : Int) (a0_4 : Int) (a0_5 : Int) (a1_0 : Int) (a1_1 : Int) : Option (Bool) := (zelligeref08_Can.f a0_0 a0_1 a0_2 a0_3 a0_4 a0_5 a1_0 a1_1).bind fun t556 => (if t556 = true then ((zelligeref07_Orient.f a0_0 a0_1 a0_2 a0_3 a0_4 a0_5).bind fun t557 => (if t557 = 1 then ((zelligeref07_Orient.f a0_2 a0_3 a0_4 a0_5 a1_0 a1_1).bind fun t558 => (if t558 = 1 then ((zelligeref07_Orient.f a0_4 a0_5 a1_0 a1_1 a0_0 a0_1).bind fun t559 => (if t559 = 1 then ((zelligeref07_Orient.f a1_0 a1_1 a0_0 a0_1 a0_2 a0_3).bind fun t560 => (zelligelaw08_TieDiagonals.j0 k (t560 != 1) a1_0 a1_1 a0_0 a0_1 a0_2 a0_3 a0_4 a0_5)) else (zelligelaw08_TieDiagonals.j0 k true a1_0 a1_1 a0_0 a0_1 a0_2 a0_3 a0_4 a0_5))) else (zelligelaw08_TieDiagonals.j0 k true a1_0 a1_1 a0_0 a0_1 a0_2 a0_3 a0_4 a0_5))) else (zelligelaw08_TieDiagonals.j0 k true a1_0 a1_1 a0_0 a0_1 a0_2 a0_3 a0_4 a0_5))) else (zelligelaw08_TieDiagonals.j0 k true a1_0 a1_1 a0_0 a0_1 a0_2 a0_3 a0_4 a0_5))
theorem zelligelaw08_TieDiagonals.mono_l : ∀ k, (∀ y0 y1 y2 y3 y4 y5 y6 y7 y8, LeO (zelligelaw08_TieDiagonals.j0 k y0 y1 y2 y3 y4 y5 y6 y7 y8) (zelligelaw08_TieDiagonals.j0 (k + 1) y0 y1 y2 y3 y4 y5 y6 y7 y8))
 | 0 => fun _ _ _ _ _ _ _ _ _ r h => by simp [zelligelaw08_TieDiagonals.j0] at h
 | k + 1 => by
  have ih0 := zelligelaw08_TieDiagonals.mono_l k
  ·intro y0 y1 y2 y3 y4 y5 y6 y7 y8
   unfold zelligelaw08_TieDiagonals.j0
   repeat' first
   | (with_reducible exact ih0 _ _ _ _ _ _ _ _ _)
   | (with_reducible exact tie_Conflict.mono _ _ _ _ _ _ _ _ _)
   | (with_reducible exact zelligelaw08_lives.mono _)
   | (with_reducible exact LeO.refl _)
   | (with_reducible exact LeO.none _)
   | (with_reducible refine LeO.ite ?_ ?_)
   | (with_reducible refine LeO.bind ?_ (fun _ => ?_))
   | exact ih0 _ _ _ _ _ _ _ _ _
   | exact tie_Conflict.mono _ _ _ _ _ _ _ _ _
   | exact zelligelaw08_lives.mono _
   | exact LeO.none _
   | refine LeO.ite ?_ ?_
   | refine LeO.bind ?_ (fun _ => ?_)
theorem zelligelaw08_TieDiagonals.mono : ∀ a0 a1 a2 a3 a4 a5 a6 a7 k, LeO (zelligelaw08_TieDiagonals.f k a0 a1 a2 a3 a4 a5 a6 a7) (zelligelaw08_TieDiagonals.f (k + 1) a0 a1 a2 a3 a4 a5 a6 a7) := by
 intro a0 a1 a2 a3 a4 a5 a6 a7 k
 have ih0 := zelligelaw08_TieDiagonals.mono_l k
 unfold zelligelaw08_TieDiagonals.f
 repeat' first
   | (with_reducible exact ih0 _ _ _ _ _ _ _ _ _)
   | (with_reducible exact tie_Conflict.mono _ _ _ _ _ _ _ _ _)
   | (with_reducible exact zelligelaw08_lives.mono _)
   | (with_reducible exact LeO.refl _)
   | (with_reducible exact LeO.none _)
   | (with_reducible refine LeO.ite ?_ ?_)
   | (with_reducible refine LeO.bind ?_ (fun _ => ?_))
   | exact ih0 _ _ _ _ _ _ _ _ _
   | exact tie_Conflict.mono _ _ _ _ _ _ _ _ _
   | exact zelligelaw08_lives.mono _
   | exact LeO.none _
   | refine LeO.ite ?_ ?_
   | refine LeO.bind ?_ (fun _ => ?_)
def zelligelaw08_TieDiagonals.T1 : Bool × List (List Nat × List Nat) := (true, [([], []), ([0], [0]), ([], []), ([2], [2]), ([], []), ([4], [4]), ([], []), ([], []), ([], []), ([6, 1, 0, 1, 6, 7, 8], [1, 6]), ([7, 3, 9, 0, 1, 2, 3, 6, 7, 8, 9], [3, 7]), ([8, 5, 10, 0, 1, 2, 3, 4, 5, 6, 7, 8, 9, 10], [5, 8])])
def zelligelaw08_TieDiagonals.B1 : List Nat := [0, 1, 0, 4, 0, 16, 0, 0, 0, 451, 975, 2047]
theorem zelligelaw08_TieDiagonals.tab1 : rtab .any (opsOf Try.f5 1) = zelligelaw08_TieDiagonals.T1 := by kernel_rfl
theorem zelligelaw08_TieDiagonals.bits1 : waitsOk zelligelaw08_TieDiagonals.T1.2 zelligelaw08_TieDiagonals.B1 = true := by kernel_rfl
set_option maxHeartbeats 8000000 in
set_option maxRecDepth 100000 in
theorem zelligelaw08_TieDiagonals.calls (k : Nat) (a0_0 : Int) (a0_1 : Int) (a0_2 : Int) (a0_3 : Int) (a0_4 : Int) (a0_5 : Int) (a1_0 : Int) (a1_1 : Int) (w : World) (h : zelligelaw08_TieDiagonals.f k a0_0 a0_1 a0_2 a0_3 a0_4 a0_5 a1_0 a1_1 = some true) :
  Calls Try.prog 5 #[.agg #[.int .i64 a0_0, .int .i64 a0_1, .int .i64 a0_2, .int .i64 a0_3, .int .i64 a0_4, .int .i64 a0_5], .agg #[.int .i64 a1_0, .int .i64 a1_1]] w fun e w' => e = .returned (.bool true) ∧ Below w.heap.size w w' := by
 have hu24 := Try.underlying24
 have hu23 := Try.underlying23
 have HB := Aside0.mk (Below.refl w.heap.size w)
 have H : ((zelligeref08_Can.f a0_0 a0_1 a0_2 a0_3 a0_4 a0_5 a1_0 a1_1).bind fun t556 => (if t556 = true then ((zelligeref07_Orient.f a0_0 a0_1 a0_2 a0_3 a0_4 a0_5).bind fun t557 => (if t557 = 1 then ((zelligeref07_Orient.f a0_2 a0_3 a0_4 a0_5 a1_0 a1_1).bind fun t558 => (if t558 = 1 then ((zelligeref07_Orient.f a0_4 a0_5 a1_0 a1_1 a0_0 a0_1).bind fun t559 => (if t559 = 1 then ((zelligeref07_Orient.f a1_0 a1_1 a0_0 a0_1 a0_2 a0_3).bind fun t560 => (zelligelaw08_TieDiagonals.j0 k (t560 != 1) a1_0 a1_1 a0_0 a0_1 a0_2 a0_3 a0_4 a0_5)) else (zelligelaw08_TieDiagonals.j0 k true a1_0 a1_1 a0_0 a0_1 a0_2 a0_3 a0_4 a0_5))) else (zelligelaw08_TieDiagonals.j0 k true a1_0 a1_1 a0_0 a0_1 a0_2 a0_3 a0_4 a0_5))) else (zelligelaw08_TieDiagonals.j0 k true a1_0 a1_1 a0_0 a0_1 a0_2 a0_3 a0_4 a0_5))) else (zelligelaw08_TieDiagonals.j0 k true a1_0 a1_1 a0_0 a0_1 a0_2 a0_3 a0_4 a0_5))) = some true := h
 clear h
 have HC3 := Aside0.mk H
 clear H
 go_enter Try.func5, Try.ntmps5
 try go_wp2_with (first | ((with_reducible refine gate_dst (N := 2) rfl ?_); refine box_event ?hg (N := 2) ?hd (cs := #[.int .i64 a0_0, .int .i64 a0_1, .int .i64 a0_2, .int .i64 a0_3, .int .i64 a0_4, .int .i64 a0_5]) (t := 24) ?hr ?_; (case hd => rfl); (case hg => rfl); (case hr => first | (go_simp; done) | (go_simp; rfl)); intro gb551 hg w4 hbox hb; have BK551 := Aside0.mk hbox; have GW551 := u3 hg HB; have GE551 := u3 hg HB; replace HB := u2 HB hb; clear hb hbox hg) | ((with_reducible refine gate_dst (N := 3) rfl ?_); refine box_event ?hg (N := 3) ?hd (cs := #[.int .i64 a1_0, .int .i64 a1_1]) (t := 23) ?hr ?_; (case hd => rfl); (case hg => rfl); (case hr => first | (go_simp; done) | (go_simp; rfl)); intro gb552 hg w5 hbox hb; have BK552 := Aside0.mk hbox; have GW552 := u3 hg HB; have GE552 := u3 hg HB; have NB551_552 := u4 hg BK551; have NB552_551 := u5 hg BK551; replace BK551 := u1 BK551 hb; replace HB := u2 HB hb; clear hb hbox hg))
 have n0_ := Aside0.mk (blk_drew BK551.out)
 have n1_ := Aside0.mk (blk_drew BK552.out)
 have n2_ := Aside0.mk (below_drew1 HB.out)
 clear BK551
 clear BK552
 clear HB
 have BK551 := n0_
 have BK552 := n1_
 have HB := n2_
 clear n0_ n1_ n2_
 refine start_ (n := 12) (S := fun w' => True) (ds := []) #[false, false, false, false, false, false, false, false, false, false, false, false] (by kernel_rfl) rfl rfl trivial (fun hHeld => ?_); refine with_tabW zelligelaw08_TieDiagonals.tab1 zelligelaw08_TieDiagonals.bits1 (fun HT_ HW_ => ?_)
 generalize w5.drew = w6 at BK551 BK552 HB hHeld ⊢
 refine pure_ (i := 0) (N := some 9) (v := ?_) (a' := ?_) #[true, false, false, false, false, false, false, false, false, false, false, false] rfl rfl (any_of HT_.out (by kernel_rfl)) (fun _ _ _ h => h) (Or.inl ⟨by rfl, ?_⟩) ?_ ?_
 rotate_left
 ·intro w'
  go_simp
  with_reducible rfl
 rotate_left
 ·simp only [Act.put, List.setIfInBounds_toArray, List.set_cons_zero, List.set_cons_succ, i64_w, i32_w]
  rfl
 refine pure_ (i := 2) (N := some 11) (v := ?_) (a' := ?_) #[true, false, true, false, false, false, false, false, false, false, false, false] rfl rfl (any_of HT_.out (by kernel_rfl)) (fun _ _ _ h => h) (Or.inl ⟨by rfl, ?_⟩) ?_ ?_
 rotate_left
 ·intro w'
  go_simp
  with_reducible rfl
 rotate_left
 ·simp only [Act.put, List.setIfInBounds_toArray, List.set_cons_zero, List.set_cons_succ, i64_w, i32_w]
  rfl
 refine pure_ (i := 4) (N := some 13) (v := ?_) (a' := ?_) #[true, false, true, false, true, false, false, false, false, false, false, false] rfl rfl (any_of HT_.out (by kernel_rfl)) (fun _ _ _ h => h) (Or.inl ⟨by rfl, ?_⟩) ?_ ?_
 rotate_left
 ·intro w'
  go_simp
  with_reducible rfl
 rotate_left
 ·simp only [Act.put, List.setIfInBounds_toArray, List.set_cons_zero, List.set_cons_succ, i64_w, i32_w]
  rfl
 refine inv_at [1, 3, 5, 6, 7, 8, 9, 10, 11] (fun a0_ b a w' => ∃ (gb553 : Nat) (gb554 : Nat) (gb555 : Nat) (m6_ : Value) (m7_ : Value) (m8_ : Value), a = putSel a0_ b [(1, 10, .agg #[.int .i64 a0_0, .int .i64 a0_1]), (3, 12, .agg #[.int .i64 a0_2, .int .i64 a0_3]), (5, 14, .agg #[.int .i64 a0_4, .int .i64 a0_5]), (6, 5, m6_), (7, 6, m7_), (8, 7, m8_)] ∧ (w'.heap[gb551]? = some (.cells #[.int .i64 a0_0, .int .i64 a0_1, .int .i64 a0_2, .int .i64 a0_3, .int .i64 a0_4, .int .i64 a0_5] 24 (0, 0))) ∧ (w'.heap[gb552]? = some (.cells #[.int .i64 a1_0, .int .i64 a1_1] 23 (0, 0))) ∧ (Below w.heap.size w w') ∧ (b 6 = true → b 7 = true → gb554 ≠ gb553) ∧ (b 6 = true → b 7 = true → gb553 ≠ gb554) ∧ (b 6 = true → b 8 = true → gb555 ≠ gb553) ∧ (b 6 = true → b 8 = true → gb553 ≠ gb555) ∧ (b 7 = true → b 8 = true → gb555 ≠ gb554) ∧ (b 7 = true → b 8 = true → gb554 ≠ gb555) ∧ (b 6 = true → b 9 = false → w'.heap[gb553]? = some (.cells #[.int .i64 0, .int .i64 0] 23 (0, 0))) ∧ (b 6 = true → w.heap.size ≤ gb553) ∧ (b 6 = true → w.heap.size ≤ gb553) ∧ (b 6 = true → gb551 ≠ gb553) ∧ (b 6 = true → gb553 ≠ gb551) ∧ (b 6 = true → gb552 ≠ gb553) ∧ (b 6 = true → gb553 ≠ gb552) ∧ (b 7 = true → b 10 = false → w'.heap[gb554]? = some (.cells #[.int .i64 0, .int .i64 0] 23 (0, 0))) ∧ (b 7 = true → w.heap.size ≤ gb554) ∧ (b 7 = true → w.heap.size ≤ gb554) ∧ (b 7 = true → gb551 ≠ gb554) ∧ (b 7 = true → gb554 ≠ gb551) ∧ (b 7 = true → gb552 ≠ gb554) ∧ (b 7 = true → gb554 ≠ gb552) ∧ (b 8 = true → b 11 = false → w'.heap[gb555]? = some (.cells #[.int .i64 0, .int .i64 0] 23 (0, 0))) ∧ (b 8 = true → w.heap.size ≤ gb555) ∧ (b 8 = true → w.heap.size ≤ gb555) ∧ (b 8 = true → gb551 ≠ gb555) ∧ (b 8 = true → gb555 ≠ gb551) ∧ (b 8 = true → gb552 ≠ gb555) ∧ (b 8 = true → gb555 ≠ gb552) ∧ (b 9 = true → w'.heap[gb553]? = some (.cells #[.int .i64 a0_0, .int .i64 a0_1] 23 (0, 0))) ∧ (b 10 = true → w'.heap[gb554]? = some (.cells #[.int .i64 a0_2, .int .i64 a0_3] 23 (0, 0))) ∧ (b 11 = true → w'.heap[gb555]? = some (.cells #[.int .i64 a0_4, .int .i64 a0_5] 23 (0, 0))) ∧ (b 6 = true → (m6_ : Value) = .pointer (some ⟨gb553, 0, none⟩)) ∧ (b 7 = true → (m7_ : Value) = .pointer (some ⟨gb554, 0, none⟩)) ∧ (b 8 = true → (m8_ : Value) = .pointer (some ⟨gb555, 0, none⟩))) HT_.out HW_.out (by kernel_rfl) (by kernel_rfl) ?_ ?_ ?_
 ·exact ⟨0, 0, 0, .bool false, .bool false, .bool false, by simp only [putSel, Bool.false_eq_true, if_false], BK551.out, BK552.out, HB.out, fun h_ => absurd h_ (by decide), fun h_ => absurd h_ (by decide), fun h_ => absurd h_ (by decide), fun h_ => absurd h_ (by decide), fun h_ => absurd h_ (by decide), fun h_ => absurd h_ (by decide), fun h_ => absurd h_ (by decide), fun h_ => absurd h_ (by decide), fun h_ => absurd h_ (by decide), fun h_ => absurd h_ (by decide), fun h_ => absurd h_ (by decide), fun h_ => absurd h_ (by decide), fun h_ => absurd h_ (by decide), fun h_ => absurd h_ (by decide), fun h_ => absurd h_ (by decide), fun h_ => absurd h_ (by decide), fun h_ => absurd h_ (by decide), fun h_ => absurd h_ (by decide), fun h_ => absurd h_ (by decide), fun h_ => absurd h_ (by decide), fun h_ => absurd h_ (by decide), fun h_ => absurd h_ (by decide), fun h_ => absurd h_ (by decide), fun h_ => absurd h_ (by decide), fun h_ => absurd h_ (by decide), fun h_ => absurd h_ (by decide), fun h_ => absurd h_ (by decide), fun h_ => absurd h_ (by decide), fun h_ => absurd h_ (by decide), fun h_ => absurd h_ (by decide), fun h_ => absurd h_ (by decide), fun h_ => absurd h_ (by decide), fun h_ => absurd h_ (by decide)⟩
 ·skip
  clear BK551 BK552 HB
  refine steps_cons ?_ ?_
  ·rintro b a w' ⟨gb553, gb554, gb555, m6_, m7_, m8_, ha, Q_BK551, Q_BK552, Q_HB, Q_NB554_553, Q_NB553_554, Q_NB555_553, Q_NB553_555, Q_NB555_554, Q_NB554_555, Q_BK553, Q_GW553, Q_GE553, Q_NB551_553, Q_NB553_551, Q_NB552_553, Q_NB553_552, Q_BK554, Q_GW554, Q_GE554, Q_NB551_554, Q_NB554_551, Q_NB552_554, Q_NB554_552, Q_BK555, Q_GW555, Q_GE555, Q_NB551_555, Q_NB555_551, Q_NB552_555, Q_NB555_552, Q_BK553_e9, Q_BK554_e10, Q_BK555_e11, Q_X6_, Q_X7_, Q_X8_⟩ hb_ hon hoff
   refine ⟨_, rfl, fun K hK => ?_⟩
   have e9 : a.tmps[9]? = some (.pointer (some ⟨gb551, 0, none⟩)) := by rw [ha]; exact (putSel_off rfl).trans rfl
   replace ha := Aside0.mk ha
   have BK551 := Aside0.mk Q_BK551
   have BK552 := Aside0.mk Q_BK552
   have HB := Aside0.mk Q_HB
   have hc0_ : w'.cell? ⟨gb551, 0, none⟩ = some (.int .i64 a0_0) := (blk_cell BK551.out 0).trans rfl
   have hc1_ : w'.cell? ⟨gb551, 1, none⟩ = some (.int .i64 a0_1) := (blk_cell BK551.out 1).trans rfl
   have hc2_ : w'.cell? ⟨gb551, 2, none⟩ = some (.int .i64 a0_2) := (blk_cell BK551.out 2).trans rfl
   have hc3_ : w'.cell? ⟨gb551, 3, none⟩ = some (.int .i64 a0_3) := (blk_cell BK551.out 3).trans rfl
   have hc4_ : w'.cell? ⟨gb551, 4, none⟩ = some (.int .i64 a0_4) := (blk_cell BK551.out 4).trans rfl
   have hc5_ : w'.cell? ⟨gb551, 5, none⟩ = some (.int .i64 a0_5) := (blk_cell BK551.out 5).trans rfl
   refine value_ (w1 := w') (v := .agg #[.int .i64 a0_0, .int .i64 a0_1]) (by rfl) rfl ?_ ?_
   ·go_simp
    (try simp only [i64_w])
    try rfl
   refine hK.out _ _ ⟨gb553, gb554, gb555, m6_, m7_, m8_, (by rw [ha.out]; exact putSel_upk 0 hb_ rfl rfl rfl), Q_BK551, Q_BK552, Q_HB, Q_NB554_553, Q_NB553_554, Q_NB555_553, Q_NB553_555, Q_NB555_554, Q_NB554_555, Q_BK553, Q_GW553, Q_GE553, Q_NB551_553, Q_NB553_551, Q_NB552_553, Q_NB553_552, Q_BK554, Q_GW554, Q_GE554, Q_NB551_554, Q_NB554_551, Q_NB552_554, Q_NB554_552, Q_BK555, Q_GW555, Q_GE555, Q_NB551_555, Q_NB555_551, Q_NB552_555, Q_NB555_552, fun h0_ => absurd ((hoff 9 (by kernel_rfl)).symm.trans h0_) (by decide), fun h0_ => absurd ((hoff 10 (by kernel_rfl)).symm.trans h0_) (by decide), fun h0_ => absurd ((hoff 11 (by kernel_rfl)).symm.trans h0_) (by decide), Q_X6_, Q_X7_, Q_X8_⟩
  refine steps_cons ?_ ?_
  ·rintro b a w' ⟨gb553, gb554, gb555, m6_, m7_, m8_, ha, Q_BK551, Q_BK552, Q_HB, Q_NB554_553, Q_NB553_554, Q_NB555_553, Q_NB553_555, Q_NB555_554, Q_NB554_555, Q_BK553, Q_GW553, Q_GE553, Q_NB551_553, Q_NB553_551, Q_NB552_553, Q_NB553_552, Q_BK554, Q_GW554, Q_GE554, Q_NB551_554, Q_NB554_551, Q_NB552_554, Q_NB554_552, Q_BK555, Q_GW555, Q_GE555, Q_NB551_555, Q_NB555_551, Q_NB552_555, Q_NB555_552, Q_BK553_e9, Q_BK554_e10, Q_BK555_e11, Q_X6_, Q_X7_, Q_X8_⟩ hb_ hon hoff
   refine ⟨_, rfl, fun K hK => ?_⟩
   have e11 : a.tmps[11]? = some (.pointer (some ⟨gb551, 2, none⟩)) := by rw [ha]; exact (putSel_off rfl).trans rfl
   replace ha := Aside0.mk ha
   have BK551 := Aside0.mk Q_BK551
   have BK552 := Aside0.mk Q_BK552
   have HB := Aside0.mk Q_HB
   have hc0_ : w'.cell? ⟨gb551, 0, none⟩ = some (.int .i64 a0_0) := (blk_cell BK551.out 0).trans rfl
   have hc1_ : w'.cell? ⟨gb551, 1, none⟩ = some (.int .i64 a0_1) := (blk_cell BK551.out 1).trans rfl
   have hc2_ : w'.cell? ⟨gb551, 2, none⟩ = some (.int .i64 a0_2) := (blk_cell BK551.out 2).trans rfl
   have hc3_ : w'.cell? ⟨gb551, 3, none⟩ = some (.int .i64 a0_3) := (blk_cell BK551.out 3).trans rfl
   have hc4_ : w'.cell? ⟨gb551, 4, none⟩ = some (.int .i64 a0_4) := (blk_cell BK551.out 4).trans rfl
   have hc5_ : w'.cell? ⟨gb551, 5, none⟩ = some (.int .i64 a0_5) := (blk_cell BK551.out 5).trans rfl
   refine value_ (w1 := w') (v := .agg #[.int .i64 a0_2, .int .i64 a0_3]) (by rfl) rfl ?_ ?_
   ·go_simp
    (try simp only [i64_w])
    try rfl
   refine hK.out _ _ ⟨gb553, gb554, gb555, m6_, m7_, m8_, (by rw [ha.out]; exact putSel_upk 1 hb_ rfl rfl rfl), Q_BK551, Q_BK552, Q_HB, Q_NB554_553, Q_NB553_554, Q_NB555_553, Q_NB553_555, Q_NB555_554, Q_NB554_555, Q_BK553, Q_GW553, Q_GE553, Q_NB551_553, Q_NB553_551, Q_NB552_553, Q_NB553_552, Q_BK554, Q_GW554, Q_GE554, Q_NB551_554, Q_NB554_551, Q_NB552_554, Q_NB554_552, Q_BK555, Q_GW555, Q_GE555, Q_NB551_555, Q_NB555_551, Q_NB552_555, Q_NB555_552, Q_BK553_e9, fun h0_ => absurd ((hoff 10 (by kernel_rfl)).symm.trans h0_) (by decide), fun h0_ => absurd ((hoff 11 (by kernel_rfl)).symm.trans h0_) (by decide), Q_X6_, Q_X7_, Q_X8_⟩
  refine steps_cons ?_ ?_
  ·rintro b a w' ⟨gb553, gb554, gb555, m6_, m7_, m8_, ha, Q_BK551, Q_BK552, Q_HB, Q_NB554_553, Q_NB553_554, Q_NB555_553, Q_NB553_555, Q_NB555_554, Q_NB554_555, Q_BK553, Q_GW553, Q_GE553, Q_NB551_553, Q_NB553_551, Q_NB552_553, Q_NB553_552, Q_BK554, Q_GW554, Q_GE554, Q_NB551_554, Q_NB554_551, Q_NB552_554, Q_NB554_552, Q_BK555, Q_GW555, Q_GE555, Q_NB551_555, Q_NB555_551, Q_NB552_555, Q_NB555_552, Q_BK553_e9, Q_BK554_e10, Q_BK555_e11, Q_X6_, Q_X7_, Q_X8_⟩ hb_ hon hoff
   refine ⟨_, rfl, fun K hK => ?_⟩
   have e13 : a.tmps[13]? = some (.pointer (some ⟨gb551, 4, none⟩)) := by rw [ha]; exact (putSel_off rfl).trans rfl
   replace ha := Aside0.mk ha
   have BK551 := Aside0.mk Q_BK551
   have BK552 := Aside0.mk Q_BK552
   have HB := Aside0.mk Q_HB
   have hc0_ : w'.cell? ⟨gb551, 0, none⟩ = some (.int .i64 a0_0) := (blk_cell BK551.out 0).trans rfl
   have hc1_ : w'.cell? ⟨gb551, 1, none⟩ = some (.int .i64 a0_1) := (blk_cell BK551.out 1).trans rfl
   have hc2_ : w'.cell? ⟨gb551, 2, none⟩ = some (.int .i64 a0_2) := (blk_cell BK551.out 2).trans rfl
   have hc3_ : w'.cell? ⟨gb551, 3, none⟩ = some (.int .i64 a0_3) := (blk_cell BK551.out 3).trans rfl
   have hc4_ : w'.cell? ⟨gb551, 4, none⟩ = some (.int .i64 a0_4) := (blk_cell BK551.out 4).trans rfl
   have hc5_ : w'.cell? ⟨gb551, 5, none⟩ = some (.int .i64 a0_5) := (blk_cell BK551.out 5).trans rfl
   refine value_ (w1 := w') (v := .agg #[.int .i64 a0_4, .int .i64 a0_5]) (by rfl) rfl ?_ ?_
   ·go_simp
    (try simp only [i64_w])
    try rfl
   refine hK.out _ _ ⟨gb553, gb554, gb555, m6_, m7_, m8_, (by rw [ha.out]; exact putSel_upk 2 hb_ rfl rfl rfl), Q_BK551, Q_BK552, Q_HB, Q_NB554_553, Q_NB553_554, Q_NB555_553, Q_NB553_555, Q_NB555_554, Q_NB554_555, Q_BK553, Q_GW553, Q_GE553, Q_NB551_553, Q_NB553_551, Q_NB552_553, Q_NB553_552, Q_BK554, Q_GW554, Q_GE554, Q_NB551_554, Q_NB554_551, Q_NB552_554, Q_NB554_552, Q_BK555, Q_GW555, Q_GE555, Q_NB551_555, Q_NB555_551, Q_NB552_555, Q_NB555_552, Q_BK553_e9, Q_BK554_e10, fun h0_ => absurd ((hoff 11 (by kernel_rfl)).symm.trans h0_) (by decide), Q_X6_, Q_X7_, Q_X8_⟩
  refine steps_cons ?_ ?_
  ·rintro b a w' ⟨gb553, gb554, gb555, m6_, m7_, m8_, ha, Q_BK551, Q_BK552, Q_HB, Q_NB554_553, Q_NB553_554, Q_NB555_553, Q_NB553_555, Q_NB555_554, Q_NB554_555, Q_BK553, Q_GW553, Q_GE553, Q_NB551_553, Q_NB553_551, Q_NB552_553, Q_NB553_552, Q_BK554, Q_GW554, Q_GE554, Q_NB551_554, Q_NB554_551, Q_NB552_554, Q_NB554_552, Q_BK555, Q_GW555, Q_GE555, Q_NB551_555, Q_NB555_551, Q_NB552_555, Q_NB555_552, Q_BK553_e9, Q_BK554_e10, Q_BK555_e11, Q_X6_, Q_X7_, Q_X8_⟩ hb_ hon hoff
   refine ⟨_, rfl, fun K hK => ?_⟩
   replace ha := Aside0.mk ha
   have BK551 := Aside0.mk Q_BK551
   have BK552 := Aside0.mk Q_BK552
   have HB := Aside0.mk Q_HB
   refine box_step ?hg (N := 5) ?hd (cs := #[.int .i64 0, .int .i64 0]) (t := 23) ?hr ?_; (case hd => rfl); (case hg => rfl); (case hr => first | (go_simp; done) | (go_simp; rfl))
   intro gb553 hg w7 hbox hb
   have n0_ := Aside0.mk (blk_below (bk BK551.out) hb)
   have n1_ := Aside0.mk (blk_below (bk BK552.out) hb)
   have n2_ := Aside0.mk (below_step (bw HB.out) hb)
   have n3_ := Aside0.mk (hbox)
   have n4_ := Aside0.mk ((by rw [hg]; exact (below_size (bw HB.out)) : w.heap.size ≤ gb553))
   have n5_ := Aside0.mk ((by rw [hg]; exact (below_size (bw HB.out)) : w.heap.size ≤ gb553))
   have n6_ := Aside0.mk ((by rw [hg]; exact Nat.ne_of_lt (blk_lt (bk BK551.out)) : gb551 ≠ gb553))
   have n7_ := Aside0.mk ((by rw [hg]; exact Nat.ne_of_gt (blk_lt (bk BK551.out)) : gb553 ≠ gb551))
   have n8_ := Aside0.mk ((by rw [hg]; exact Nat.ne_of_lt (blk_lt (bk BK552.out)) : gb552 ≠ gb553))
   have n9_ := Aside0.mk ((by rw [hg]; exact Nat.ne_of_gt (blk_lt (bk BK552.out)) : gb553 ≠ gb552))
   have z_NB554_553 := fun (h0_ : up b 6 6 = true) (h1_ : up b 6 7 = true) => (show gb554 ≠ gb553 from ((by rw [hg]; exact Nat.ne_of_lt (blk_lt (g := gb554) (o := .cells #[.int .i64 0, .int .i64 0] 23 (0, 0)) (by (with_reducible repeat (first | refine blk_drewN ?_ _ | refine blk_drew ?_ | refine blk_alloc ?_ _)); exact (Q_BK554 ((up_ne (by decide : 7 ≠ 6)).symm.trans h1_) (hoff 10 (by kernel_rfl))))) : gb554 ≠ gb553)))
   have z_NB553_554 := fun (h0_ : up b 6 6 = true) (h1_ : up b 6 7 = true) => (show gb553 ≠ gb554 from ((by rw [hg]; exact Nat.ne_of_gt (blk_lt (g := gb554) (o := .cells #[.int .i64 0, .int .i64 0] 23 (0, 0)) (by (with_reducible repeat (first | refine blk_drewN ?_ _ | refine blk_drew ?_ | refine blk_alloc ?_ _)); exact (Q_BK554 ((up_ne (by decide : 7 ≠ 6)).symm.trans h1_) (hoff 10 (by kernel_rfl))))) : gb553 ≠ gb554)))
   have z_NB555_553 := fun (h0_ : up b 6 6 = true) (h1_ : up b 6 8 = true) => (show gb555 ≠ gb553 from ((by rw [hg]; exact Nat.ne_of_lt (blk_lt (g := gb555) (o := .cells #[.int .i64 0, .int .i64 0] 23 (0, 0)) (by (with_reducible repeat (first | refine blk_drewN ?_ _ | refine blk_drew ?_ | refine blk_alloc ?_ _)); exact (Q_BK555 ((up_ne (by decide : 8 ≠ 6)).symm.trans h1_) (hoff 11 (by kernel_rfl))))) : gb555 ≠ gb553)))
   have z_NB553_555 := fun (h0_ : up b 6 6 = true) (h1_ : up b 6 8 = true) => (show gb553 ≠ gb555 from ((by rw [hg]; exact Nat.ne_of_gt (blk_lt (g := gb555) (o := .cells #[.int .i64 0, .int .i64 0] 23 (0, 0)) (by (with_reducible repeat (first | refine blk_drewN ?_ _ | refine blk_drew ?_ | refine blk_alloc ?_ _)); exact (Q_BK555 ((up_ne (by decide : 8 ≠ 6)).symm.trans h1_) (hoff 11 (by kernel_rfl))))) : gb553 ≠ gb555)))
   have z_BK554 := fun (h0_ : b 7 = true) (h1_ : b 10 = false) => (show w7.heap[gb554]? = some (.cells #[.int .i64 0, .int .i64 0] 23 (0, 0)) from by first | exact (blk_below (g := gb554) (o := .cells #[.int .i64 0, .int .i64 0] 23 (0, 0)) (bk (Q_BK554 h0_ h1_)) hb))
   have z_BK555 := fun (h0_ : b 8 = true) (h1_ : b 11 = false) => (show w7.heap[gb555]? = some (.cells #[.int .i64 0, .int .i64 0] 23 (0, 0)) from by first | exact (blk_below (g := gb555) (o := .cells #[.int .i64 0, .int .i64 0] 23 (0, 0)) (bk (Q_BK555 h0_ h1_)) hb))
   clear BK551
   clear BK552
   clear HB
   have BK551 := n0_
   have BK552 := n1_
   have HB := n2_
   have BK553 := n3_
   have GW553 := n4_
   have GE553 := n5_
   have NB551_553 := n6_
   have NB553_551 := n7_
   have NB552_553 := n8_
   have NB553_552 := n9_
   clear n0_ n1_ n2_ n3_ n4_ n5_ n6_ n7_ n8_ n9_
   clear hb hbox hg
   refine hK.out _ _ ⟨gb553, gb554, gb555, (.pointer (some ⟨gb553, 0, none⟩)), m7_, m8_, (by rw [ha.out]; exact putSel_upk 3 hb_ rfl rfl rfl), (bk BK551.out), (bk BK552.out), (bw HB.out), @z_NB554_553, @z_NB553_554, @z_NB555_553, @z_NB553_555, Q_NB555_554, Q_NB554_555, fun _ _ => (bk BK553.out), fun _ => GW553.out, fun _ => GE553.out, fun _ => NB551_553.out, fun _ => NB553_551.out, fun _ => NB552_553.out, fun _ => NB553_552.out, z_BK554, Q_GW554, Q_GE554, Q_NB551_554, Q_NB554_551, Q_NB552_554, Q_NB554_552, z_BK555, Q_GW555, Q_GE555, Q_NB551_555, Q_NB555_551, Q_NB552_555, Q_NB555_552, fun h0_ => absurd ((hoff 9 (by kernel_rfl)).symm.trans h0_) (by decide), fun h0_ => absurd ((hoff 10 (by kernel_rfl)).symm.trans h0_) (by decide), fun h0_ => absurd ((hoff 11 (by kernel_rfl)).symm.trans h0_) (by decide), fun _ => rfl, Q_X7_, Q_X8_⟩
  refine steps_cons ?_ ?_
  ·rintro b a w' ⟨gb553, gb554, gb555, m6_, m7_, m8_, ha, Q_BK551, Q_BK552, Q_HB, Q_NB554_553, Q_NB553_554, Q_NB555_553, Q_NB553_555, Q_NB555_554, Q_NB554_555, Q_BK553, Q_GW553, Q_GE553, Q_NB551_553, Q_NB553_551, Q_NB552_553, Q_NB553_552, Q_BK554, Q_GW554, Q_GE554, Q_NB551_554, Q_NB554_551, Q_NB552_554, Q_NB554_552, Q_BK555, Q_GW555, Q_GE555, Q_NB551_555, Q_NB555_551, Q_NB552_555, Q_NB555_552, Q_BK553_e9, Q_BK554_e10, Q_BK555_e11, Q_X6_, Q_X7_, Q_X8_⟩ hb_ hon hoff
   refine ⟨_, rfl, fun K hK => ?_⟩
   replace ha := Aside0.mk ha
   have BK551 := Aside0.mk Q_BK551
   have BK552 := Aside0.mk Q_BK552
   have HB := Aside0.mk Q_HB
   refine box_step ?hg (N := 6) ?hd (cs := #[.int .i64 0, .int .i64 0]) (t := 23) ?hr ?_; (case hd => rfl); (case hg => rfl); (case hr => first | (go_simp; done) | (go_simp; rfl))
   intro gb554 hg w7 hbox hb
   have n0_ := Aside0.mk (blk_below (bk BK551.out) hb)
   have n1_ := Aside0.mk (blk_below (bk BK552.out) hb)
   have n2_ := Aside0.mk (below_step (bw HB.out) hb)
   have n3_ := Aside0.mk (hbox)
   have n4_ := Aside0.mk ((by rw [hg]; exact (below_size (bw HB.out)) : w.heap.size ≤ gb554))
   have n5_ := Aside0.mk ((by rw [hg]; exact (below_size (bw HB.out)) : w.heap.size ≤ gb554))
   have n6_ := Aside0.mk ((by rw [hg]; exact Nat.ne_of_lt (blk_lt (bk BK551.out)) : gb551 ≠ gb554))
   have n7_ := Aside0.mk ((by rw [hg]; exact Nat.ne_of_gt (blk_lt (bk BK551.out)) : gb554 ≠ gb551))
   have n8_ := Aside0.mk ((by rw [hg]; exact Nat.ne_of_lt (blk_lt (bk BK552.out)) : gb552 ≠ gb554))
   have n9_ := Aside0.mk ((by rw [hg]; exact Nat.ne_of_gt (blk_lt (bk BK552.out)) : gb554 ≠ gb552))
   have z_NB554_553 := fun (h0_ : up b 7 6 = true) (h1_ : up b 7 7 = true) => (show gb554 ≠ gb553 from ((by rw [hg]; exact Nat.ne_of_gt (blk_lt (g := gb553) (o := .cells #[.int .i64 0, .int .i64 0] 23 (0, 0)) (by (with_reducible repeat (first | refine blk_drewN ?_ _ | refine blk_drew ?_ | refine blk_alloc ?_ _)); exact (Q_BK553 ((up_ne (by decide : 6 ≠ 7)).symm.trans h0_) (hoff 9 (by kernel_rfl))))) : gb554 ≠ gb553)))
   have z_NB553_554 := fun (h0_ : up b 7 6 = true) (h1_ : up b 7 7 = true) => (show gb553 ≠ gb554 from ((by rw [hg]; exact Nat.ne_of_lt (blk_lt (g := gb553) (o := .cells #[.int .i64 0, .int .i64 0] 23 (0, 0)) (by (with_reducible repeat (first | refine blk_drewN ?_ _ | refine blk_drew ?_ | refine blk_alloc ?_ _)); exact (Q_BK553 ((up_ne (by decide : 6 ≠ 7)).symm.trans h0_) (hoff 9 (by kernel_rfl))))) : gb553 ≠ gb554)))
   have z_NB555_554 := fun (h0_ : up b 7 7 = true) (h1_ : up b 7 8 = true) => (show gb555 ≠ gb554 from ((by rw [hg]; exact Nat.ne_of_lt (blk_lt (g := gb555) (o := .cells #[.int .i64 0, .int .i64 0] 23 (0, 0)) (by (with_reducible repeat (first | refine blk_drewN ?_ _ | refine blk_drew ?_ | refine blk_alloc ?_ _)); exact (Q_BK555 ((up_ne (by decide : 8 ≠ 7)).symm.trans h1_) (hoff 11 (by kernel_rfl))))) : gb555 ≠ gb554)))
   have z_NB554_555 := fun (h0_ : up b 7 7 = true) (h1_ : up b 7 8 = true) => (show gb554 ≠ gb555 from ((by rw [hg]; exact Nat.ne_of_gt (blk_lt (g := gb555) (o := .cells #[.int .i64 0, .int .i64 0] 23 (0, 0)) (by (with_reducible repeat (first | refine blk_drewN ?_ _ | refine blk_drew ?_ | refine blk_alloc ?_ _)); exact (Q_BK555 ((up_ne (by decide : 8 ≠ 7)).symm.trans h1_) (hoff 11 (by kernel_rfl))))) : gb554 ≠ gb555)))
   have z_BK553 := fun (h0_ : b 6 = true) (h1_ : b 9 = false) => (show w7.heap[gb553]? = some (.cells #[.int .i64 0, .int .i64 0] 23 (0, 0)) from by first | exact (blk_below (g := gb553) (o := .cells #[.int .i64 0, .int .i64 0] 23 (0, 0)) (bk (Q_BK553 h0_ h1_)) hb))
   have z_BK555 := fun (h0_ : b 8 = true) (h1_ : b 11 = false) => (show w7.heap[gb555]? = some (.cells #[.int .i64 0, .int .i64 0] 23 (0, 0)) from by first | exact (blk_below (g := gb555) (o := .cells #[.int .i64 0, .int .i64 0] 23 (0, 0)) (bk (Q_BK555 h0_ h1_)) hb))
   clear BK551
   clear BK552
   clear HB
   have BK551 := n0_
   have BK552 := n1_
   have HB := n2_
   have BK554 := n3_
   have GW554 := n4_
   have GE554 := n5_
   have NB551_554 := n6_
   have NB554_551 := n7_
   have NB552_554 := n8_
   have NB554_552 := n9_
   clear n0_ n1_ n2_ n3_ n4_ n5_ n6_ n7_ n8_ n9_
   clear hb hbox hg
   refine hK.out _ _ ⟨gb553, gb554, gb555, m6_, (.pointer (some ⟨gb554, 0, none⟩)), m8_, (by rw [ha.out]; exact putSel_upk 4 hb_ rfl rfl rfl), (bk BK551.out), (bk BK552.out), (bw HB.out), @z_NB554_553, @z_NB553_554, Q_NB555_553, Q_NB553_555, @z_NB555_554, @z_NB554_555, z_BK553, Q_GW553, Q_GE553, Q_NB551_553, Q_NB553_551, Q_NB552_553, Q_NB553_552, fun _ _ => (bk BK554.out), fun _ => GW554.out, fun _ => GE554.out, fun _ => NB551_554.out, fun _ => NB554_551.out, fun _ => NB552_554.out, fun _ => NB554_552.out, z_BK555, Q_GW555, Q_GE555, Q_NB551_555, Q_NB555_551, Q_NB552_555, Q_NB555_552, fun h0_ => absurd ((hoff 9 (by kernel_rfl)).symm.trans h0_) (by decide), fun h0_ => absurd ((hoff 10 (by kernel_rfl)).symm.trans h0_) (by decide), fun h0_ => absurd ((hoff 11 (by kernel_rfl)).symm.trans h0_) (by decide), Q_X6_, fun _ => rfl, Q_X8_⟩
  refine steps_cons ?_ ?_
  ·rintro b a w' ⟨gb553, gb554, gb555, m6_, m7_, m8_, ha, Q_BK551, Q_BK552, Q_HB, Q_NB554_553, Q_NB553_554, Q_NB555_553, Q_NB553_555, Q_NB555_554, Q_NB554_555, Q_BK553, Q_GW553, Q_GE553, Q_NB551_553, Q_NB553_551, Q_NB552_553, Q_NB553_552, Q_BK554, Q_GW554, Q_GE554, Q_NB551_554, Q_NB554_551, Q_NB552_554, Q_NB554_552, Q_BK555, Q_GW555, Q_GE555, Q_NB551_555, Q_NB555_551, Q_NB552_555, Q_NB555_552, Q_BK553_e9, Q_BK554_e10, Q_BK555_e11, Q_X6_, Q_X7_, Q_X8_⟩ hb_ hon hoff
   refine ⟨_, rfl, fun K hK => ?_⟩
   replace ha := Aside0.mk ha
   have BK551 := Aside0.mk Q_BK551
   have BK552 := Aside0.mk Q_BK552
   have HB := Aside0.mk Q_HB
   refine box_step ?hg (N := 7) ?hd (cs := #[.int .i64 0, .int .i64 0]) (t := 23) ?hr ?_; (case hd => rfl); (case hg => rfl); (case hr => first | (go_simp; done) | (go_simp; rfl))
   intro gb555 hg w7 hbox hb
   have n0_ := Aside0.mk (blk_below (bk BK551.out) hb)
   have n1_ := Aside0.mk (blk_below (bk BK552.out) hb)
   have n2_ := Aside0.mk (below_step (bw HB.out) hb)
   have n3_ := Aside0.mk (hbox)
   have n4_ := Aside0.mk ((by rw [hg]; exact (below_size (bw HB.out)) : w.heap.size ≤ gb555))
   have n5_ := Aside0.mk ((by rw [hg]; exact (below_size (bw HB.out)) : w.heap.size ≤ gb555))
   have n6_ := Aside0.mk ((by rw [hg]; exact Nat.ne_of_lt (blk_lt (bk BK551.out)) : gb551 ≠ gb555))
   have n7_ := Aside0.mk ((by rw [hg]; exact Nat.ne_of_gt (blk_lt (bk BK551.out)) : gb555 ≠ gb551))
   have n8_ := Aside0.mk ((by rw [hg]; exact Nat.ne_of_lt (blk_lt (bk BK552.out)) : gb552 ≠ gb555))
   have n9_ := Aside0.mk ((by rw [hg]; exact Nat.ne_of_gt (blk_lt (bk BK552.out)) : gb555 ≠ gb552))
   have z_NB555_553 := fun (h0_ : up b 8 6 = true) (h1_ : up b 8 8 = true) => (show gb555 ≠ gb553 from ((by rw [hg]; exact Nat.ne_of_gt (blk_lt (g := gb553) (o := .cells #[.int .i64 0, .int .i64 0] 23 (0, 0)) (by (with_reducible repeat (first | refine blk_drewN ?_ _ | refine blk_drew ?_ | refine blk_alloc ?_ _)); exact (Q_BK553 ((up_ne (by decide : 6 ≠ 8)).symm.trans h0_) (hoff 9 (by kernel_rfl))))) : gb555 ≠ gb553)))
   have z_NB553_555 := fun (h0_ : up b 8 6 = true) (h1_ : up b 8 8 = true) => (show gb553 ≠ gb555 from ((by rw [hg]; exact Nat.ne_of_lt (blk_lt (g := gb553) (o := .cells #[.int .i64 0, .int .i64 0] 23 (0, 0)) (by (with_reducible repeat (first | refine blk_drewN ?_ _ | refine blk_drew ?_ | refine blk_alloc ?_ _)); exact (Q_BK553 ((up_ne (by decide : 6 ≠ 8)).symm.trans h0_) (hoff 9 (by kernel_rfl))))) : gb553 ≠ gb555)))
   have z_NB555_554 := fun (h0_ : up b 8 7 = true) (h1_ : up b 8 8 = true) => (show gb555 ≠ gb554 from ((by rw [hg]; exact Nat.ne_of_gt (blk_lt (g := gb554) (o := .cells #[.int .i64 0, .int .i64 0] 23 (0, 0)) (by (with_reducible repeat (first | refine blk_drewN ?_ _ | refine blk_drew ?_ | refine blk_alloc ?_ _)); exact (Q_BK554 ((up_ne (by decide : 7 ≠ 8)).symm.trans h0_) (hoff 10 (by kernel_rfl))))) : gb555 ≠ gb554)))
   have z_NB554_555 := fun (h0_ : up b 8 7 = true) (h1_ : up b 8 8 = true) => (show gb554 ≠ gb555 from ((by rw [hg]; exact Nat.ne_of_lt (blk_lt (g := gb554) (o := .cells #[.int .i64 0, .int .i64 0] 23 (0, 0)) (by (with_reducible repeat (first | refine blk_drewN ?_ _ | refine blk_drew ?_ | refine blk_alloc ?_ _)); exact (Q_BK554 ((up_ne (by decide : 7 ≠ 8)).symm.trans h0_) (hoff 10 (by kernel_rfl))))) : gb554 ≠ gb555)))
   have z_BK553 := fun (h0_ : b 6 = true) (h1_ : b 9 = false) => (show w7.heap[gb553]? = some (.cells #[.int .i64 0, .int .i64 0] 23 (0, 0)) from by first | exact (blk_below (g := gb553) (o := .cells #[.int .i64 0, .int .i64 0] 23 (0, 0)) (bk (Q_BK553 h0_ h1_)) hb))
   have z_BK554 := fun (h0_ : b 7 = true) (h1_ : b 10 = false) => (show w7.heap[gb554]? = some (.cells #[.int .i64 0, .int .i64 0] 23 (0, 0)) from by first | exact (blk_below (g := gb554) (o := .cells #[.int .i64 0, .int .i64 0] 23 (0, 0)) (bk (Q_BK554 h0_ h1_)) hb))
   clear BK551
   clear BK552
   clear HB
   have BK551 := n0_
   have BK552 := n1_
   have HB := n2_
   have BK555 := n3_
   have GW555 := n4_
   have GE555 := n5_
   have NB551_555 := n6_
   have NB555_551 := n7_
   have NB552_555 := n8_
   have NB555_552 := n9_
   clear n0_ n1_ n2_ n3_ n4_ n5_ n6_ n7_ n8_ n9_
   clear hb hbox hg
   refine hK.out _ _ ⟨gb553, gb554, gb555, m6_, m7_, (.pointer (some ⟨gb555, 0, none⟩)), (by rw [ha.out]; exact putSel_upk 5 hb_ rfl rfl rfl), (bk BK551.out), (bk BK552.out), (bw HB.out), Q_NB554_553, Q_NB553_554, @z_NB555_553, @z_NB553_555, @z_NB555_554, @z_NB554_555, z_BK553, Q_GW553, Q_GE553, Q_NB551_553, Q_NB553_551, Q_NB552_553, Q_NB553_552, z_BK554, Q_GW554, Q_GE554, Q_NB551_554, Q_NB554_551, Q_NB552_554, Q_NB554_552, fun _ _ => (bk BK555.out), fun _ => GW555.out, fun _ => GE555.out, fun _ => NB551_555.out, fun _ => NB555_551.out, fun _ => NB552_555.out, fun _ => NB555_552.out, fun h0_ => absurd ((hoff 9 (by kernel_rfl)).symm.trans h0_) (by decide), fun h0_ => absurd ((hoff 10 (by kernel_rfl)).symm.trans h0_) (by decide), fun h0_ => absurd ((hoff 11 (by kernel_rfl)).symm.trans h0_) (by decide), Q_X6_, Q_X7_, fun _ => rfl⟩
  refine steps_cons ?_ ?_
  ·rintro b a w' ⟨gb553, gb554, gb555, m6_, m7_, m8_, ha, Q_BK551, Q_BK552, Q_HB, Q_NB554_553, Q_NB553_554, Q_NB555_553, Q_NB553_555, Q_NB555_554, Q_NB554_555, Q_BK553, Q_GW553, Q_GE553, Q_NB551_553, Q_NB553_551, Q_NB552_553, Q_NB553_552, Q_BK554, Q_GW554, Q_GE554, Q_NB551_554, Q_NB554_551, Q_NB552_554, Q_NB554_552, Q_BK555, Q_GW555, Q_GE555, Q_NB551_555, Q_NB555_551, Q_NB552_555, Q_NB555_552, Q_BK553_e9, Q_BK554_e10, Q_BK555_e11, Q_X6_, Q_X7_, Q_X8_⟩ hb_ hon hoff
   refine ⟨_, rfl, fun K hK => ?_⟩
   have e5 : a.tmps[5]? = some (m6_) := by rw [ha]; exact putSel_on (e := (6, 5, m6_)) 3 rfl rfl (hon 6 (by kernel_rfl)) rfl
   rw [Q_X6_ (hon 6 (by kernel_rfl))] at e5
   have e10 : a.tmps[10]? = some (.agg #[.int .i64 a0_0, .int .i64 a0_1]) := by rw [ha]; exact putSel_on (e := (1, 10, .agg #[.int .i64 a0_0, .int .i64 a0_1])) 0 rfl rfl (hon 1 (by kernel_rfl)) rfl
   replace ha := Aside0.mk ha
   have BK551 := Aside0.mk Q_BK551
   have BK552 := Aside0.mk Q_BK552
   have HB := Aside0.mk Q_HB
   have NB554_553 := Aside0.mk (Q_NB554_553 (hon 6 (by kernel_rfl)) (hon 7 (by kernel_rfl)))
   have NB553_554 := Aside0.mk (Q_NB553_554 (hon 6 (by kernel_rfl)) (hon 7 (by kernel_rfl)))
   have NB555_553 := Aside0.mk (Q_NB555_553 (hon 6 (by kernel_rfl)) (hon 8 (by kernel_rfl)))
   have NB553_555 := Aside0.mk (Q_NB553_555 (hon 6 (by kernel_rfl)) (hon 8 (by kernel_rfl)))
   have NB555_554 := Aside0.mk (Q_NB555_554 (hon 7 (by kernel_rfl)) (hon 8 (by kernel_rfl)))
   have NB554_555 := Aside0.mk (Q_NB554_555 (hon 7 (by kernel_rfl)) (hon 8 (by kernel_rfl)))
   have BK553 := Aside0.mk (Q_BK553 (hon 6 (by kernel_rfl)) hb_)
   have GW553 := Aside0.mk (Q_GW553 (hon 6 (by kernel_rfl)))
   have GE553 := Aside0.mk (Q_GE553 (hon 6 (by kernel_rfl)))
   have NB551_553 := Aside0.mk (Q_NB551_553 (hon 6 (by kernel_rfl)))
   have NB553_551 := Aside0.mk (Q_NB553_551 (hon 6 (by kernel_rfl)))
   have NB552_553 := Aside0.mk (Q_NB552_553 (hon 6 (by kernel_rfl)))
   have NB553_552 := Aside0.mk (Q_NB553_552 (hon 6 (by kernel_rfl)))
   have BK554 := Aside0.mk (Q_BK554 (hon 7 (by kernel_rfl)) (hoff 10 (by kernel_rfl)))
   have GW554 := Aside0.mk (Q_GW554 (hon 7 (by kernel_rfl)))
   have GE554 := Aside0.mk (Q_GE554 (hon 7 (by kernel_rfl)))
   have NB551_554 := Aside0.mk (Q_NB551_554 (hon 7 (by kernel_rfl)))
   have NB554_551 := Aside0.mk (Q_NB554_551 (hon 7 (by kernel_rfl)))
   have NB552_554 := Aside0.mk (Q_NB552_554 (hon 7 (by kernel_rfl)))
   have NB554_552 := Aside0.mk (Q_NB554_552 (hon 7 (by kernel_rfl)))
   have BK555 := Aside0.mk (Q_BK555 (hon 8 (by kernel_rfl)) (hoff 11 (by kernel_rfl)))
   have GW555 := Aside0.mk (Q_GW555 (hon 8 (by kernel_rfl)))
   have GE555 := Aside0.mk (Q_GE555 (hon 8 (by kernel_rfl)))
   have NB551_555 := Aside0.mk (Q_NB551_555 (hon 8 (by kernel_rfl)))
   have NB555_551 := Aside0.mk (Q_NB555_551 (hon 8 (by kernel_rfl)))
   have NB552_555 := Aside0.mk (Q_NB552_555 (hon 8 (by kernel_rfl)))
   have NB555_552 := Aside0.mk (Q_NB555_552 (hon 8 (by kernel_rfl)))
   have hs11 : w'.cell? ⟨gb553, 0, none⟩ = some (.int .i64 0) := (blk_cell BK553.out 0).trans rfl
   have hfs11 := blk_frozen BK553.out 0
   have hns11_0 := NB551_553.out
   have hns11_1 := NB552_553.out
   have hns11_3 := NB554_553.out
   have hns11_4 := NB555_553.out
   have hms11_0 := NB553_551.out
   have hms11_1 := NB553_552.out
   have hms11_3 := NB553_554.out
   have hms11_4 := NB553_555.out
   have hs12 : w'.cell? ⟨gb553, 1, none⟩ = some (.int .i64 0) := (blk_cell BK553.out 1).trans rfl
   have hfs12 := blk_frozen BK553.out 1
   have hns12_0 := NB551_553.out
   have hns12_1 := NB552_553.out
   have hns12_3 := NB554_553.out
   have hns12_4 := NB555_553.out
   have hms12_0 := NB553_551.out
   have hms12_1 := NB553_552.out
   have hms12_3 := NB553_554.out
   have hms12_4 := NB553_555.out
   refine skip_ (w1 := ?_) (by rfl) rfl ?_ ?_
   rotate_left
   ·go_simp
    rfl
   refine hK.out _ _ ⟨gb553, gb554, gb555, m6_, m7_, m8_, (by rw [ha.out]; exact putSel_none (v := undef) rfl), (by (with_reducible repeat (first | refine blk_drewN ?_ _ | refine blk_drew ?_ | refine blk_alloc ?_ _)); refine blk_far ?_ NB551_553.out _; (with_reducible repeat (first | refine blk_drewN ?_ _ | refine blk_drew ?_ | refine blk_alloc ?_ _)); refine blk_far ?_ NB551_553.out _; (with_reducible repeat (first | refine blk_drewN ?_ _ | refine blk_drew ?_ | refine blk_alloc ?_ _)); exact BK551.out), (by (with_reducible repeat (first | refine blk_drewN ?_ _ | refine blk_drew ?_ | refine blk_alloc ?_ _)); refine blk_far ?_ NB552_553.out _; (with_reducible repeat (first | refine blk_drewN ?_ _ | refine blk_drew ?_ | refine blk_alloc ?_ _)); refine blk_far ?_ NB552_553.out _; (with_reducible repeat (first | refine blk_drewN ?_ _ | refine blk_drew ?_ | refine blk_alloc ?_ _)); exact BK552.out), (by repeat (first | (with_reducible first | exact HB.out | apply below_alloc | apply pw_below_drewN | apply below_drew1 | refine below_set ?_ GE551.out | refine below_set ?_ GE552.out | refine below_set ?_ GE553.out | refine below_set ?_ GE554.out | refine below_set ?_ GE555.out) | exact HB.out)), fun _ _ => NB554_553.out, fun _ _ => NB553_554.out, fun _ _ => NB555_553.out, fun _ _ => NB553_555.out, fun _ _ => NB555_554.out, fun _ _ => NB554_555.out, fun _ h1_ => absurd ((up_self b 9).symm.trans h1_) (by decide), fun _ => GW553.out, fun _ => GE553.out, fun _ => NB551_553.out, fun _ => NB553_551.out, fun _ => NB552_553.out, fun _ => NB553_552.out, fun _ _ => (by (with_reducible repeat (first | refine blk_drewN ?_ _ | refine blk_drew ?_ | refine blk_alloc ?_ _)); refine blk_far ?_ NB554_553.out _; (with_reducible repeat (first | refine blk_drewN ?_ _ | refine blk_drew ?_ | refine blk_alloc ?_ _)); refine blk_far ?_ NB554_553.out _; (with_reducible repeat (first | refine blk_drewN ?_ _ | refine blk_drew ?_ | refine blk_alloc ?_ _)); exact BK554.out), fun _ => GW554.out, fun _ => GE554.out, fun _ => NB551_554.out, fun _ => NB554_551.out, fun _ => NB552_554.out, fun _ => NB554_552.out, fun _ _ => (by (with_reducible repeat (first | refine blk_drewN ?_ _ | refine blk_drew ?_ | refine blk_alloc ?_ _)); refine blk_far ?_ NB555_553.out _; (with_reducible repeat (first | refine blk_drewN ?_ _ | refine blk_drew ?_ | refine blk_alloc ?_ _)); refine blk_far ?_ NB555_553.out _; (with_reducible repeat (first | refine blk_drewN ?_ _ | refine blk_drew ?_ | refine blk_alloc ?_ _)); exact BK555.out), fun _ => GW555.out, fun _ => GE555.out, fun _ => NB551_555.out, fun _ => NB555_551.out, fun _ => NB552_555.out, fun _ => NB555_552.out, fun _ => (by (with_reducible repeat (first | refine blk_drewN ?_ _ | refine blk_drew ?_ | refine blk_alloc ?_ _)); refine blk_put (cs := #[.int .i64 a0_0, .int .i64 0]) ?_ 1 _ rfl; (with_reducible repeat (first | refine blk_drewN ?_ _ | refine blk_drew ?_ | refine blk_alloc ?_ _)); refine blk_put (cs := #[.int .i64 0, .int .i64 0]) ?_ 0 _ rfl; (with_reducible repeat (first | refine blk_drewN ?_ _ | refine blk_drew ?_ | refine blk_alloc ?_ _)); exact BK553.out), fun h0_ => absurd ((hoff 10 (by kernel_rfl)).symm.trans h0_) (by decide), fun h0_ => absurd ((hoff 11 (by kernel_rfl)).symm.trans h0_) (by decide), Q_X6_, Q_X7_, Q_X8_⟩
  refine steps_cons ?_ ?_
  ·rintro b a w' ⟨gb553, gb554, gb555, m6_, m7_, m8_, ha, Q_BK551, Q_BK552, Q_HB, Q_NB554_553, Q_NB553_554, Q_NB555_553, Q_NB553_555, Q_NB555_554, Q_NB554_555, Q_BK553, Q_GW553, Q_GE553, Q_NB551_553, Q_NB553_551, Q_NB552_553, Q_NB553_552, Q_BK554, Q_GW554, Q_GE554, Q_NB551_554, Q_NB554_551, Q_NB552_554, Q_NB554_552, Q_BK555, Q_GW555, Q_GE555, Q_NB551_555, Q_NB555_551, Q_NB552_555, Q_NB555_552, Q_BK553_e9, Q_BK554_e10, Q_BK555_e11, Q_X6_, Q_X7_, Q_X8_⟩ hb_ hon hoff
   refine ⟨_, rfl, fun K hK => ?_⟩
   have e6 : a.tmps[6]? = some (m7_) := by rw [ha]; exact putSel_on (e := (7, 6, m7_)) 4 rfl rfl (hon 7 (by kernel_rfl)) rfl
   rw [Q_X7_ (hon 7 (by kernel_rfl))] at e6
   have e12 : a.tmps[12]? = some (.agg #[.int .i64 a0_2, .int .i64 a0_3]) := by rw [ha]; exact putSel_on (e := (3, 12, .agg #[.int .i64 a0_2, .int .i64 a0_3])) 1 rfl rfl (hon 3 (by kernel_rfl)) rfl
   replace ha := Aside0.mk ha
   have BK551 := Aside0.mk Q_BK551
   have BK552 := Aside0.mk Q_BK552
   have HB := Aside0.mk Q_HB
   have NB554_553 := Aside0.mk (Q_NB554_553 (hon 6 (by kernel_rfl)) (hon 7 (by kernel_rfl)))
   have NB553_554 := Aside0.mk (Q_NB553_554 (hon 6 (by kernel_rfl)) (hon 7 (by kernel_rfl)))
   have NB555_553 := Aside0.mk (Q_NB555_553 (hon 6 (by kernel_rfl)) (hon 8 (by kernel_rfl)))
   have NB553_555 := Aside0.mk (Q_NB553_555 (hon 6 (by kernel_rfl)) (hon 8 (by kernel_rfl)))
   have NB555_554 := Aside0.mk (Q_NB555_554 (hon 7 (by kernel_rfl)) (hon 8 (by kernel_rfl)))
   have NB554_555 := Aside0.mk (Q_NB554_555 (hon 7 (by kernel_rfl)) (hon 8 (by kernel_rfl)))
   have GW553 := Aside0.mk (Q_GW553 (hon 6 (by kernel_rfl)))
   have GE553 := Aside0.mk (Q_GE553 (hon 6 (by kernel_rfl)))
   have NB551_553 := Aside0.mk (Q_NB551_553 (hon 6 (by kernel_rfl)))
   have NB553_551 := Aside0.mk (Q_NB553_551 (hon 6 (by kernel_rfl)))
   have NB552_553 := Aside0.mk (Q_NB552_553 (hon 6 (by kernel_rfl)))
   have NB553_552 := Aside0.mk (Q_NB553_552 (hon 6 (by kernel_rfl)))
   have BK554 := Aside0.mk (Q_BK554 (hon 7 (by kernel_rfl)) hb_)
   have GW554 := Aside0.mk (Q_GW554 (hon 7 (by kernel_rfl)))
   have GE554 := Aside0.mk (Q_GE554 (hon 7 (by kernel_rfl)))
   have NB551_554 := Aside0.mk (Q_NB551_554 (hon 7 (by kernel_rfl)))
   have NB554_551 := Aside0.mk (Q_NB554_551 (hon 7 (by kernel_rfl)))
   have NB552_554 := Aside0.mk (Q_NB552_554 (hon 7 (by kernel_rfl)))
   have NB554_552 := Aside0.mk (Q_NB554_552 (hon 7 (by kernel_rfl)))
   have BK555 := Aside0.mk (Q_BK555 (hon 8 (by kernel_rfl)) (hoff 11 (by kernel_rfl)))
   have GW555 := Aside0.mk (Q_GW555 (hon 8 (by kernel_rfl)))
   have GE555 := Aside0.mk (Q_GE555 (hon 8 (by kernel_rfl)))
   have NB551_555 := Aside0.mk (Q_NB551_555 (hon 8 (by kernel_rfl)))
   have NB555_551 := Aside0.mk (Q_NB555_551 (hon 8 (by kernel_rfl)))
   have NB552_555 := Aside0.mk (Q_NB552_555 (hon 8 (by kernel_rfl)))
   have NB555_552 := Aside0.mk (Q_NB555_552 (hon 8 (by kernel_rfl)))
   have BK553 := Aside0.mk (Q_BK553_e9 (hon 9 (by kernel_rfl)))
   have hs13 : w'.cell? ⟨gb554, 0, none⟩ = some (.int .i64 0) := (blk_cell BK554.out 0).trans rfl
   have hfs13 := blk_frozen BK554.out 0
   have hns13_0 := NB551_554.out
   have hns13_1 := NB552_554.out
   have hns13_2 := NB553_554.out
   have hns13_4 := NB555_554.out
   have hms13_0 := NB554_551.out
   have hms13_1 := NB554_552.out
   have hms13_2 := NB554_553.out
   have hms13_4 := NB554_555.out
   have hs14 : w'.cell? ⟨gb554, 1, none⟩ = some (.int .i64 0) := (blk_cell BK554.out 1).trans rfl
   have hfs14 := blk_frozen BK554.out 1
   have hns14_0 := NB551_554.out
   have hns14_1 := NB552_554.out
   have hns14_2 := NB553_554.out
   have hns14_4 := NB555_554.out
   have hms14_0 := NB554_551.out
   have hms14_1 := NB554_552.out
   have hms14_2 := NB554_553.out
   have hms14_4 := NB554_555.out
   refine skip_ (w1 := ?_) (by rfl) rfl ?_ ?_
   rotate_left
   ·go_simp
    rfl
   refine hK.out _ _ ⟨gb553, gb554, gb555, m6_, m7_, m8_, (by rw [ha.out]; exact putSel_none (v := undef) rfl), (by (with_reducible repeat (first | refine blk_drewN ?_ _ | refine blk_drew ?_ | refine blk_alloc ?_ _)); refine blk_far ?_ NB551_554.out _; (with_reducible repeat (first | refine blk_drewN ?_ _ | refine blk_drew ?_ | refine blk_alloc ?_ _)); refine blk_far ?_ NB551_554.out _; (with_reducible repeat (first | refine blk_drewN ?_ _ | refine blk_drew ?_ | refine blk_alloc ?_ _)); exact BK551.out), (by (with_reducible repeat (first | refine blk_drewN ?_ _ | refine blk_drew ?_ | refine blk_alloc ?_ _)); refine blk_far ?_ NB552_554.out _; (with_reducible repeat (first | refine blk_drewN ?_ _ | refine blk_drew ?_ | refine blk_alloc ?_ _)); refine blk_far ?_ NB552_554.out _; (with_reducible repeat (first | refine blk_drewN ?_ _ | refine blk_drew ?_ | refine blk_alloc ?_ _)); exact BK552.out), (by repeat (first | (with_reducible first | exact HB.out | apply below_alloc | apply pw_below_drewN | apply below_drew1 | refine below_set ?_ GE551.out | refine below_set ?_ GE552.out | refine below_set ?_ GE553.out | refine below_set ?_ GE554.out | refine below_set ?_ GE555.out) | exact HB.out)), fun _ _ => NB554_553.out, fun _ _ => NB553_554.out, fun _ _ => NB555_553.out, fun _ _ => NB553_555.out, fun _ _ => NB555_554.out, fun _ _ => NB554_555.out, fun _ h1_ => absurd ((hon 9 (by kernel_rfl)).symm.trans h1_) (by decide), fun _ => GW553.out, fun _ => GE553.out, fun _ => NB551_553.out, fun _ => NB553_551.out, fun _ => NB552_553.out, fun _ => NB553_552.out, fun _ h1_ => absurd ((up_self b 10).symm.trans h1_) (by decide), fun _ => GW554.out, fun _ => GE554.out, fun _ => NB551_554.out, fun _ => NB554_551.out, fun _ => NB552_554.out, fun _ => NB554_552.out, fun _ _ => (by (with_reducible repeat (first | refine blk_drewN ?_ _ | refine blk_drew ?_ | refine blk_alloc ?_ _)); refine blk_far ?_ NB555_554.out _; (with_reducible repeat (first | refine blk_drewN ?_ _ | refine blk_drew ?_ | refine blk_alloc ?_ _)); refine blk_far ?_ NB555_554.out _; (with_reducible repeat (first | refine blk_drewN ?_ _ | refine blk_drew ?_ | refine blk_alloc ?_ _)); exact BK555.out), fun _ => GW555.out, fun _ => GE555.out, fun _ => NB551_555.out, fun _ => NB555_551.out, fun _ => NB552_555.out, fun _ => NB555_552.out, fun _ => (by (with_reducible repeat (first | refine blk_drewN ?_ _ | refine blk_drew ?_ | refine blk_alloc ?_ _)); refine blk_far ?_ NB553_554.out _; (with_reducible repeat (first | refine blk_drewN ?_ _ | refine blk_drew ?_ | refine blk_alloc ?_ _)); refine blk_far ?_ NB553_554.out _; (with_reducible repeat (first | refine blk_drewN ?_ _ | refine blk_drew ?_ | refine blk_alloc ?_ _)); exact BK553.out), fun _ => (by (with_reducible repeat (first | refine blk_drewN ?_ _ | refine blk_drew ?_ | refine blk_alloc ?_ _)); refine blk_put (cs := #[.int .i64 a0_2, .int .i64 0]) ?_ 1 _ rfl; (with_reducible repeat (first | refine blk_drewN ?_ _ | refine blk_drew ?_ | refine blk_alloc ?_ _)); refine blk_put (cs := #[.int .i64 0, .int .i64 0]) ?_ 0 _ rfl; (with_reducible repeat (first | refine blk_drewN ?_ _ | refine blk_drew ?_ | refine blk_alloc ?_ _)); exact BK554.out), fun h0_ => absurd ((hoff 11 (by kernel_rfl)).symm.trans h0_) (by decide), Q_X6_, Q_X7_, Q_X8_⟩
  refine steps_cons ?_ ?_
  ·rintro b a w' ⟨gb553, gb554, gb555, m6_, m7_, m8_, ha, Q_BK551, Q_BK552, Q_HB, Q_NB554_553, Q_NB553_554, Q_NB555_553, Q_NB553_555, Q_NB555_554, Q_NB554_555, Q_BK553, Q_GW553, Q_GE553, Q_NB551_553, Q_NB553_551, Q_NB552_553, Q_NB553_552, Q_BK554, Q_GW554, Q_GE554, Q_NB551_554, Q_NB554_551, Q_NB552_554, Q_NB554_552, Q_BK555, Q_GW555, Q_GE555, Q_NB551_555, Q_NB555_551, Q_NB552_555, Q_NB555_552, Q_BK553_e9, Q_BK554_e10, Q_BK555_e11, Q_X6_, Q_X7_, Q_X8_⟩ hb_ hon hoff
   refine ⟨_, rfl, fun K hK => ?_⟩
   have e7 : a.tmps[7]? = some (m8_) := by rw [ha]; exact putSel_on (e := (8, 7, m8_)) 5 rfl rfl (hon 8 (by kernel_rfl)) rfl
   rw [Q_X8_ (hon 8 (by kernel_rfl))] at e7
   have e14 : a.tmps[14]? = some (.agg #[.int .i64 a0_4, .int .i64 a0_5]) := by rw [ha]; exact putSel_on (e := (5, 14, .agg #[.int .i64 a0_4, .int .i64 a0_5])) 2 rfl rfl (hon 5 (by kernel_rfl)) rfl
   replace ha := Aside0.mk ha
   have BK551 := Aside0.mk Q_BK551
   have BK552 := Aside0.mk Q_BK552
   have HB := Aside0.mk Q_HB
   have NB554_553 := Aside0.mk (Q_NB554_553 (hon 6 (by kernel_rfl)) (hon 7 (by kernel_rfl)))
   have NB553_554 := Aside0.mk (Q_NB553_554 (hon 6 (by kernel_rfl)) (hon 7 (by kernel_rfl)))
   have NB555_553 := Aside0.mk (Q_NB555_553 (hon 6 (by kernel_rfl)) (hon 8 (by kernel_rfl)))
   have NB553_555 := Aside0.mk (Q_NB553_555 (hon 6 (by kernel_rfl)) (hon 8 (by kernel_rfl)))
   have NB555_554 := Aside0.mk (Q_NB555_554 (hon 7 (by kernel_rfl)) (hon 8 (by kernel_rfl)))
   have NB554_555 := Aside0.mk (Q_NB554_555 (hon 7 (by kernel_rfl)) (hon 8 (by kernel_rfl)))
   have GW553 := Aside0.mk (Q_GW553 (hon 6 (by kernel_rfl)))
   have GE553 := Aside0.mk (Q_GE553 (hon 6 (by kernel_rfl)))
   have NB551_553 := Aside0.mk (Q_NB551_553 (hon 6 (by kernel_rfl)))
   have NB553_551 := Aside0.mk (Q_NB553_551 (hon 6 (by kernel_rfl)))
   have NB552_553 := Aside0.mk (Q_NB552_553 (hon 6 (by kernel_rfl)))
   have NB553_552 := Aside0.mk (Q_NB553_552 (hon 6 (by kernel_rfl)))
   have GW554 := Aside0.mk (Q_GW554 (hon 7 (by kernel_rfl)))
   have GE554 := Aside0.mk (Q_GE554 (hon 7 (by kernel_rfl)))
   have NB551_554 := Aside0.mk (Q_NB551_554 (hon 7 (by kernel_rfl)))
   have NB554_551 := Aside0.mk (Q_NB554_551 (hon 7 (by kernel_rfl)))
   have NB552_554 := Aside0.mk (Q_NB552_554 (hon 7 (by kernel_rfl)))
   have NB554_552 := Aside0.mk (Q_NB554_552 (hon 7 (by kernel_rfl)))
   have BK555 := Aside0.mk (Q_BK555 (hon 8 (by kernel_rfl)) hb_)
   have GW555 := Aside0.mk (Q_GW555 (hon 8 (by kernel_rfl)))
   have GE555 := Aside0.mk (Q_GE555 (hon 8 (by kernel_rfl)))
   have NB551_555 := Aside0.mk (Q_NB551_555 (hon 8 (by kernel_rfl)))
   have NB555_551 := Aside0.mk (Q_NB555_551 (hon 8 (by kernel_rfl)))
   have NB552_555 := Aside0.mk (Q_NB552_555 (hon 8 (by kernel_rfl)))
   have NB555_552 := Aside0.mk (Q_NB555_552 (hon 8 (by kernel_rfl)))
   have BK553 := Aside0.mk (Q_BK553_e9 (hon 9 (by kernel_rfl)))
   have BK554 := Aside0.mk (Q_BK554_e10 (hon 10 (by kernel_rfl)))
   have hs15 : w'.cell? ⟨gb555, 0, none⟩ = some (.int .i64 0) := (blk_cell BK555.out 0).trans rfl
   have hfs15 := blk_frozen BK555.out 0
   have hns15_0 := NB551_555.out
   have hns15_1 := NB552_555.out
   have hns15_2 := NB553_555.out
   have hns15_3 := NB554_555.out
   have hms15_0 := NB555_551.out
   have hms15_1 := NB555_552.out
   have hms15_2 := NB555_553.out
   have hms15_3 := NB555_554.out
   have hs16 : w'.cell? ⟨gb555, 1, none⟩ = some (.int .i64 0) := (blk_cell BK555.out 1).trans rfl
   have hfs16 := blk_frozen BK555.out 1
   have hns16_0 := NB551_555.out
   have hns16_1 := NB552_555.out
   have hns16_2 := NB553_555.out
   have hns16_3 := NB554_555.out
   have hms16_0 := NB555_551.out
   have hms16_1 := NB555_552.out
   have hms16_2 := NB555_553.out
   have hms16_3 := NB555_554.out
   refine skip_ (w1 := ?_) (by rfl) rfl ?_ ?_
   rotate_left
   ·go_simp
    rfl
   refine hK.out _ _ ⟨gb553, gb554, gb555, m6_, m7_, m8_, (by rw [ha.out]; exact putSel_none (v := undef) rfl), (by (with_reducible repeat (first | refine blk_drewN ?_ _ | refine blk_drew ?_ | refine blk_alloc ?_ _)); refine blk_far ?_ NB551_555.out _; (with_reducible repeat (first | refine blk_drewN ?_ _ | refine blk_drew ?_ | refine blk_alloc ?_ _)); refine blk_far ?_ NB551_555.out _; (with_reducible repeat (first | refine blk_drewN ?_ _ | refine blk_drew ?_ | refine blk_alloc ?_ _)); exact BK551.out), (by (with_reducible repeat (first | refine blk_drewN ?_ _ | refine blk_drew ?_ | refine blk_alloc ?_ _)); refine blk_far ?_ NB552_555.out _; (with_reducible repeat (first | refine blk_drewN ?_ _ | refine blk_drew ?_ | refine blk_alloc ?_ _)); refine blk_far ?_ NB552_555.out _; (with_reducible repeat (first | refine blk_drewN ?_ _ | refine blk_drew ?_ | refine blk_alloc ?_ _)); exact BK552.out), (by repeat (first | (with_reducible first | exact HB.out | apply below_alloc | apply pw_below_drewN | apply below_drew1 | refine below_set ?_ GE551.out | refine below_set ?_ GE552.out | refine below_set ?_ GE553.out | refine below_set ?_ GE554.out | refine below_set ?_ GE555.out) | exact HB.out)), fun _ _ => NB554_553.out, fun _ _ => NB553_554.out, fun _ _ => NB555_553.out, fun _ _ => NB553_555.out, fun _ _ => NB555_554.out, fun _ _ => NB554_555.out, fun _ h1_ => absurd ((hon 9 (by kernel_rfl)).symm.trans h1_) (by decide), fun _ => GW553.out, fun _ => GE553.out, fun _ => NB551_553.out, fun _ => NB553_551.out, fun _ => NB552_553.out, fun _ => NB553_552.out, fun _ h1_ => absurd ((hon 10 (by kernel_rfl)).symm.trans h1_) (by decide), fun _ => GW554.out, fun _ => GE554.out, fun _ => NB551_554.out, fun _ => NB554_551.out, fun _ => NB552_554.out, fun _ => NB554_552.out, fun _ h1_ => absurd ((up_self b 11).symm.trans h1_) (by decide), fun _ => GW555.out, fun _ => GE555.out, fun _ => NB551_555.out, fun _ => NB555_551.out, fun _ => NB552_555.out, fun _ => NB555_552.out, fun _ => (by (with_reducible repeat (first | refine blk_drewN ?_ _ | refine blk_drew ?_ | refine blk_alloc ?_ _)); refine blk_far ?_ NB553_555.out _; (with_reducible repeat (first | refine blk_drewN ?_ _ | refine blk_drew ?_ | refine blk_alloc ?_ _)); refine blk_far ?_ NB553_555.out _; (with_reducible repeat (first | refine blk_drewN ?_ _ | refine blk_drew ?_ | refine blk_alloc ?_ _)); exact BK553.out), fun _ => (by (with_reducible repeat (first | refine blk_drewN ?_ _ | refine blk_drew ?_ | refine blk_alloc ?_ _)); refine blk_far ?_ NB554_555.out _; (with_reducible repeat (first | refine blk_drewN ?_ _ | refine blk_drew ?_ | refine blk_alloc ?_ _)); refine blk_far ?_ NB554_555.out _; (with_reducible repeat (first | refine blk_drewN ?_ _ | refine blk_drew ?_ | refine blk_alloc ?_ _)); exact BK554.out), fun _ => (by (with_reducible repeat (first | refine blk_drewN ?_ _ | refine blk_drew ?_ | refine blk_alloc ?_ _)); refine blk_put (cs := #[.int .i64 a0_4, .int .i64 0]) ?_ 1 _ rfl; (with_reducible repeat (first | refine blk_drewN ?_ _ | refine blk_drew ?_ | refine blk_alloc ?_ _)); refine blk_put (cs := #[.int .i64 0, .int .i64 0]) ?_ 0 _ rfl; (with_reducible repeat (first | refine blk_drewN ?_ _ | refine blk_drew ?_ | refine blk_alloc ?_ _)); exact BK555.out), Q_X6_, Q_X7_, Q_X8_⟩
  exact steps_nil
 rintro b a w16 hall ⟨gb553, gb554, gb555, m6_, m7_, m8_, ha, Q_BK551, Q_BK552, Q_HB, Q_NB554_553, Q_NB553_554, Q_NB555_553, Q_NB553_555, Q_NB555_554, Q_NB554_555, Q_BK553, Q_GW553, Q_GE553, Q_NB551_553, Q_NB553_551, Q_NB552_553, Q_NB553_552, Q_BK554, Q_GW554, Q_GE554, Q_NB551_554, Q_NB554_551, Q_NB552_554, Q_NB554_552, Q_BK555, Q_GW555, Q_GE555, Q_NB551_555, Q_NB555_551, Q_NB552_555, Q_NB555_552, Q_BK553_e9, Q_BK554_e10, Q_BK555_e11, Q_X6_, Q_X7_, Q_X8_⟩
 clear BK551 BK552 HB
 have hb1_ := hall 1 (by kernel_rfl)
 have hb3_ := hall 3 (by kernel_rfl)
 have hb5_ := hall 5 (by kernel_rfl)
 have hb6_ := hall 6 (by kernel_rfl)
 have hb7_ := hall 7 (by kernel_rfl)
 have hb8_ := hall 8 (by kernel_rfl)
 have hb9_ := hall 9 (by kernel_rfl)
 have hb10_ := hall 10 (by kernel_rfl)
 have hb11_ := hall 11 (by kernel_rfl)
 subst ha
 obtain rfl := Q_X6_ hb6_
 obtain rfl := Q_X7_ hb7_
 obtain rfl := Q_X8_ hb8_
 simp only [putSel, hb1_, hb3_, hb5_, hb6_, hb7_, hb8_, hb9_, hb10_, hb11_, if_true, Act.put, List.setIfInBounds_toArray, List.set_cons_zero, List.set_cons_succ]
 have BK551 := Aside0.mk Q_BK551
 clear Q_BK551
 have BK552 := Aside0.mk Q_BK552
 clear Q_BK552
 have HB := Aside0.mk Q_HB
 clear Q_HB
 have NB554_553 := Aside0.mk (Q_NB554_553 hb6_ hb7_)
 clear Q_NB554_553
 have NB553_554 := Aside0.mk (Q_NB553_554 hb6_ hb7_)
 clear Q_NB553_554
 have NB555_553 := Aside0.mk (Q_NB555_553 hb6_ hb8_)
 clear Q_NB555_553
 have NB553_555 := Aside0.mk (Q_NB553_555 hb6_ hb8_)
 clear Q_NB553_555
 have NB555_554 := Aside0.mk (Q_NB555_554 hb7_ hb8_)
 clear Q_NB555_554
 have NB554_555 := Aside0.mk (Q_NB554_555 hb7_ hb8_)
 clear Q_NB554_555
 clear Q_BK553
 have GW553 := Aside0.mk (Q_GW553 hb6_)
 clear Q_GW553
 have GE553 := Aside0.mk (Q_GE553 hb6_)
 clear Q_GE553
 have NB551_553 := Aside0.mk (Q_NB551_553 hb6_)
 clear Q_NB551_553
 have NB553_551 := Aside0.mk (Q_NB553_551 hb6_)
 clear Q_NB553_551
 have NB552_553 := Aside0.mk (Q_NB552_553 hb6_)
 clear Q_NB552_553
 have NB553_552 := Aside0.mk (Q_NB553_552 hb6_)
 clear Q_NB553_552
 clear Q_BK554
 have GW554 := Aside0.mk (Q_GW554 hb7_)
 clear Q_GW554
 have GE554 := Aside0.mk (Q_GE554 hb7_)
 clear Q_GE554
 have NB551_554 := Aside0.mk (Q_NB551_554 hb7_)
 clear Q_NB551_554
 have NB554_551 := Aside0.mk (Q_NB554_551 hb7_)
 clear Q_NB554_551
 have NB552_554 := Aside0.mk (Q_NB552_554 hb7_)
 clear Q_NB552_554
 have NB554_552 := Aside0.mk (Q_NB554_552 hb7_)
 clear Q_NB554_552
 clear Q_BK555
 have GW555 := Aside0.mk (Q_GW555 hb8_)
 clear Q_GW555
 have GE555 := Aside0.mk (Q_GE555 hb8_)
 clear Q_GE555
 have NB551_555 := Aside0.mk (Q_NB551_555 hb8_)
 clear Q_NB551_555
 have NB555_551 := Aside0.mk (Q_NB555_551 hb8_)
 clear Q_NB555_551
 have NB552_555 := Aside0.mk (Q_NB552_555 hb8_)
 clear Q_NB552_555
 have NB555_552 := Aside0.mk (Q_NB555_552 hb8_)
 clear Q_NB555_552
 have BK553 := Aside0.mk (Q_BK553_e9 hb9_)
 clear Q_BK553_e9
 have BK554 := Aside0.mk (Q_BK554_e10 hb10_)
 clear Q_BK554_e10
 have BK555 := Aside0.mk (Q_BK555_e11 hb11_)
 clear Q_BK555_e11
 clear hall hb1_ hb3_ hb5_ hb6_ hb7_ hb8_ hb9_ hb10_ hb11_
 go_upto_region 2 with (fail)
 go_cut [48] (fun v48 wc => ∃ (kq : Nat) (x48_2 : Bool), v48 = .bool x48_2 ∧ Aside0 (zelligelaw08_TieDiagonals.j0 kq x48_2 a1_0 a1_1 a0_0 a0_1 a0_2 a0_3 a0_4 a0_5 = some true) ∧ Aside0 (kq ≤ k) ∧ Aside0 (wc.heap[gb551]? = some (.cells #[.int .i64 a0_0, .int .i64 a0_1, .int .i64 a0_2, .int .i64 a0_3, .int .i64 a0_4, .int .i64 a0_5] 24 (0, 0))) ∧ Aside0 (wc.heap[gb552]? = some (.cells #[.int .i64 a1_0, .int .i64 a1_1] 23 (0, 0))) ∧ Aside0 (wc.heap[gb553]? = some (.cells #[.int .i64 a0_0, .int .i64 a0_1] 23 (0, 0))) ∧ Aside0 (wc.heap[gb554]? = some (.cells #[.int .i64 a0_2, .int .i64 a0_3] 23 (0, 0))) ∧ Aside0 (wc.heap[gb555]? = some (.cells #[.int .i64 a0_4, .int .i64 a0_5] 23 (0, 0))) ∧ Aside0 (Below w.heap.size w wc))
 case first =>
  have H := HC3.out
  clear HC3
  replace H := Option.bind_eq_some_iff.mp H
  obtain ⟨t556, A170, H⟩ := H
  replace H : (if t556 = true then ((zelligeref07_Orient.f a0_0 a0_1 a0_2 a0_3 a0_4 a0_5).bind fun t557 => (if t557 = 1 then ((zelligeref07_Orient.f a0_2 a0_3 a0_4 a0_5 a1_0 a1_1).bind fun t558 => (if t558 = 1 then ((zelligeref07_Orient.f a0_4 a0_5 a1_0 a1_1 a0_0 a0_1).bind fun t559 => (if t559 = 1 then ((zelligeref07_Orient.f a1_0 a1_1 a0_0 a0_1 a0_2 a0_3).bind fun t560 => (zelligelaw08_TieDiagonals.j0 k (t560 != 1) a1_0 a1_1 a0_0 a0_1 a0_2 a0_3 a0_4 a0_5)) else (zelligelaw08_TieDiagonals.j0 k true a1_0 a1_1 a0_0 a0_1 a0_2 a0_3 a0_4 a0_5))) else (zelligelaw08_TieDiagonals.j0 k true a1_0 a1_1 a0_0 a0_1 a0_2 a0_3 a0_4 a0_5))) else (zelligelaw08_TieDiagonals.j0 k true a1_0 a1_1 a0_0 a0_1 a0_2 a0_3 a0_4 a0_5))) else (zelligelaw08_TieDiagonals.j0 k true a1_0 a1_1 a0_0 a0_1 a0_2 a0_3 a0_4 a0_5)) = some true := H
  have A17 := Aside0.mk A170
  clear A170
  by_cases c18 : t556 = true
  ·subst c18
   have H1 : ((zelligeref07_Orient.f a0_0 a0_1 a0_2 a0_3 a0_4 a0_5).bind fun t557 => (if t557 = 1 then ((zelligeref07_Orient.f a0_2 a0_3 a0_4 a0_5 a1_0 a1_1).bind fun t558 => (if t558 = 1 then ((zelligeref07_Orient.f a0_4 a0_5 a1_0 a1_1 a0_0 a0_1).bind fun t559 => (if t559 = 1 then ((zelligeref07_Orient.f a1_0 a1_1 a0_0 a0_1 a0_2 a0_3).bind fun t560 => (zelligelaw08_TieDiagonals.j0 k (t560 != 1) a1_0 a1_1 a0_0 a0_1 a0_2 a0_3 a0_4 a0_5)) else (zelligelaw08_TieDiagonals.j0 k true a1_0 a1_1 a0_0 a0_1 a0_2 a0_3 a0_4 a0_5))) else (zelligelaw08_TieDiagonals.j0 k true a1_0 a1_1 a0_0 a0_1 a0_2 a0_3 a0_4 a0_5))) else (zelligelaw08_TieDiagonals.j0 k true a1_0 a1_1 a0_0 a0_1 a0_2 a0_3 a0_4 a0_5))) = some true := by rw [if_pos rfl] at H; exact H
   clear H
   have H := H1
   clear H1
   replace H := Option.bind_eq_some_iff.mp H
   obtain ⟨t557, A190, H⟩ := H
   replace H : (if t557 = 1 then ((zelligeref07_Orient.f a0_2 a0_3 a0_4 a0_5 a1_0 a1_1).bind fun t558 => (if t558 = 1 then ((zelligeref07_Orient.f a0_4 a0_5 a1_0 a1_1 a0_0 a0_1).bind fun t559 => (if t559 = 1 then ((zelligeref07_Orient.f a1_0 a1_1 a0_0 a0_1 a0_2 a0_3).bind fun t560 => (zelligelaw08_TieDiagonals.j0 k (t560 != 1) a1_0 a1_1 a0_0 a0_1 a0_2 a0_3 a0_4 a0_5)) else (zelligelaw08_TieDiagonals.j0 k true a1_0 a1_1 a0_0 a0_1 a0_2 a0_3 a0_4 a0_5))) else (zelligelaw08_TieDiagonals.j0 k true a1_0 a1_1 a0_0 a0_1 a0_2 a0_3 a0_4 a0_5))) else (zelligelaw08_TieDiagonals.j0 k true a1_0 a1_1 a0_0 a0_1 a0_2 a0_3 a0_4 a0_5)) = some true := H
   have A19 := Aside0.mk A190
   clear A190
   by_cases c20 : t557 = 1
   ·rw [if_pos c20] at H
    have c20b0 : (t557 == 1) = true := beq_iff_eq.mpr c20
    have c20b1 : (t557 != 1) = false := bne_eq_false_iff_eq.mpr c20
    clear c20
    (first | rw [c20b0] | (simp only [i64_w, i32_w]; rw [c20b0]) | skip)
    replace H := Option.bind_eq_some_iff.mp H
    obtain ⟨t558, A210, H⟩ := H
    replace H : (if t558 = 1 then ((zelligeref07_Orient.f a0_4 a0_5 a1_0 a1_1 a0_0 a0_1).bind fun t559 => (if t559 = 1 then ((zelligeref07_Orient.f a1_0 a1_1 a0_0 a0_1 a0_2 a0_3).bind fun t560 => (zelligelaw08_TieDiagonals.j0 k (t560 != 1) a1_0 a1_1 a0_0 a0_1 a0_2 a0_3 a0_4 a0_5)) else (zelligelaw08_TieDiagonals.j0 k true a1_0 a1_1 a0_0 a0_1 a0_2 a0_3 a0_4 a0_5))) else (zelligelaw08_TieDiagonals.j0 k true a1_0 a1_1 a0_0 a0_1 a0_2 a0_3 a0_4 a0_5)) = some true := H
    have A21 := Aside0.mk A210
    clear A210
    by_cases c22 : t558 = 1
    ·rw [if_pos c22] at H
     have c22b0 : (t558 == 1) = true := beq_iff_eq.mpr c22
     have c22b1 : (t558 != 1) = false := bne_eq_false_iff_eq.mpr c22
     clear c22
     replace H := Option.bind_eq_some_iff.mp H
     obtain ⟨t559, A230, H⟩ := H
     replace H : (if t559 = 1 then ((zelligeref07_Orient.f a1_0 a1_1 a0_0 a0_1 a0_2 a0_3).bind fun t560 => (zelligelaw08_TieDiagonals.j0 k (t560 != 1) a1_0 a1_1 a0_0 a0_1 a0_2 a0_3 a0_4 a0_5)) else (zelligelaw08_TieDiagonals.j0 k true a1_0 a1_1 a0_0 a0_1 a0_2 a0_3 a0_4 a0_5)) = some true := H
     have A23 := Aside0.mk A230
     clear A230
     by_cases c24 : t559 = 1
     ·rw [if_pos c24] at H
      have c24b0 : (t559 == 1) = true := beq_iff_eq.mpr c24
      have c24b1 : (t559 != 1) = false := bne_eq_false_iff_eq.mpr c24
      clear c24
      replace H := Option.bind_eq_some_iff.mp H
      obtain ⟨t560, A250, H⟩ := H
      replace H : (zelligelaw08_TieDiagonals.j0 k (t560 != 1) a1_0 a1_1 a0_0 a0_1 a0_2 a0_3 a0_4 a0_5) = some true := H
      have A25 := Aside0.mk A250
      clear A250
      have H' := Aside0.mk H
      clear H
      have hnb26 := NB553_551.out
      have hnc26 := NB551_553.out
      have hnb27 := NB553_552.out
      have hnc27 := NB552_553.out
      have hnb28 := NB553_554.out
      have hnc28 := NB554_553.out
      have hnb29 := NB553_555.out
      have hnc29 := NB555_553.out
      have hcz30_0 : w16.cell? ⟨gb553, 0, none⟩ = some (.int .i64 a0_0) := (blk_cell BK553.out 0).trans rfl
      have hcz30_1 : w16.cell? ⟨gb553, 1, none⟩ = some (.int .i64 a0_1) := (blk_cell BK553.out 1).trans rfl
      have hfz30_0 := blk_frozen BK553.out 0
      have hfz30_1 := blk_frozen BK553.out 1
      have hnb31 := NB554_551.out
      have hnc31 := NB551_554.out
      have hnb32 := NB554_552.out
      have hnc32 := NB552_554.out
      have hnb33 := NB554_555.out
      have hnc33 := NB555_554.out
      have hcz34_0 : w16.cell? ⟨gb554, 0, none⟩ = some (.int .i64 a0_2) := (blk_cell BK554.out 0).trans rfl
      have hcz34_1 : w16.cell? ⟨gb554, 1, none⟩ = some (.int .i64 a0_3) := (blk_cell BK554.out 1).trans rfl
      have hfz34_0 := blk_frozen BK554.out 0
      have hfz34_1 := blk_frozen BK554.out 1
      have hnb35 := NB555_551.out
      have hnc35 := NB551_555.out
      have hnb36 := NB555_552.out
      have hnc36 := NB552_555.out
      have hcz37_0 : w16.cell? ⟨gb555, 0, none⟩ = some (.int .i64 a0_4) := (blk_cell BK555.out 0).trans rfl
      have hcz37_1 : w16.cell? ⟨gb555, 1, none⟩ = some (.int .i64 a0_5) := (blk_cell BK555.out 1).trans rfl
      have hfz37_0 := blk_frozen BK555.out 0
      have hfz37_1 := blk_frozen BK555.out 1
      have hnb38 := NB552_551.out
      have hnc38 := NB551_552.out
      have hcz39_0 : w16.cell? ⟨gb552, 0, none⟩ = some (.int .i64 a1_0) := (blk_cell BK552.out 0).trans rfl
      have hcz39_1 : w16.cell? ⟨gb552, 1, none⟩ = some (.int .i64 a1_1) := (blk_cell BK552.out 1).trans rfl
      have hfz39_0 := blk_frozen BK552.out 0
      have hfz39_1 := blk_frozen BK552.out 1
      go_wp2_with (first | ((with_reducible refine gate_callee (f := 11) rfl ?_); refine goesL_ (some 19) rfl rfl Try.func11 (by kernel_rfl) rfl #[.agg #[.int .i64 a0_0, .int .i64 a0_1], .agg #[.int .i64 a0_2, .int .i64 a0_3], .agg #[.int .i64 a0_4, .int .i64 a0_5], .agg #[.int .i64 a1_0, .int .i64 a1_1]] rfl (by (try simp only [List.map_toArray, List.map_cons, List.map_nil]); first | done | rfl | (simp only [List.length_drop, List.length_take]; rfl)) ?_; (with_reducible refine (zelligeref08_Can.calls a0_0 a0_1 a0_2 a0_3 a0_4 a0_5 a1_0 a1_1 true _ A17.out).mono ?_); rintro e w40 ⟨rfl, hb⟩; refine ⟨_, rfl, ?_⟩; replace BK551 := u1 BK551 hb; replace BK552 := u1 BK552 hb; replace BK553 := u1 BK553 hb; replace BK554 := u1 BK554 hb; replace BK555 := u1 BK555 hb; replace HB := u2 HB hb; clear hb; obtain ⟨hcz41_0, hcz41_1, hfz41_0, hfz41_1⟩ := p2 BK553; obtain ⟨hcz42_0, hcz42_1, hfz42_0, hfz42_1⟩ := p2 BK554; obtain ⟨hcz43_0, hcz43_1, hfz43_0, hfz43_1⟩ := p2 BK555) | (go_at_call 12; (with_reducible refine (zelligeref07_Orient.calls a0_0 a0_1 a0_2 a0_3 a0_4 a0_5 t557 _ A19.out).mono ?_); rintro e w44 ⟨rfl, hb⟩; replace BK551 := u1 BK551 hb; replace BK552 := u1 BK552 hb; replace BK553 := u1 BK553 hb; replace BK554 := u1 BK554 hb; replace BK555 := u1 BK555 hb; replace HB := u2 HB hb; clear hb; obtain ⟨hcz45_0, hcz45_1, hfz45_0, hfz45_1⟩ := p2 BK554; obtain ⟨hcz46_0, hcz46_1, hfz46_0, hfz46_1⟩ := p2 BK555; obtain ⟨hcz47_0, hcz47_1, hfz47_0, hfz47_1⟩ := p2 BK552) | (go_at_call 12; (with_reducible refine (zelligeref07_Orient.calls a0_2 a0_3 a0_4 a0_5 a1_0 a1_1 t558 _ A21.out).mono ?_); rintro e w48 ⟨rfl, hb⟩; replace BK551 := u1 BK551 hb; replace BK552 := u1 BK552 hb; replace BK553 := u1 BK553 hb; replace BK554 := u1 BK554 hb; replace BK555 := u1 BK555 hb; replace HB := u2 HB hb; clear hb; obtain ⟨hcz49_0, hcz49_1, hfz49_0, hfz49_1⟩ := p2 BK555; obtain ⟨hcz50_0, hcz50_1, hfz50_0, hfz50_1⟩ := p2 BK552; obtain ⟨hcz51_0, hcz51_1, hfz51_0, hfz51_1⟩ := p2 BK553) | (go_at_call 12; (with_reducible refine (zelligeref07_Orient.calls a0_4 a0_5 a1_0 a1_1 a0_0 a0_1 t559 _ A23.out).mono ?_); rintro e w52 ⟨rfl, hb⟩; replace BK551 := u1 BK551 hb; replace BK552 := u1 BK552 hb; replace BK553 := u1 BK553 hb; replace BK554 := u1 BK554 hb; replace BK555 := u1 BK555 hb; replace HB := u2 HB hb; clear hb; obtain ⟨hcz53_0, hcz53_1, hfz53_0, hfz53_1⟩ := p2 BK552; obtain ⟨hcz54_0, hcz54_1, hfz54_0, hfz54_1⟩ := p2 BK553; obtain ⟨hcz55_0, hcz55_1, hfz55_0, hfz55_1⟩ := p2 BK554) | (go_at_call 12; (with_reducible refine (zelligeref07_Orient.calls a1_0 a1_1 a0_0 a0_1 a0_2 a0_3 t560 _ A25.out).mono ?_); rintro e w56 ⟨rfl, hb⟩; replace BK551 := u1 BK551 hb; replace BK552 := u1 BK552 hb; replace BK553 := u1 BK553 hb; replace BK554 := u1 BK554 hb; replace BK555 := u1 BK555 hb; replace HB := u2 HB hb; clear hb))
      go_meet
      case rel => exact ⟨_, ((t560 != 1)), (by first | rfl | (simp; done) | (simp [*]; done)), H', ⟨by first | omega | exact Nat.le_refl _⟩, ⟨bk BK551.out⟩, ⟨bk BK552.out⟩, ⟨bk BK553.out⟩, ⟨bk BK554.out⟩, ⟨bk BK555.out⟩, ⟨bw HB.out⟩⟩
     ·rw [if_neg c24] at H
      have c24b0 : (t559 == 1) = false := beq_eq_false_iff_ne.mpr c24
      have c24b1 : (t559 != 1) = true := bne_iff_ne.mpr c24
      have H' := Aside0.mk H
      clear H
      have hnb57 := NB553_551.out
      have hnc57 := NB551_553.out
      have hnb58 := NB553_552.out
      have hnc58 := NB552_553.out
      have hnb59 := NB553_554.out
      have hnc59 := NB554_553.out
      have hnb60 := NB553_555.out
      have hnc60 := NB555_553.out
      have hcz61_0 : w16.cell? ⟨gb553, 0, none⟩ = some (.int .i64 a0_0) := (blk_cell BK553.out 0).trans rfl
      have hcz61_1 : w16.cell? ⟨gb553, 1, none⟩ = some (.int .i64 a0_1) := (blk_cell BK553.out 1).trans rfl
      have hfz61_0 := blk_frozen BK553.out 0
      have hfz61_1 := blk_frozen BK553.out 1
      have hnb62 := NB554_551.out
      have hnc62 := NB551_554.out
      have hnb63 := NB554_552.out
      have hnc63 := NB552_554.out
      have hnb64 := NB554_555.out
      have hnc64 := NB555_554.out
      have hcz65_0 : w16.cell? ⟨gb554, 0, none⟩ = some (.int .i64 a0_2) := (blk_cell BK554.out 0).trans rfl
      have hcz65_1 : w16.cell? ⟨gb554, 1, none⟩ = some (.int .i64 a0_3) := (blk_cell BK554.out 1).trans rfl
      have hfz65_0 := blk_frozen BK554.out 0
      have hfz65_1 := blk_frozen BK554.out 1
      have hnb66 := NB555_551.out
      have hnc66 := NB551_555.out
      have hnb67 := NB555_552.out
      have hnc67 := NB552_555.out
      have hcz68_0 : w16.cell? ⟨gb555, 0, none⟩ = some (.int .i64 a0_4) := (blk_cell BK555.out 0).trans rfl
      have hcz68_1 : w16.cell? ⟨gb555, 1, none⟩ = some (.int .i64 a0_5) := (blk_cell BK555.out 1).trans rfl
      have hfz68_0 := blk_frozen BK555.out 0
      have hfz68_1 := blk_frozen BK555.out 1
      have hnb69 := NB552_551.out
      have hnc69 := NB551_552.out
      have hcz70_0 : w16.cell? ⟨gb552, 0, none⟩ = some (.int .i64 a1_0) := (blk_cell BK552.out 0).trans rfl
      have hcz70_1 : w16.cell? ⟨gb552, 1, none⟩ = some (.int .i64 a1_1) := (blk_cell BK552.out 1).trans rfl
      have hfz70_0 := blk_frozen BK552.out 0
      have hfz70_1 := blk_frozen BK552.out 1
      go_wp2_with (first | ((with_reducible refine gate_callee (f := 11) rfl ?_); refine goesL_ (some 19) rfl rfl Try.func11 (by kernel_rfl) rfl #[.agg #[.int .i64 a0_0, .int .i64 a0_1], .agg #[.int .i64 a0_2, .int .i64 a0_3], .agg #[.int .i64 a0_4, .int .i64 a0_5], .agg #[.int .i64 a1_0, .int .i64 a1_1]] rfl (by (try simp only [List.map_toArray, List.map_cons, List.map_nil]); first | done | rfl | (simp only [List.length_drop, List.length_take]; rfl)) ?_; (with_reducible refine (zelligeref08_Can.calls a0_0 a0_1 a0_2 a0_3 a0_4 a0_5 a1_0 a1_1 true _ A17.out).mono ?_); rintro e w71 ⟨rfl, hb⟩; refine ⟨_, rfl, ?_⟩; replace BK551 := u1 BK551 hb; replace BK552 := u1 BK552 hb; replace BK553 := u1 BK553 hb; replace BK554 := u1 BK554 hb; replace BK555 := u1 BK555 hb; replace HB := u2 HB hb; clear hb; obtain ⟨hcz72_0, hcz72_1, hfz72_0, hfz72_1⟩ := p2 BK553; obtain ⟨hcz73_0, hcz73_1, hfz73_0, hfz73_1⟩ := p2 BK554; obtain ⟨hcz74_0, hcz74_1, hfz74_0, hfz74_1⟩ := p2 BK555) | (go_at_call 12; (with_reducible refine (zelligeref07_Orient.calls a0_0 a0_1 a0_2 a0_3 a0_4 a0_5 t557 _ A19.out).mono ?_); rintro e w75 ⟨rfl, hb⟩; replace BK551 := u1 BK551 hb; replace BK552 := u1 BK552 hb; replace BK553 := u1 BK553 hb; replace BK554 := u1 BK554 hb; replace BK555 := u1 BK555 hb; replace HB := u2 HB hb; clear hb; obtain ⟨hcz76_0, hcz76_1, hfz76_0, hfz76_1⟩ := p2 BK554; obtain ⟨hcz77_0, hcz77_1, hfz77_0, hfz77_1⟩ := p2 BK555; obtain ⟨hcz78_0, hcz78_1, hfz78_0, hfz78_1⟩ := p2 BK552) | (go_at_call 12; (with_reducible refine (zelligeref07_Orient.calls a0_2 a0_3 a0_4 a0_5 a1_0 a1_1 t558 _ A21.out).mono ?_); rintro e w79 ⟨rfl, hb⟩; replace BK551 := u1 BK551 hb; replace BK552 := u1 BK552 hb; replace BK553 := u1 BK553 hb; replace BK554 := u1 BK554 hb; replace BK555 := u1 BK555 hb; replace HB := u2 HB hb; clear hb; obtain ⟨hcz80_0, hcz80_1, hfz80_0, hfz80_1⟩ := p2 BK555; obtain ⟨hcz81_0, hcz81_1, hfz81_0, hfz81_1⟩ := p2 BK552; obtain ⟨hcz82_0, hcz82_1, hfz82_0, hfz82_1⟩ := p2 BK553) | (go_at_call 12; (with_reducible refine (zelligeref07_Orient.calls a0_4 a0_5 a1_0 a1_1 a0_0 a0_1 t559 _ A23.out).mono ?_); rintro e w83 ⟨rfl, hb⟩; replace BK551 := u1 BK551 hb; replace BK552 := u1 BK552 hb; replace BK553 := u1 BK553 hb; replace BK554 := u1 BK554 hb; replace BK555 := u1 BK555 hb; replace HB := u2 HB hb; clear hb))
      go_meet
      case rel => exact ⟨_, (true), (by first | rfl | (simp; done) | (simp [*]; done)), H', ⟨by first | omega | exact Nat.le_refl _⟩, ⟨bk BK551.out⟩, ⟨bk BK552.out⟩, ⟨bk BK553.out⟩, ⟨bk BK554.out⟩, ⟨bk BK555.out⟩, ⟨bw HB.out⟩⟩
    ·rw [if_neg c22] at H
     have c22b0 : (t558 == 1) = false := beq_eq_false_iff_ne.mpr c22
     have c22b1 : (t558 != 1) = true := bne_iff_ne.mpr c22
     have H' := Aside0.mk H
     clear H
     have hnb84 := NB553_551.out
     have hnc84 := NB551_553.out
     have hnb85 := NB553_552.out
     have hnc85 := NB552_553.out
     have hnb86 := NB553_554.out
     have hnc86 := NB554_553.out
     have hnb87 := NB553_555.out
     have hnc87 := NB555_553.out
     have hcz88_0 : w16.cell? ⟨gb553, 0, none⟩ = some (.int .i64 a0_0) := (blk_cell BK553.out 0).trans rfl
     have hcz88_1 : w16.cell? ⟨gb553, 1, none⟩ = some (.int .i64 a0_1) := (blk_cell BK553.out 1).trans rfl
     have hfz88_0 := blk_frozen BK553.out 0
     have hfz88_1 := blk_frozen BK553.out 1
     have hnb89 := NB554_551.out
     have hnc89 := NB551_554.out
     have hnb90 := NB554_552.out
     have hnc90 := NB552_554.out
     have hnb91 := NB554_555.out
     have hnc91 := NB555_554.out
     have hcz92_0 : w16.cell? ⟨gb554, 0, none⟩ = some (.int .i64 a0_2) := (blk_cell BK554.out 0).trans rfl
     have hcz92_1 : w16.cell? ⟨gb554, 1, none⟩ = some (.int .i64 a0_3) := (blk_cell BK554.out 1).trans rfl
     have hfz92_0 := blk_frozen BK554.out 0
     have hfz92_1 := blk_frozen BK554.out 1
     have hnb93 := NB555_551.out
     have hnc93 := NB551_555.out
     have hnb94 := NB555_552.out
     have hnc94 := NB552_555.out
     have hcz95_0 : w16.cell? ⟨gb555, 0, none⟩ = some (.int .i64 a0_4) := (blk_cell BK555.out 0).trans rfl
     have hcz95_1 : w16.cell? ⟨gb555, 1, none⟩ = some (.int .i64 a0_5) := (blk_cell BK555.out 1).trans rfl
     have hfz95_0 := blk_frozen BK555.out 0
     have hfz95_1 := blk_frozen BK555.out 1
     have hnb96 := NB552_551.out
     have hnc96 := NB551_552.out
     have hcz97_0 : w16.cell? ⟨gb552, 0, none⟩ = some (.int .i64 a1_0) := (blk_cell BK552.out 0).trans rfl
     have hcz97_1 : w16.cell? ⟨gb552, 1, none⟩ = some (.int .i64 a1_1) := (blk_cell BK552.out 1).trans rfl
     have hfz97_0 := blk_frozen BK552.out 0
     have hfz97_1 := blk_frozen BK552.out 1
     go_wp2_with (first | ((with_reducible refine gate_callee (f := 11) rfl ?_); refine goesL_ (some 19) rfl rfl Try.func11 (by kernel_rfl) rfl #[.agg #[.int .i64 a0_0, .int .i64 a0_1], .agg #[.int .i64 a0_2, .int .i64 a0_3], .agg #[.int .i64 a0_4, .int .i64 a0_5], .agg #[.int .i64 a1_0, .int .i64 a1_1]] rfl (by (try simp only [List.map_toArray, List.map_cons, List.map_nil]); first | done | rfl | (simp only [List.length_drop, List.length_take]; rfl)) ?_; (with_reducible refine (zelligeref08_Can.calls a0_0 a0_1 a0_2 a0_3 a0_4 a0_5 a1_0 a1_1 true _ A17.out).mono ?_); rintro e w98 ⟨rfl, hb⟩; refine ⟨_, rfl, ?_⟩; replace BK551 := u1 BK551 hb; replace BK552 := u1 BK552 hb; replace BK553 := u1 BK553 hb; replace BK554 := u1 BK554 hb; replace BK555 := u1 BK555 hb; replace HB := u2 HB hb; clear hb; obtain ⟨hcz99_0, hcz99_1, hfz99_0, hfz99_1⟩ := p2 BK553; obtain ⟨hcz100_0, hcz100_1, hfz100_0, hfz100_1⟩ := p2 BK554; obtain ⟨hcz101_0, hcz101_1, hfz101_0, hfz101_1⟩ := p2 BK555) | (go_at_call 12; (with_reducible refine (zelligeref07_Orient.calls a0_0 a0_1 a0_2 a0_3 a0_4 a0_5 t557 _ A19.out).mono ?_); rintro e w102 ⟨rfl, hb⟩; replace BK551 := u1 BK551 hb; replace BK552 := u1 BK552 hb; replace BK553 := u1 BK553 hb; replace BK554 := u1 BK554 hb; replace BK555 := u1 BK555 hb; replace HB := u2 HB hb; clear hb; obtain ⟨hcz103_0, hcz103_1, hfz103_0, hfz103_1⟩ := p2 BK554; obtain ⟨hcz104_0, hcz104_1, hfz104_0, hfz104_1⟩ := p2 BK555; obtain ⟨hcz105_0, hcz105_1, hfz105_0, hfz105_1⟩ := p2 BK552) | (go_at_call 12; (with_reducible refine (zelligeref07_Orient.calls a0_2 a0_3 a0_4 a0_5 a1_0 a1_1 t558 _ A21.out).mono ?_); rintro e w106 ⟨rfl, hb⟩; replace BK551 := u1 BK551 hb; replace BK552 := u1 BK552 hb; replace BK553 := u1 BK553 hb; replace BK554 := u1 BK554 hb; replace BK555 := u1 BK555 hb; replace HB := u2 HB hb; clear hb))
     go_meet
     case rel => exact ⟨_, (true), (by first | rfl | (simp; done) | (simp [*]; done)), H', ⟨by first | omega | exact Nat.le_refl _⟩, ⟨bk BK551.out⟩, ⟨bk BK552.out⟩, ⟨bk BK553.out⟩, ⟨bk BK554.out⟩, ⟨bk BK555.out⟩, ⟨bw HB.out⟩⟩
   ·rw [if_neg c20] at H
    have c20b0 : (t557 == 1) = false := beq_eq_false_iff_ne.mpr c20
    have c20b1 : (t557 != 1) = true := bne_iff_ne.mpr c20
    (first | rw [c20b0] | (simp only [i64_w, i32_w]; rw [c20b0]) | skip)
    have H' := Aside0.mk H
    clear H
    have hnb107 := NB553_551.out
    have hnc107 := NB551_553.out
    have hnb108 := NB553_552.out
    have hnc108 := NB552_553.out
    have hnb109 := NB553_554.out
    have hnc109 := NB554_553.out
    have hnb110 := NB553_555.out
    have hnc110 := NB555_553.out
    have hcz111_0 : w16.cell? ⟨gb553, 0, none⟩ = some (.int .i64 a0_0) := (blk_cell BK553.out 0).trans rfl
    have hcz111_1 : w16.cell? ⟨gb553, 1, none⟩ = some (.int .i64 a0_1) := (blk_cell BK553.out 1).trans rfl
    have hfz111_0 := blk_frozen BK553.out 0
    have hfz111_1 := blk_frozen BK553.out 1
    have hnb112 := NB554_551.out
    have hnc112 := NB551_554.out
    have hnb113 := NB554_552.out
    have hnc113 := NB552_554.out
    have hnb114 := NB554_555.out
    have hnc114 := NB555_554.out
    have hcz115_0 : w16.cell? ⟨gb554, 0, none⟩ = some (.int .i64 a0_2) := (blk_cell BK554.out 0).trans rfl
    have hcz115_1 : w16.cell? ⟨gb554, 1, none⟩ = some (.int .i64 a0_3) := (blk_cell BK554.out 1).trans rfl
    have hfz115_0 := blk_frozen BK554.out 0
    have hfz115_1 := blk_frozen BK554.out 1
    have hnb116 := NB555_551.out
    have hnc116 := NB551_555.out
    have hnb117 := NB555_552.out
    have hnc117 := NB552_555.out
    have hcz118_0 : w16.cell? ⟨gb555, 0, none⟩ = some (.int .i64 a0_4) := (blk_cell BK555.out 0).trans rfl
    have hcz118_1 : w16.cell? ⟨gb555, 1, none⟩ = some (.int .i64 a0_5) := (blk_cell BK555.out 1).trans rfl
    have hfz118_0 := blk_frozen BK555.out 0
    have hfz118_1 := blk_frozen BK555.out 1
    have hnb119 := NB552_551.out
    have hnc119 := NB551_552.out
    have hcz120_0 : w16.cell? ⟨gb552, 0, none⟩ = some (.int .i64 a1_0) := (blk_cell BK552.out 0).trans rfl
    have hcz120_1 : w16.cell? ⟨gb552, 1, none⟩ = some (.int .i64 a1_1) := (blk_cell BK552.out 1).trans rfl
    have hfz120_0 := blk_frozen BK552.out 0
    have hfz120_1 := blk_frozen BK552.out 1
    go_wp2_with (first | ((with_reducible refine gate_callee (f := 11) rfl ?_); refine goesL_ (some 19) rfl rfl Try.func11 (by kernel_rfl) rfl #[.agg #[.int .i64 a0_0, .int .i64 a0_1], .agg #[.int .i64 a0_2, .int .i64 a0_3], .agg #[.int .i64 a0_4, .int .i64 a0_5], .agg #[.int .i64 a1_0, .int .i64 a1_1]] rfl (by (try simp only [List.map_toArray, List.map_cons, List.map_nil]); first | done | rfl | (simp only [List.length_drop, List.length_take]; rfl)) ?_; (with_reducible refine (zelligeref08_Can.calls a0_0 a0_1 a0_2 a0_3 a0_4 a0_5 a1_0 a1_1 true _ A17.out).mono ?_); rintro e w121 ⟨rfl, hb⟩; refine ⟨_, rfl, ?_⟩; replace BK551 := u1 BK551 hb; replace BK552 := u1 BK552 hb; replace BK553 := u1 BK553 hb; replace BK554 := u1 BK554 hb; replace BK555 := u1 BK555 hb; replace HB := u2 HB hb; clear hb; obtain ⟨hcz122_0, hcz122_1, hfz122_0, hfz122_1⟩ := p2 BK553; obtain ⟨hcz123_0, hcz123_1, hfz123_0, hfz123_1⟩ := p2 BK554; obtain ⟨hcz124_0, hcz124_1, hfz124_0, hfz124_1⟩ := p2 BK555) | (go_at_call 12; (with_reducible refine (zelligeref07_Orient.calls a0_0 a0_1 a0_2 a0_3 a0_4 a0_5 t557 _ A19.out).mono ?_); rintro e w125 ⟨rfl, hb⟩; replace BK551 := u1 BK551 hb; replace BK552 := u1 BK552 hb; replace BK553 := u1 BK553 hb; replace BK554 := u1 BK554 hb; replace BK555 := u1 BK555 hb; replace HB := u2 HB hb; clear hb))
    go_meet
    case rel => exact ⟨_, (true), (by first | rfl | (simp; done) | (simp [*]; done)), H', ⟨by first | omega | exact Nat.le_refl _⟩, ⟨bk BK551.out⟩, ⟨bk BK552.out⟩, ⟨bk BK553.out⟩, ⟨bk BK554.out⟩, ⟨bk BK555.out⟩, ⟨bw HB.out⟩⟩
  ·replace c18 := Bool.eq_false_iff.mpr c18
   subst c18
   have H1 : (zelligelaw08_TieDiagonals.j0 k true a1_0 a1_1 a0_0 a0_1 a0_2 a0_3 a0_4 a0_5) = some true := by rw [if_neg (show ¬ (false = true) by decide)] at H; exact H
   clear H
   have H := H1
   clear H1
   have H' := Aside0.mk H
   clear H
   have hnb126 := NB553_551.out
   have hnc126 := NB551_553.out
   have hnb127 := NB553_552.out
   have hnc127 := NB552_553.out
   have hnb128 := NB553_554.out
   have hnc128 := NB554_553.out
   have hnb129 := NB553_555.out
   have hnc129 := NB555_553.out
   have hcz130_0 : w16.cell? ⟨gb553, 0, none⟩ = some (.int .i64 a0_0) := (blk_cell BK553.out 0).trans rfl
   have hcz130_1 : w16.cell? ⟨gb553, 1, none⟩ = some (.int .i64 a0_1) := (blk_cell BK553.out 1).trans rfl
   have hfz130_0 := blk_frozen BK553.out 0
   have hfz130_1 := blk_frozen BK553.out 1
   have hnb131 := NB554_551.out
   have hnc131 := NB551_554.out
   have hnb132 := NB554_552.out
   have hnc132 := NB552_554.out
   have hnb133 := NB554_555.out
   have hnc133 := NB555_554.out
   have hcz134_0 : w16.cell? ⟨gb554, 0, none⟩ = some (.int .i64 a0_2) := (blk_cell BK554.out 0).trans rfl
   have hcz134_1 : w16.cell? ⟨gb554, 1, none⟩ = some (.int .i64 a0_3) := (blk_cell BK554.out 1).trans rfl
   have hfz134_0 := blk_frozen BK554.out 0
   have hfz134_1 := blk_frozen BK554.out 1
   have hnb135 := NB555_551.out
   have hnc135 := NB551_555.out
   have hnb136 := NB555_552.out
   have hnc136 := NB552_555.out
   have hcz137_0 : w16.cell? ⟨gb555, 0, none⟩ = some (.int .i64 a0_4) := (blk_cell BK555.out 0).trans rfl
   have hcz137_1 : w16.cell? ⟨gb555, 1, none⟩ = some (.int .i64 a0_5) := (blk_cell BK555.out 1).trans rfl
   have hfz137_0 := blk_frozen BK555.out 0
   have hfz137_1 := blk_frozen BK555.out 1
   have hnb138 := NB552_551.out
   have hnc138 := NB551_552.out
   have hcz139_0 : w16.cell? ⟨gb552, 0, none⟩ = some (.int .i64 a1_0) := (blk_cell BK552.out 0).trans rfl
   have hcz139_1 : w16.cell? ⟨gb552, 1, none⟩ = some (.int .i64 a1_1) := (blk_cell BK552.out 1).trans rfl
   have hfz139_0 := blk_frozen BK552.out 0
   have hfz139_1 := blk_frozen BK552.out 1
   go_wp2_with (first | ((with_reducible refine gate_callee (f := 11) rfl ?_); refine goesL_ (some 19) rfl rfl Try.func11 (by kernel_rfl) rfl #[.agg #[.int .i64 a0_0, .int .i64 a0_1], .agg #[.int .i64 a0_2, .int .i64 a0_3], .agg #[.int .i64 a0_4, .int .i64 a0_5], .agg #[.int .i64 a1_0, .int .i64 a1_1]] rfl (by (try simp only [List.map_toArray, List.map_cons, List.map_nil]); first | done | rfl | (simp only [List.length_drop, List.length_take]; rfl)) ?_; (with_reducible refine (zelligeref08_Can.calls a0_0 a0_1 a0_2 a0_3 a0_4 a0_5 a1_0 a1_1 false _ A17.out).mono ?_); rintro e w140 ⟨rfl, hb⟩; refine ⟨_, rfl, ?_⟩; replace BK551 := u1 BK551 hb; replace BK552 := u1 BK552 hb; replace BK553 := u1 BK553 hb; replace BK554 := u1 BK554 hb; replace BK555 := u1 BK555 hb; replace HB := u2 HB hb; clear hb))
   go_meet
   case rel => exact ⟨_, (true), (by first | rfl | (simp; done) | (simp [*]; done)), H', ⟨by first | omega | exact Nat.le_refl _⟩, ⟨bk BK551.out⟩, ⟨bk BK552.out⟩, ⟨bk BK553.out⟩, ⟨bk BK554.out⟩, ⟨bk BK555.out⟩, ⟨bw HB.out⟩⟩
 case rest =>
  clear HC3
  try clear c1
  try clear c2
  try clear p2
  try clear c3
  try clear c5
  try clear c6
  try clear c8
  try clear c9
  try clear c10
  try clear c11
  try clear c12
  try clear c13
  try clear c18
  try clear c20
  try clear c20b0
  try clear c20b1
  try clear c22
  try clear c22b0
  try clear c22b1
  try clear c24
  try clear c24b0
  try clear c24b1
  try clear c26
  try clear c27
  try clear c28
  try clear c29
  try clear c31
  try clear c32
  try clear c33
  try clear c35
  try clear c36
  try clear c38
  try clear c57
  try clear c58
  try clear c59
  try clear c60
  try clear c62
  try clear c63
  try clear c64
  try clear c66
  try clear c67
  try clear c69
  try clear c84
  try clear c85
  try clear c86
  try clear c87
  try clear c89
  try clear c90
  try clear c91
  try clear c93
  try clear c94
  try clear c96
  try clear c107
  try clear c108
  try clear c109
  try clear c110
  try clear c112
  try clear c113
  try clear c114
  try clear c116
  try clear c117
  try clear c119
  try clear c126
  try clear c127
  try clear c128
  try clear c129
  try clear c131
  try clear c132
  try clear c133
  try clear c135
  try clear c136
  try clear c138
  try clear hcz100_0
  try clear hcz100_1
  try clear hcz101_0
  try clear hcz101_1
  try clear hcz103_0
  try clear hcz103_1
  try clear hcz104_0
  try clear hcz104_1
  try clear hcz105_0
  try clear hcz105_1
  try clear hcz111_0
  try clear hcz111_1
  try clear hcz115_0
  try clear hcz115_1
  try clear hcz118_0
  try clear hcz118_1
  try clear hcz120_0
  try clear hcz120_1
  try clear hcz122_0
  try clear hcz122_1
  try clear hcz123_0
  try clear hcz123_1
  try clear hcz124_0
  try clear hcz124_1
  try clear hcz130_0
  try clear hcz130_1
  try clear hcz134_0
  try clear hcz134_1
  try clear hcz137_0
  try clear hcz137_1
  try clear hcz139_0
  try clear hcz139_1
  try clear hcz30_0
  try clear hcz30_1
  try clear hcz34_0
  try clear hcz34_1
  try clear hcz37_0
  try clear hcz37_1
  try clear hcz39_0
  try clear hcz39_1
  try clear hcz41_0
  try clear hcz41_1
  try clear hcz42_0
  try clear hcz42_1
  try clear hcz43_0
  try clear hcz43_1
  try clear hcz45_0
  try clear hcz45_1
  try clear hcz46_0
  try clear hcz46_1
  try clear hcz47_0
  try clear hcz47_1
  try clear hcz49_0
  try clear hcz49_1
  try clear hcz50_0
  try clear hcz50_1
  try clear hcz51_0
  try clear hcz51_1
  try clear hcz53_0
  try clear hcz53_1
  try clear hcz54_0
  try clear hcz54_1
  try clear hcz55_0
  try clear hcz55_1
  try clear hcz61_0
  try clear hcz61_1
  try clear hcz65_0
  try clear hcz65_1
  try clear hcz68_0
  try clear hcz68_1
  try clear hcz70_0
  try clear hcz70_1
  try clear hcz72_0
  try clear hcz72_1
  try clear hcz73_0
  try clear hcz73_1
  try clear hcz74_0
  try clear hcz74_1
  try clear hcz76_0
  try clear hcz76_1
  try clear hcz77_0
  try clear hcz77_1
  try clear hcz78_0
  try clear hcz78_1
  try clear hcz80_0
  try clear hcz80_1
  try clear hcz81_0
  try clear hcz81_1
  try clear hcz82_0
  try clear hcz82_1
  try clear hcz88_0
  try clear hcz88_1
  try clear hcz92_0
  try clear hcz92_1
  try clear hcz95_0
  try clear hcz95_1
  try clear hcz97_0
  try clear hcz97_1
  try clear hcz99_0
  try clear hcz99_1
  try clear hfz100_0
  try clear hfz100_1
  try clear hfz101_0
  try clear hfz101_1
  try clear hfz103_0
  try clear hfz103_1
  try clear hfz104_0
  try clear hfz104_1
  try clear hfz105_0
  try clear hfz105_1
  try clear hfz111_0
  try clear hfz111_1
  try clear hfz115_0
  try clear hfz115_1
  try clear hfz118_0
  try clear hfz118_1
  try clear hfz120_0
  try clear hfz120_1
  try clear hfz122_0
  try clear hfz122_1
  try clear hfz123_0
  try clear hfz123_1
  try clear hfz124_0
  try clear hfz124_1
  try clear hfz130_0
  try clear hfz130_1
  try clear hfz134_0
  try clear hfz134_1
  try clear hfz137_0
  try clear hfz137_1
  try clear hfz139_0
  try clear hfz139_1
  try clear hfz30_0
  try clear hfz30_1
  try clear hfz34_0
  try clear hfz34_1
  try clear hfz37_0
  try clear hfz37_1
  try clear hfz39_0
  try clear hfz39_1
  try clear hfz41_0
  try clear hfz41_1
  try clear hfz42_0
  try clear hfz42_1
  try clear hfz43_0
  try clear hfz43_1
  try clear hfz45_0
  try clear hfz45_1
  try clear hfz46_0
  try clear hfz46_1
  try clear hfz47_0
  try clear hfz47_1
  try clear hfz49_0
  try clear hfz49_1
  try clear hfz50_0
  try clear hfz50_1
  try clear hfz51_0
  try clear hfz51_1
  try clear hfz53_0
  try clear hfz53_1
  try clear hfz54_0
  try clear hfz54_1
  try clear hfz55_0
  try clear hfz55_1
  try clear hfz61_0
  try clear hfz61_1
  try clear hfz65_0
  try clear hfz65_1
  try clear hfz68_0
  try clear hfz68_1
  try clear hfz70_0
  try clear hfz70_1
  try clear hfz72_0
  try clear hfz72_1
  try clear hfz73_0
  try clear hfz73_1
  try clear hfz74_0
  try clear hfz74_1
  try clear hfz76_0
  try clear hfz76_1
  try clear hfz77_0
  try clear hfz77_1
  try clear hfz78_0
  try clear hfz78_1
  try clear hfz80_0
  try clear hfz80_1
  try clear hfz81_0
  try clear hfz81_1
  try clear hfz82_0
  try clear hfz82_1
  try clear hfz88_0
  try clear hfz88_1
  try clear hfz92_0
  try clear hfz92_1
  try clear hfz95_0
  try clear hfz95_1
  try clear hfz97_0
  try clear hfz97_1
  try clear hfz99_0
  try clear hfz99_1
  obtain ⟨kq, x48_2, rfl, HA, HJ2, BK551, BK552, BK553, BK554, BK555, HB⟩ := hcut
  cases kq with
  | zero => exact absurd HA.out (by simp [zelligelaw08_TieDiagonals.j0])
  | succ kj2 =>
   have H := HA.out
   clear HA
   simp only [zelligelaw08_TieDiagonals.j0] at H
   by_cases c141 : x48_2 = true
   ·subst c141
    have H1 : ((zelligelaw08_lives.f kj2).bind fun t561 => (some t561)) = some true := by rw [if_pos rfl] at H; exact H
    clear H
    have H := H1
    clear H1
    replace H := Option.bind_eq_some_iff.mp H
    obtain ⟨t561, A1420, H⟩ := H
    replace H : (some t561) = some true := H
    have A142 := Aside0.mk A1420
    clear A1420
    obtain rfl := Option.some.inj H
    go_wp2_with (first | ((with_reducible refine gate_callee (f := 10) rfl ?_); refine goesL_ (some 49) rfl rfl Try.func10 (by kernel_rfl) rfl #[] rfl (by (try simp only [List.map_toArray, List.map_cons, List.map_nil]); first | done | rfl | (simp only [List.length_drop, List.length_take]; rfl)) ?_; (with_reducible refine (zelligelaw08_lives.calls kj2  true _ A142.out).mono ?_); rintro e w143 ⟨rfl, hb⟩; refine ⟨_, rfl, ?_⟩; replace BK551 := u1 BK551 hb; replace BK552 := u1 BK552 hb; replace BK553 := u1 BK553 hb; replace BK554 := u1 BK554 hb; replace BK555 := u1 BK555 hb; replace HB := u2 HB hb; clear hb))
    go_ret
    exact ⟨by first | rfl | (simp [*, errW_none, errW_some] <;> rfl), bw HB.out⟩
   ·replace c141 := Bool.eq_false_iff.mpr c141
    subst c141
    have H1 : ((tie_Conflict.f kj2 a0_0 a0_1 a0_2 a0_3 a0_4 a0_5 a1_0 a1_1).bind fun t562 => ((tie_Conflict.f kj2 a0_4 a0_5 a1_0 a1_1 a0_0 a0_1 a0_2 a0_3).bind fun t563 => (if (t563 == t562) = true then ((tie_Conflict.f kj2 a0_2 a0_3 a0_4 a0_5 a1_0 a1_1 a0_0 a0_1).bind fun t564 => (if (t564 == (!t562)) = true then ((tie_Conflict.f kj2 a1_0 a1_1 a0_0 a0_1 a0_2 a0_3 a0_4 a0_5).bind fun t565 => (if (t565 == (!t562)) = true then ((zelligelaw08_lives.f kj2).bind fun t566 => (some t566)) else (some false))) else (some false))) else (some false)))) = some true := by rw [if_neg (show ¬ (false = true) by decide)] at H; exact H
    clear H
    have H := H1
    clear H1
    replace H := Option.bind_eq_some_iff.mp H
    obtain ⟨t562, A1440, H⟩ := H
    replace H : ((tie_Conflict.f kj2 a0_4 a0_5 a1_0 a1_1 a0_0 a0_1 a0_2 a0_3).bind fun t563 => (if (t563 == t562) = true then ((tie_Conflict.f kj2 a0_2 a0_3 a0_4 a0_5 a1_0 a1_1 a0_0 a0_1).bind fun t564 => (if (t564 == (!t562)) = true then ((tie_Conflict.f kj2 a1_0 a1_1 a0_0 a0_1 a0_2 a0_3 a0_4 a0_5).bind fun t565 => (if (t565 == (!t562)) = true then ((zelligelaw08_lives.f kj2).bind fun t566 => (some t566)) else (some false))) else (some false))) else (some false))) = some true := H
    have A144 := Aside0.mk A1440
    clear A1440
    replace H := Option.bind_eq_some_iff.mp H
    obtain ⟨t563, A1450, H⟩ := H
    replace H : (if (t563 == t562) = true then ((tie_Conflict.f kj2 a0_2 a0_3 a0_4 a0_5 a1_0 a1_1 a0_0 a0_1).bind fun t564 => (if (t564 == (!t562)) = true then ((tie_Conflict.f kj2 a1_0 a1_1 a0_0 a0_1 a0_2 a0_3 a0_4 a0_5).bind fun t565 => (if (t565 == (!t562)) = true then ((zelligelaw08_lives.f kj2).bind fun t566 => (some t566)) else (some false))) else (some false))) else (some false)) = some true := H
    have A145 := Aside0.mk A1450
    clear A1450
    by_cases c146 : (t563 == t562) = true
    ·rw [if_pos c146] at H
     have c146b0 : (t563 == t562) = true := c146
     (try (have c146b1 : decide (t563 = t562) = true := by simpa using c146))
     (try (have c146b2 : (t563 == t562) = true := by simpa using c146))
     clear c146
     replace H := Option.bind_eq_some_iff.mp H
     obtain ⟨t564, A1470, H⟩ := H
     replace H : (if (t564 == (!t562)) = true then ((tie_Conflict.f kj2 a1_0 a1_1 a0_0 a0_1 a0_2 a0_3 a0_4 a0_5).bind fun t565 => (if (t565 == (!t562)) = true then ((zelligelaw08_lives.f kj2).bind fun t566 => (some t566)) else (some false))) else (some false)) = some true := H
     have A147 := Aside0.mk A1470
     clear A1470
     by_cases c148 : (t564 == (!t562)) = true
     ·rw [if_pos c148] at H
      have c148b0 : (t564 == (!t562)) = true := c148
      (try (have c148b1 : decide (t564 = (!t562)) = true := by simpa using c148))
      (try (have c148b2 : (t564 == (!t562)) = true := by simpa using c148))
      clear c148
      replace H := Option.bind_eq_some_iff.mp H
      obtain ⟨t565, A1490, H⟩ := H
      replace H : (if (t565 == (!t562)) = true then ((zelligelaw08_lives.f kj2).bind fun t566 => (some t566)) else (some false)) = some true := H
      have A149 := Aside0.mk A1490
      clear A1490
      by_cases c150 : (t565 == (!t562)) = true
      ·rw [if_pos c150] at H
       have c150b0 : (t565 == (!t562)) = true := c150
       (try (have c150b1 : decide (t565 = (!t562)) = true := by simpa using c150))
       (try (have c150b2 : (t565 == (!t562)) = true := by simpa using c150))
       clear c150
       replace H := Option.bind_eq_some_iff.mp H
       obtain ⟨t566, A1510, H⟩ := H
       replace H : (some t566) = some true := H
       have A151 := Aside0.mk A1510
       clear A1510
       obtain rfl := Option.some.inj H
       have hnb152 := NB553_551.out
       have hnc152 := NB551_553.out
       have hnb153 := NB553_552.out
       have hnc153 := NB552_553.out
       have hnb154 := NB553_554.out
       have hnc154 := NB554_553.out
       have hnb155 := NB553_555.out
       have hnc155 := NB555_553.out
       have hcz156_0 : wc.cell? ⟨gb553, 0, none⟩ = some (.int .i64 a0_0) := (blk_cell BK553.out 0).trans rfl
       have hcz156_1 : wc.cell? ⟨gb553, 1, none⟩ = some (.int .i64 a0_1) := (blk_cell BK553.out 1).trans rfl
       have hfz156_0 := blk_frozen BK553.out 0
       have hfz156_1 := blk_frozen BK553.out 1
       have hnb157 := NB554_551.out
       have hnc157 := NB551_554.out
       have hnb158 := NB554_552.out
       have hnc158 := NB552_554.out
       have hnb159 := NB554_555.out
       have hnc159 := NB555_554.out
       have hcz160_0 : wc.cell? ⟨gb554, 0, none⟩ = some (.int .i64 a0_2) := (blk_cell BK554.out 0).trans rfl
       have hcz160_1 : wc.cell? ⟨gb554, 1, none⟩ = some (.int .i64 a0_3) := (blk_cell BK554.out 1).trans rfl
       have hfz160_0 := blk_frozen BK554.out 0
       have hfz160_1 := blk_frozen BK554.out 1
       have hnb161 := NB555_551.out
       have hnc161 := NB551_555.out
       have hnb162 := NB555_552.out
       have hnc162 := NB552_555.out
       have hcz163_0 : wc.cell? ⟨gb555, 0, none⟩ = some (.int .i64 a0_4) := (blk_cell BK555.out 0).trans rfl
       have hcz163_1 : wc.cell? ⟨gb555, 1, none⟩ = some (.int .i64 a0_5) := (blk_cell BK555.out 1).trans rfl
       have hfz163_0 := blk_frozen BK555.out 0
       have hfz163_1 := blk_frozen BK555.out 1
       have hnb164 := NB552_551.out
       have hnc164 := NB551_552.out
       have hcz165_0 : wc.cell? ⟨gb552, 0, none⟩ = some (.int .i64 a1_0) := (blk_cell BK552.out 0).trans rfl
       have hcz165_1 : wc.cell? ⟨gb552, 1, none⟩ = some (.int .i64 a1_1) := (blk_cell BK552.out 1).trans rfl
       have hfz165_0 := blk_frozen BK552.out 0
       have hfz165_1 := blk_frozen BK552.out 1
       go_wp2_with (first | ((with_reducible refine gate_callee (f := 8) rfl ?_); refine goesL_ (some 54) rfl rfl Try.func8 (by kernel_rfl) rfl #[.agg #[.int .i64 a0_0, .int .i64 a0_1], .agg #[.int .i64 a0_2, .int .i64 a0_3], .agg #[.int .i64 a0_4, .int .i64 a0_5], .agg #[.int .i64 a1_0, .int .i64 a1_1]] rfl (by (try simp only [List.map_toArray, List.map_cons, List.map_nil]); first | done | rfl | (simp only [List.length_drop, List.length_take]; rfl)) ?_; (with_reducible refine (tie_Conflict.calls kj2 a0_0 a0_1 a0_2 a0_3 a0_4 a0_5 a1_0 a1_1 t562 _ A144.out).mono ?_); rintro e w166 ⟨rfl, hb⟩; refine ⟨_, rfl, ?_⟩; replace BK551 := u1 BK551 hb; replace BK552 := u1 BK552 hb; replace BK553 := u1 BK553 hb; replace BK554 := u1 BK554 hb; replace BK555 := u1 BK555 hb; replace HB := u2 HB hb; clear hb; obtain ⟨_, _, _, _⟩ := p2 BK555; obtain ⟨_, _, _, _⟩ := p2 BK552; obtain ⟨_, _, _, _⟩ := p2 BK553; obtain ⟨_, _, _, _⟩ := p2 BK554) | ((with_reducible refine gate_callee (f := 8) rfl ?_); refine goesL_ (some 59) rfl rfl Try.func8 (by kernel_rfl) rfl #[.agg #[.int .i64 a0_4, .int .i64 a0_5], .agg #[.int .i64 a1_0, .int .i64 a1_1], .agg #[.int .i64 a0_0, .int .i64 a0_1], .agg #[.int .i64 a0_2, .int .i64 a0_3]] rfl (by (try simp only [List.map_toArray, List.map_cons, List.map_nil]); first | done | rfl | (simp only [List.length_drop, List.length_take]; rfl)) ?_; (with_reducible refine (tie_Conflict.calls kj2 a0_4 a0_5 a1_0 a1_1 a0_0 a0_1 a0_2 a0_3 t563 _ A145.out).mono ?_); rintro e w171 ⟨rfl, hb⟩; refine ⟨_, rfl, ?_⟩; replace BK551 := u1 BK551 hb; replace BK552 := u1 BK552 hb; replace BK553 := u1 BK553 hb; replace BK554 := u1 BK554 hb; replace BK555 := u1 BK555 hb; replace HB := u2 HB hb; clear hb; obtain ⟨_, _, _, _⟩ := p2 BK554; obtain ⟨_, _, _, _⟩ := p2 BK555; obtain ⟨_, _, _, _⟩ := p2 BK552; obtain ⟨_, _, _, _⟩ := p2 BK553) | (go_at_call 8; (with_reducible refine (tie_Conflict.calls kj2 a0_2 a0_3 a0_4 a0_5 a1_0 a1_1 a0_0 a0_1 t564 _ A147.out).mono ?_); rintro e w176 ⟨rfl, hb⟩; replace BK551 := u1 BK551 hb; replace BK552 := u1 BK552 hb; replace BK553 := u1 BK553 hb; replace BK554 := u1 BK554 hb; replace BK555 := u1 BK555 hb; replace HB := u2 HB hb; clear hb; obtain ⟨_, _, _, _⟩ := p2 BK552; obtain ⟨_, _, _, _⟩ := p2 BK553; obtain ⟨_, _, _, _⟩ := p2 BK554; obtain ⟨_, _, _, _⟩ := p2 BK555) | (go_at_call 8; (with_reducible refine (tie_Conflict.calls kj2 a1_0 a1_1 a0_0 a0_1 a0_2 a0_3 a0_4 a0_5 t565 _ A149.out).mono ?_); rintro e w181 ⟨rfl, hb⟩; replace BK551 := u1 BK551 hb; replace BK552 := u1 BK552 hb; replace BK553 := u1 BK553 hb; replace BK554 := u1 BK554 hb; replace BK555 := u1 BK555 hb; replace HB := u2 HB hb; clear hb) | (go_at_call 10; (with_reducible refine (zelligelaw08_lives.calls kj2  true _ A151.out).mono ?_); rintro e w182 ⟨rfl, hb⟩; replace BK551 := u1 BK551 hb; replace BK552 := u1 BK552 hb; replace BK553 := u1 BK553 hb; replace BK554 := u1 BK554 hb; replace BK555 := u1 BK555 hb; replace HB := u2 HB hb; clear hb))
       go_ret
       exact ⟨by first | rfl | (simp [*, errW_none, errW_some] <;> rfl), bw HB.out⟩
      ·rw [if_neg c150] at H
       have c150b0 : (t565 == (!t562)) = false := by simpa using c150
       (try (have c150b1 : decide (t565 = (!t562)) = false := by simpa using c150))
       (try (have c150b2 : (t565 == (!t562)) = false := by simpa using c150))
       (try (have c150b3 : ¬ (t565 = (!t562)) := by simpa using c150))
       clear c150
       exact absurd (Option.some.inj H) (by decide)
     ·rw [if_neg c148] at H
      have c148b0 : (t564 == (!t562)) = false := by simpa using c148
      (try (have c148b1 : decide (t564 = (!t562)) = false := by simpa using c148))
      (try (have c148b2 : (t564 == (!t562)) = false := by simpa using c148))
      (try (have c148b3 : ¬ (t564 = (!t562)) := by simpa using c148))
      clear c148
      exact absurd (Option.some.inj H) (by decide)
    ·rw [if_neg c146] at H
     have c146b0 : (t563 == t562) = false := by simpa using c146
     (try (have c146b1 : decide (t563 = t562) = false := by simpa using c146))
     (try (have c146b2 : (t563 == t562) = false := by simpa using c146))
     (try (have c146b3 : ¬ (t563 = t562) := by simpa using c146))
     clear c146
     exact absurd (Option.some.inj H) (by decide)
end Go.Proofs.Ytlkngfidohiepaa.F
end
section
namespace Go.Proofs.Ytlkngfidohiepaa.Tl
open Go Go.RowKit Go.Proofs.YtlkngfidohiepaaW.PrintWords Go.Proofs.Ytlkngfidohiepaa.F Go.Proofs.Ytlkngfidohiepaa.Wd Go.Proofs.Ytlkngfidohiepaa.Pm Go.Proofs.Ytlkngfidohiepaa.Pd Go.Proofs.Ytlkngfidohiepaa.Tm
set_option linter.unusedVariables false
theorem diags_f {a0 a1 b0 b1 c0 c1 d0 d1 : Int} (Ha : I64 a0 ∧ I64 a1) (Hb : I64 b0 ∧ I64 b1) (Hc : I64 c0 ∧ I64 c1) (Hd : I64 d0 ∧ I64 d1) {k : Nat} (hk : 2010 ≤ k) : zelligelaw08_TieDiagonals.f (k + 1) a0 a1 b0 b1 c0 c1 d0 d1 = some true := by
 unfold zelligelaw08_TieDiagonals.f
 have no : zelligelaw08_TieDiagonals.j0 (k + 1) true d0 d1 a0 a1 b0 b1 c0 c1 = some true := by rw [zelligelaw08_TieDiagonals.j0, if_pos rfl, lives_true hk]; rfl
 rw [rc4_f Ha Hb Hc Hd, Option.bind_some]
 by_cases hh : CoP a0 a1 ∧ CoP b0 b1 ∧ CoP c0 c1 ∧ CoP d0 d1
 ·rw [if_pos (decide_eq_true hh)]
  obtain ⟨ha, hb, hc, hd⟩ := hh
  rw [ro_f ha hb hc, ro_f hb hc hd, ro_f hc hd ha, ro_f hd ha hb, Option.bind_some, Option.bind_some, Option.bind_some, Option.bind_some]
  by_cases g1 : 0 < ar a0 a1 b0 b1 c0 c1
  ·rw [if_pos ((sign_pos _).2 g1)]
   by_cases g2 : 0 < ar b0 b1 c0 c1 d0 d1
   ·rw [if_pos ((sign_pos _).2 g2)]
    by_cases g3 : 0 < ar c0 c1 d0 d1 a0 a1
    ·rw [if_pos ((sign_pos _).2 g3)]
     by_cases g4 : 0 < ar d0 d1 a0 a1 b0 b1
     ·have e : ((ar d0 d1 a0 a1 b0 b1).sign != 1) = false := by rw [(sign_pos _).2 g4]; rfl
      obtain ⟨L1, L2, L3⟩ := left_ne g1
      obtain ⟨M1, M2, M3⟩ := left_ne g2
      obtain ⟨N1, N2, N3⟩ := left_ne g3
      have sy : ∀ {x y z t : Int}, ¬ (x = y ∧ z = t) → ¬ (y = x ∧ t = z) := fun h q => h ⟨q.1.symm, q.2.symm⟩
      have kn : ∀ {x y z t : Int}, Cq y → Cq t → ¬ (x = z ∧ y = t) → ky x y ≠ ky z t := fun p q h e => h ((ky_eq p q).1 e)
      obtain ⟨D1, D2, D3⟩ := diag g1 g2 g3 g4 (kn ha.2 hb.2 L3) (kn ha.2 hc.2 (sy L1)) (kn ha.2 hd.2 N2) (kn hb.2 hc.2 M3) (kn hb.2 hd.2 (sy M1)) (kn hc.2 hd.2 N3)
      rw [e, zelligelaw08_TieDiagonals.j0, if_neg (by decide), Conflict_f _ _ _ _ _ _ _ _ (by omega), Conflict_f _ _ _ _ _ _ _ _ (by omega), Conflict_f _ _ _ _ _ _ _ _ (by omega), Conflict_f _ _ _ _ _ _ _ _ (by omega), Option.bind_some, Option.bind_some, Option.bind_some, Option.bind_some,
       co_does ha hb hc hd g1 (sy N2) M1 M2, co_does hc hd ha hb g3 M3 (sy M1) (sy L3), co_does hb hc hd ha g2 L3 (sy L1) N2, co_does hd ha hb hc g4 N3 L1 L2, decide_eq_decide.2 D1, decide_eq_decide.2 D2, decide_eq_decide.2 D3, decide_not, if_pos (beq_self_eq_true _), if_pos (beq_self_eq_true _), if_pos (beq_self_eq_true _), lives_true hk]
      rfl
     ·have e : ((ar d0 d1 a0 a1 b0 b1).sign != 1) = true := by rw [bne_iff_ne]; exact fun e => g4 ((sign_pos _).1 e)
      rw [e]; exact no
    ·rw [if_neg (fun e => g3 ((sign_pos _).1 e))]; exact no
   ·rw [if_neg (fun e => g2 ((sign_pos _).1 e))]; exact no
  ·rw [if_neg (fun e => g1 ((sign_pos _).1 e))]; exact no
 ·rw [if_neg (by rw [decide_eq_true_eq]; exact hh)]; exact no
theorem diags_calls (a0_0 a0_1 a0_2 a0_3 a0_4 a0_5 a1_0 a1_1 : Int) (w : World) (h0_0 : (Lit.int .i64 a0_0).wf = true) (h0_1 : (Lit.int .i64 a0_1).wf = true) (h0_2 : (Lit.int .i64 a0_2).wf = true) (h0_3 : (Lit.int .i64 a0_3).wf = true) (h0_4 : (Lit.int .i64 a0_4).wf = true) (h0_5 : (Lit.int .i64 a0_5).wf = true) (h1_0 : (Lit.int .i64 a1_0).wf = true) (h1_1 : (Lit.int .i64 a1_1).wf = true) :
  Calls Try.prog 5 #[.agg #[.int .i64 a0_0, .int .i64 a0_1, .int .i64 a0_2, .int .i64 a0_3, .int .i64 a0_4, .int .i64 a0_5], .agg #[.int .i64 a1_0, .int .i64 a1_1]] w fun e w' => e = .returned (.bool true) ∧ Below w.heap.size w w' :=
 zelligelaw08_TieDiagonals.calls 3001 _ _ _ _ _ _ _ _ w (diags_f ⟨i64_of h0_0, i64_of h0_1⟩ ⟨i64_of h0_2, i64_of h0_3⟩ ⟨i64_of h0_4, i64_of h0_5⟩ ⟨i64_of h1_0, i64_of h1_1⟩ (by omega))
end Go.Proofs.Ytlkngfidohiepaa.Tl
end
section
namespace Go.Proofs.Ytlkngfidohiepaa.RK
open Go Go.ChangeShapes Go.WideShapes Go.ChangeAt Go.RowKit Go.WideElems Go.Maps Go.Deep
variable {H : Type} {enc : TypeId × Value → H} {P : Program}
theorem okWide_array {k e : TypeId} {n : Nat} (hu : P.underlying k = some (.array n e)) {W : World} {r : Reach} {b0 : Nat} {v : Value} (h : Value.okWide P W r b0 k v) : ∃ cs : Array Value, v = .agg cs ∧ cs.size = P.cellsOf k := by
 simp only [Value.okWide, hu] at h
 obtain ⟨cs, h1, h2, _⟩ := h
 exact ⟨cs, h1, h2⟩
theorem list6 {α : Type} {l : List α} (h : l.length = 6) : ∃ a b c d e f, l = [a, b, c, d, e, f] := by
 match l, h with
 | [a, b, c, d, e, f], _ => exact ⟨a, b, c, d, e, f, rfl⟩
theorem cells_two {w : World} {sp : Nat → Bool} {held : Bool} {base fuel : Nat} {e : TypeId} {f0 f1 : Field} {k0 k1 : IntKind} {v0 v1 : Value} {x : DataW H × List MemPlace} (hs : P.underlying e = some (.struct #[f0, f1]))
  (o0 : f0.offset = 0) (o1 : f1.offset = 1) (s0 : P.cellsOf f0.type = 1) (s1 : P.cellsOf f1.type = 1) (h0 : P.underlying f0.type = some (.int k0)) (h1 : P.underlying f1.type = some (.int k1)) (h : DataW.trod enc P w base sp held fuel e [v0, v1] = some x) :
  ∃ a b : Int, v0 = .int k0 a ∧ v1 = .int k1 b ∧ (Lit.int k0 a).wf = true ∧ (Lit.int k1 b).wf = true := by
 obtain ⟨y0, y1, n, _, _, g0, g1⟩ := trod_struct2 hs h
 rw [o0, s0] at g0
 rw [o1, s1] at g1
 obtain ⟨a, ea, _, wa⟩ := DataW.trod_int h0 g0
 obtain ⟨b, eb, _, wb⟩ := DataW.trod_int h1 g1
 simp at ea eb
 exact ⟨a, b, ea, eb, wa, wb⟩
theorem open_pairs3 {w : World} {sp : Nat → Bool} {held : Bool} {r : Reach} {b0 base : Nat} {t e : TypeId} {f0 f1 : Field} {k0 k1 : IntKind} {v : Value} {d : DataW H} {p : List MemPlace} (hu : P.underlying t = some (.array 3 e)) (hs : P.underlying e = some (.struct #[f0, f1]))
  (o0 : f0.offset = 0) (o1 : f1.offset = 1) (s0 : P.cellsOf f0.type = 1) (s1 : P.cellsOf f1.type = 1) (h0 : P.underlying f0.type = some (.int k0)) (h1 : P.underlying f1.type = some (.int k1)) (two : P.cellsOf e = 2) (size : P.cellsOf t = 6)
  (hv : Value.okWide P w r b0 t v) (h : DataW.Trod enc P w base sp held t v d p) :
  ∃ a b a' b' a'' b'' : Int, v = .agg #[.int k0 a, .int k1 b, .int k0 a', .int k1 b', .int k0 a'', .int k1 b''] ∧ (Lit.int k0 a).wf = true ∧ (Lit.int k1 b).wf = true ∧ (Lit.int k0 a').wf = true ∧ (Lit.int k1 b').wf = true ∧ (Lit.int k0 a'').wf = true ∧ (Lit.int k1 b'').wf = true := by
 obtain ⟨cs, rfl, hsz⟩ := okWide_array hu hv
 obtain ⟨l⟩ := cs
 obtain ⟨c0, c1, c2, c3, c4, c5, rfl⟩ := list6 (hsz.trans size)
 obtain ⟨fuel, hf⟩ := h
 cases fuel with
 | zero => simp [DataW.trod] at hf
 | succ n =>
  rw [DataW.trod_step] at hf
  unfold DataW.trodStep at hf
  simp only [hu, Value.cells] at hf
  rw [if_pos (by rw [size]; rfl)] at hf
  simp only [Option.map_eq_some_iff] at hf
  obtain ⟨xs, hx, e1⟩ := hf
  rw [show List.range 3 = [0, 1, 2] from rfl, List.mapM_cons, List.mapM_cons, List.mapM_cons, List.mapM_nil] at hx
  simp only [bind, Option.bind_eq_some_iff, pure, Option.some.injEq, two] at hx
  obtain ⟨y0, g0, _, ⟨y1, g1, _, ⟨y2, g2, _, rfl, rfl⟩, rfl⟩, rfl⟩ := hx
  obtain ⟨a, b, rfl, rfl, wa, wb⟩ := cells_two hs o0 o1 s0 s1 h0 h1 g0
  obtain ⟨a', b', rfl, rfl, wa', wb'⟩ := cells_two hs o0 o1 s0 s1 h0 h1 g1
  obtain ⟨a'', b'', rfl, rfl, wa'', wb''⟩ := cells_two hs o0 o1 s0 s1 h0 h1 g2
  exact ⟨a, b, a', b', a'', b'', rfl, wa, wb, wa', wb', wa'', wb''⟩
end Go.Proofs.Ytlkngfidohiepaa.RK
end
