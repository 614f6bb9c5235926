/- TieBest: own texts in one (part 5 of 6): contracts of the functions that the law reaches. -/
import Derived.Test.YtlkngfidohiepaaBTieBestd

section
namespace Go.Proofs.Ytlkngfidohiepaa.Rf
open Go RowKit YtlkngfidohiepaaW.PrintWords YtlkngfidohiepaaW.PrintLast YtlkngfidohiepaaW.PrintMore Ytlkngfidohiepaa.F Ytlkngfidohiepaa.Whole Ytlkngfidohiepaa.Reg Ytlkngfidohiepaa.Pm Ytlkngfidohiepaa.Pd Ytlkngfidohiepaa.Wd
set_option linter.unusedVariables false
set_option linter.unusedSimpArgs false
structure B4 (w : World) (a0 a1 b0 b1 c0 c1 d0 d1 : Int) (W : World) : Prop where
 mk :: (out : Below w.heap.size w W ∧ w.heap.size + 1 + 1 + 1 + 1 ≤ W.heap.size ∧ W.heap[w.heap.size]? = some (.cells #[.int .i64 a0, .int .i64 a1] 23 (0, 0)) ∧ W.heap[w.heap.size + 1]? = some (.cells #[.int .i64 b0, .int .i64 b1] 23 (0, 0)) ∧ W.heap[w.heap.size + 1 + 1]? = some (.cells #[.int .i64 c0, .int .i64 c1] 23 (0, 0)) ∧ W.heap[w.heap.size + 1 + 1 + 1]? = some (.cells #[.int .i64 d0, .int .i64 d1] 23 (0, 0)))
section
variable {w W W' : World} {a0 a1 b0 b1 c0 c1 d0 d1 : Int}
theorem B4.below (h : B4 w a0 a1 b0 b1 c0 c1 d0 d1 W) (hb : Below W.heap.size W W') : B4 w a0 a1 b0 b1 c0 c1 d0 d1 W' :=
 ⟨⟨below_step h.out.1 hb, Nat.le_trans h.out.2.1 hb.size, blk_below h.out.2.2.1 hb, blk_below h.out.2.2.2.1 hb, blk_below h.out.2.2.2.2.1 hb, blk_below h.out.2.2.2.2.2 hb⟩⟩
theorem B4.cells (h : B4 w a0 a1 b0 b1 c0 c1 d0 d1 W) : W.cell? ⟨w.heap.size, 0, none⟩ = some (.int .i64 a0) ∧ W.cell? ⟨w.heap.size, 1, none⟩ = some (.int .i64 a1) ∧ W.cell? ⟨w.heap.size + 1, 0, none⟩ = some (.int .i64 b0) ∧ W.cell? ⟨w.heap.size + 1, 1, none⟩ = some (.int .i64 b1) ∧ W.cell? ⟨w.heap.size + 1 + 1, 0, none⟩ = some (.int .i64 c0) ∧ W.cell? ⟨w.heap.size + 1 + 1, 1, none⟩ = some (.int .i64 c1) ∧ W.cell? ⟨w.heap.size + 1 + 1 + 1, 0, none⟩ = some (.int .i64 d0) ∧ W.cell? ⟨w.heap.size + 1 + 1 + 1, 1, none⟩ = some (.int .i64 d1) :=
 ⟨(blk_cell h.out.2.2.1 0).trans rfl, (blk_cell h.out.2.2.1 1).trans rfl, (blk_cell h.out.2.2.2.1 0).trans rfl, (blk_cell h.out.2.2.2.1 1).trans rfl, (blk_cell h.out.2.2.2.2.1 0).trans rfl, (blk_cell h.out.2.2.2.2.1 1).trans rfl, (blk_cell h.out.2.2.2.2.2 0).trans rfl, (blk_cell h.out.2.2.2.2.2 1).trans rfl⟩
end
theorem dt_ref (a0 a1 b0 b1 c0 c1 d0 d1 : Int) : (((ds a0 a1 d0 d1) * (((b0 - d0) * (c1 - d1)) - ((b1 - d1) * (c0 - d0)))) - ((ds b0 b1 d0 d1) * (((a0 - d0) * (c1 - d1)) - ((a1 - d1) * (c0 - d0))))) + ((ds c0 c1 d0 d1) * (((a0 - d0) * (b1 - d1)) - ((a1 - d1) * (b0 - d0)))) = dt a0 a1 b0 b1 c0 c1 d0 d1 := by unfold ds dt; grind
def inc3.T : Bool × List (List Nat × List Nat) := (true, [([], []), ([0], [0]), ([], []), ([2], [2]), ([1, 3], [1, 3]), ([], []), ([5], [5]), ([], []), ([7], [7]), ([6, 8, 4], [6, 8]), ([], []), ([10], [10]), ([], []), ([12], [12]), ([11, 13, 9], [11, 13]), ([], []), ([15], [15]), ([], []), ([17], [17]), ([16, 18, 14], [16, 18]), ([], []), ([20], [20]), ([], []), ([22], [22]), ([21, 23, 19], [21, 23]), ([], []), ([25], [25]), ([], []), ([27], [27]), ([26, 28, 24], [26, 28]), ([], []), ([], []), ([], []), ([], []), ([], []), ([], []), ([30, 4, 29, 0, 1, 2, 3, 4, 30, 31, 32, 33, 34, 35], [4, 30]), ([31, 9, 36, 0, 1, 2, 3, 4, 5, 6, 7, 8, 9, 30, 31, 32, 33, 34, 35, 36], [9, 31]), ([32, 14, 37, 0, 1, 2, 3, 4, 5, 6, 7, 8, 9, 10, 11, 12, 13, 14, 30, 31, 32, 33, 34, 35, 36, 37], [14, 32]), ([33, 19, 38, 0, 1, 2, 3, 4, 5, 6, 7, 8, 9, 10, 11, 12, 13, 14, 15, 16, 17, 18, 19, 30, 31, 32, 33, 34, 35, 36, 37, 38], [19, 33]), ([34, 24, 39, 0, 1, 2, 3, 4, 5, 6, 7, 8, 9, 10, 11, 12, 13, 14, 15, 16, 17, 18, 19, 20, 21, 22, 23, 24, 30, 31, 32, 33, 34, 35, 36, 37, 38, 39], [24, 34]), ([35, 29, 40, 0, 1, 2, 3, 4, 5, 6, 7, 8, 9, 10, 11, 12, 13, 14, 15, 16, 17, 18, 19, 20, 21, 22, 23, 24, 25, 26, 27, 28, 29, 30, 31, 32, 33, 34, 35, 36, 37, 38, 39, 40], [29, 35])])
def inc3.B : List Nat := [0, 1, 0, 4, 15, 0, 32, 0, 128, 511, 0, 1024, 0, 4096, 16383, 0, 32768, 0, 131072, 524287, 0, 1048576, 0, 4194304, 16777215, 0, 33554432, 0, 134217728, 536870911, 0, 0, 0, 0, 0, 0, 68719476735, 137438953471, 274877906943, 549755813887, 1099511627775, 2199023255551]
theorem inc3.tab : rtab .any (opsOf Try.f19 3) = inc3.T := by kernel_rfl
theorem inc3.bits : waitsOk inc3.T.2 inc3.B = true := by kernel_rfl
def inc4.T : Bool × List (List Nat × List Nat) := (true, [([], []), ([], []), ([0, 1], [0, 1]), ([], []), ([], []), ([3, 4, 2], [3, 4]), ([], []), ([], []), ([6, 7, 5], [6, 7]), ([5, 8, 8], [5, 8]), ([2, 9, 9], [2, 9]), ([], []), ([11, 10, 10, 0, 1, 2, 3, 4, 5, 6, 7, 8, 9, 10, 11], [10, 11])])
def inc4.B : List Nat := [0, 0, 3, 0, 0, 31, 0, 0, 255, 511, 1023, 0, 4095]
theorem inc4.tab : rtab .any (opsOf Try.f19 4) = inc4.T := by kernel_rfl
theorem inc4.bits : waitsOk inc4.T.2 inc4.B = true := by kernel_rfl
def inc5.T : Bool × List (List Nat × List Nat) := (true, [([], []), ([], []), ([], []), ([1, 2], [1, 2]), ([], []), ([], []), ([4, 5, 3], [4, 5]), ([], []), ([], []), ([7, 8, 6], [7, 8]), ([6, 9, 9], [6, 9]), ([3, 10, 10], [3, 10]), ([0, 11, 11], [0, 11]), ([12, 12, 0, 1, 2, 3, 4, 5, 6, 7, 8, 9, 10, 11, 12], [12])])
def inc5.B : List Nat := [0, 0, 0, 6, 0, 0, 62, 0, 0, 510, 1022, 2046, 4095, 8191]
theorem inc5.tab : rtab .any (opsOf Try.f19 5) = inc5.T := by kernel_rfl
theorem inc5.bits : waitsOk inc5.T.2 inc5.B = true := by kernel_rfl
def inc6.T : Bool × List (List Nat × List Nat) := (true, [([], []), ([], []), ([], []), ([1, 2], [1, 2]), ([], []), ([], []), ([4, 5, 3], [4, 5]), ([], []), ([], []), ([7, 8, 6], [7, 8]), ([6, 9, 9], [6, 9]), ([3, 10, 10], [3, 10]), ([0, 11, 11], [0, 11]), ([12, 12, 0, 1, 2, 3, 4, 5, 6, 7, 8, 9, 10, 11, 12], [12])])
def inc6.B : List Nat := [0, 0, 0, 6, 0, 0, 62, 0, 0, 510, 1022, 2046, 4095, 8191]
theorem inc6.tab : rtab .any (opsOf Try.f19 6) = inc6.T := by kernel_rfl
theorem inc6.bits : waitsOk inc6.T.2 inc6.B = true := by kernel_rfl
set_option maxHeartbeats 16000000 in
set_option maxRecDepth 100000 in
theorem incircle_near {a0 a1 b0 b1 c0 c1 d0 d1 : Int} (ha : CoP a0 a1) (hb : CoP b0 b1) (hc : CoP c0 c1) (hd : CoP d0 d1) (Na : Aside0 (zelligeref07_near.f a0 a1 d0 d1 = some true)) (Nb : Aside0 (zelligeref07_near.f b0 b1 d0 d1 = some true)) (Nc : Aside0 (zelligeref07_near.f c0 c1 d0 d1 = some true))
  (q : Int) (FL : Aside0 (zelligeref07_flat.f a0 a1 b0 b1 c0 c1 d0 d1 = some q)) (w : World) :
  Calls Try.prog 19 #[.agg #[.int .i64 a0, .int .i64 a1], .agg #[.int .i64 b0, .int .i64 b1], .agg #[.int .i64 c0, .int .i64 c1], .agg #[.int .i64 d0, .int .i64 d1]] w fun e w' => e = .returned (.int .i64 q) ∧ Below w.heap.size w w' := by
 have AH := Aside0.mk (And.intro ha (And.intro hb (And.intro hc hd)))
 clear ha hb hc hd
 go_enter Try.func19, Try.ntmps19
 go_upto_region 1 with fail
 obtain ⟨n0, n1, n2, n3, bw, nw⟩ := four_new w (.cells #[.int .i64 a0, .int .i64 a1] 23) (.cells #[.int .i64 b0, .int .i64 b1] 23) (.cells #[.int .i64 c0, .int .i64 c1] 23) (.cells #[.int .i64 d0, .int .i64 d1] 23)
 generalize ((((w.alloc (.cells #[.int .i64 a0, .int .i64 a1] 23)).alloc (.cells #[.int .i64 b0, .int .i64 b1] 23)).alloc (.cells #[.int .i64 c0, .int .i64 c1] 23)).alloc (.cells #[.int .i64 d0, .int .i64 d1] 23)) = W at n0 n1 n2 n3 bw nw ⊢
 have S := Aside0.mk (B4.mk ⟨bw, Nat.le_of_eq nw.symm, n0, n1, n2, n3⟩)
 clear n0 n1 n2 n3 bw nw
 obtain ⟨k0, k1, k2, k3, k4, k5, k6, k7⟩ := S.out.cells
 go_wp2_with (first | (first | (with_reducible go_at_call 21; with_reducible refine (zelligeref07_near.calls a0 a1 d0 d1 _ _ Na.out).mono ?_; rintro e v1 ⟨rfl, hb⟩; have S := Aside0.mk (S.out.below hb); clear hb k0 k1 k2 k3 k4 k5 k6 k7; obtain ⟨k0, k1, k2, k3, k4, k5, k6, k7⟩ := S.out.cells) | (with_reducible go_at_call 21; with_reducible refine (zelligeref07_near.calls b0 b1 d0 d1 _ _ Nb.out).mono ?_; rintro e v1 ⟨rfl, hb⟩; have S := Aside0.mk (S.out.below hb); clear hb k0 k1 k2 k3 k4 k5 k6 k7; obtain ⟨k0, k1, k2, k3, k4, k5, k6, k7⟩ := S.out.cells) | (with_reducible go_at_call 21; with_reducible refine (zelligeref07_near.calls c0 c1 d0 d1 _ _ Nc.out).mono ?_; rintro e v1 ⟨rfl, hb⟩; have S := Aside0.mk (S.out.below hb); clear hb k0 k1 k2 k3 k4 k5 k6 k7; obtain ⟨k0, k1, k2, k3, k4, k5, k6, k7⟩ := S.out.cells)) | (with_reducible go_at_call 30; with_reducible refine (zelligeref07_flat.calls a0 a1 b0 b1 c0 c1 d0 d1 _ _ FL.out).mono ?_; rintro e v1 ⟨rfl, hb⟩; have S := Aside0.mk (S.out.below hb); clear hb k0 k1 k2 k3 k4 k5 k6 k7; obtain ⟨k0, k1, k2, k3, k4, k5, k6, k7⟩ := S.out.cells))
 go_ret
 exact ⟨rfl, S.out.out.1⟩
set_option maxHeartbeats 16000000 in
set_option maxRecDepth 100000 in
theorem incircle_walk {a0 a1 b0 b1 c0 c1 d0 d1 : Int} (ha : CoP a0 a1) (hb : CoP b0 b1) (hc : CoP c0 c1) (hd : CoP d0 d1) (m1 m2 m3 : Bool) (hm : m1 = true → m2 = true → m3 = true → False) (Na : Aside0 (zelligeref07_near.f a0 a1 d0 d1 = some m1)) (Nb : Aside0 (zelligeref07_near.f b0 b1 d0 d1 = some m2)) (Nc : Aside0 (zelligeref07_near.f c0 c1 d0 d1 = some m3))
  (q : Int) (hq : Aside0 ((dt a0 a1 b0 b1 c0 c1 d0 d1).sign = q)) (w : World) :
  Calls Try.prog 19 #[.agg #[.int .i64 a0, .int .i64 a1], .agg #[.int .i64 b0, .int .i64 b1], .agg #[.int .i64 c0, .int .i64 c1], .agg #[.int .i64 d0, .int .i64 d1]] w fun e w' => e = .returned (.int .i64 q) ∧ Below w.heap.size w w' := by
 have AH := Aside0.mk (And.intro ha (And.intro hb (And.intro hc hd)))
 clear ha hb hc hd
 go_enter Try.func19, Try.ntmps19
 go_upto_region 1 with fail
 obtain ⟨n0, n1, n2, n3, bw, nw⟩ := four_new w (.cells #[.int .i64 a0, .int .i64 a1] 23) (.cells #[.int .i64 b0, .int .i64 b1] 23) (.cells #[.int .i64 c0, .int .i64 c1] 23) (.cells #[.int .i64 d0, .int .i64 d1] 23)
 generalize ((((w.alloc (.cells #[.int .i64 a0, .int .i64 a1] 23)).alloc (.cells #[.int .i64 b0, .int .i64 b1] 23)).alloc (.cells #[.int .i64 c0, .int .i64 c1] 23)).alloc (.cells #[.int .i64 d0, .int .i64 d1] 23)) = W at n0 n1 n2 n3 bw nw ⊢
 have S := Aside0.mk (B4.mk ⟨bw, Nat.le_of_eq nw.symm, n0, n1, n2, n3⟩)
 clear n0 n1 n2 n3 bw nw
 obtain ⟨k0, k1, k2, k3, k4, k5, k6, k7⟩ := S.out.cells
 go_cut [28] (fun v28 wx => v28 = .bool false ∧ B4 w a0 a1 b0 b1 c0 c1 d0 d1 wx)
 case first =>
  cases m1
  ·go_wp2_with (first | (with_reducible go_at_call 21; with_reducible refine (zelligeref07_near.calls a0 a1 d0 d1 _ _ Na.out).mono ?_; rintro e v1 ⟨rfl, hb⟩; have S := Aside0.mk (S.out.below hb); clear hb k0 k1 k2 k3 k4 k5 k6 k7; obtain ⟨k0, k1, k2, k3, k4, k5, k6, k7⟩ := S.out.cells) | (with_reducible go_at_call 21; with_reducible refine (zelligeref07_near.calls b0 b1 d0 d1 _ _ Nb.out).mono ?_; rintro e v1 ⟨rfl, hb⟩; have S := Aside0.mk (S.out.below hb); clear hb k0 k1 k2 k3 k4 k5 k6 k7; obtain ⟨k0, k1, k2, k3, k4, k5, k6, k7⟩ := S.out.cells) | (with_reducible go_at_call 21; with_reducible refine (zelligeref07_near.calls c0 c1 d0 d1 _ _ Nc.out).mono ?_; rintro e v1 ⟨rfl, hb⟩; have S := Aside0.mk (S.out.below hb); clear hb k0 k1 k2 k3 k4 k5 k6 k7; obtain ⟨k0, k1, k2, k3, k4, k5, k6, k7⟩ := S.out.cells))
   go_meet
   exact ⟨rfl, S.out⟩
  cases m2
  ·go_wp2_with (first | (with_reducible go_at_call 21; with_reducible refine (zelligeref07_near.calls a0 a1 d0 d1 _ _ Na.out).mono ?_; rintro e v1 ⟨rfl, hb⟩; have S := Aside0.mk (S.out.below hb); clear hb k0 k1 k2 k3 k4 k5 k6 k7; obtain ⟨k0, k1, k2, k3, k4, k5, k6, k7⟩ := S.out.cells) | (with_reducible go_at_call 21; with_reducible refine (zelligeref07_near.calls b0 b1 d0 d1 _ _ Nb.out).mono ?_; rintro e v1 ⟨rfl, hb⟩; have S := Aside0.mk (S.out.below hb); clear hb k0 k1 k2 k3 k4 k5 k6 k7; obtain ⟨k0, k1, k2, k3, k4, k5, k6, k7⟩ := S.out.cells) | (with_reducible go_at_call 21; with_reducible refine (zelligeref07_near.calls c0 c1 d0 d1 _ _ Nc.out).mono ?_; rintro e v1 ⟨rfl, hb⟩; have S := Aside0.mk (S.out.below hb); clear hb k0 k1 k2 k3 k4 k5 k6 k7; obtain ⟨k0, k1, k2, k3, k4, k5, k6, k7⟩ := S.out.cells))
   go_meet
   exact ⟨rfl, S.out⟩
  cases m3
  ·go_wp2_with (first | (with_reducible go_at_call 21; with_reducible refine (zelligeref07_near.calls a0 a1 d0 d1 _ _ Na.out).mono ?_; rintro e v1 ⟨rfl, hb⟩; have S := Aside0.mk (S.out.below hb); clear hb k0 k1 k2 k3 k4 k5 k6 k7; obtain ⟨k0, k1, k2, k3, k4, k5, k6, k7⟩ := S.out.cells) | (with_reducible go_at_call 21; with_reducible refine (zelligeref07_near.calls b0 b1 d0 d1 _ _ Nb.out).mono ?_; rintro e v1 ⟨rfl, hb⟩; have S := Aside0.mk (S.out.below hb); clear hb k0 k1 k2 k3 k4 k5 k6 k7; obtain ⟨k0, k1, k2, k3, k4, k5, k6, k7⟩ := S.out.cells) | (with_reducible go_at_call 21; with_reducible refine (zelligeref07_near.calls c0 c1 d0 d1 _ _ Nc.out).mono ?_; rintro e v1 ⟨rfl, hb⟩; have S := Aside0.mk (S.out.below hb); clear hb k0 k1 k2 k3 k4 k5 k6 k7; obtain ⟨k0, k1, k2, k3, k4, k5, k6, k7⟩ := S.out.cells))
   go_meet
   exact ⟨rfl, S.out⟩
  exact (hm rfl rfl rfl).elim
 case rest =>
 obtain ⟨rfl, S⟩ := hcut
 clear k0 k1 k2 k3 k4 k5 k6 k7 Na Nb Nc hm
 obtain ⟨ha, hb, hc, hd⟩ := AH.out
 have Qa := ha; have Qb := hb; have Qc := hc; have Qd := hd
 have A0 := ha.1.way hd.1
 have A1 := ha.2.way hd.2
 have A2 := hb.1.way hd.1
 have A3 := hb.2.way hd.2
 have A4 := hc.1.way hd.1
 have A5 := hc.2.way hd.2
 have s0 := sm_am A0 (by omega)
 have s1 := sm_am A1 (by omega)
 have s2 := sm_am A2 (by omega)
 have s3 := sm_am A3 (by omega)
 have s4 := sm_am A4 (by omega)
 have s5 := sm_am A5 (by omega)
 have P0 := Am.mul A2 A5; have p0 := sm_am P0 (by omega)
 have P1 := Am.mul A3 A4; have p1 := sm_am P1 (by omega)
 have P2 := Am.mul A0 A5; have p2 := sm_am P2 (by omega)
 have P3 := Am.mul A1 A4; have p3 := sm_am P3 (by omega)
 have P4 := Am.mul A0 A3; have p4 := sm_am P4 (by omega)
 have P5 := Am.mul A1 A2; have p5 := sm_am P5 (by omega)
 have C0 := Am.sub P0 P1; have r0 := sm_am C0 (by omega)
 have C1 := Am.sub P2 P3; have r1 := sm_am C1 (by omega)
 have C2 := Am.sub P4 P5; have r2 := sm_am C2 (by omega)
 have T0 : Am (ds a0 a1 d0 d1) (2199023255552 * 2199023255552 + 2199023255552 * 2199023255552) := by unfold ds; exact Am.add (Am.mul (hd.1.way ha.1) (hd.1.way ha.1)) (Am.mul (hd.2.way ha.2) (hd.2.way ha.2))
 have t0 := sm_am T0 (by omega); have U0 := Am.mul T0 C0; have u0 := sm_am U0 (by omega)
 have T1 : Am (ds b0 b1 d0 d1) (2199023255552 * 2199023255552 + 2199023255552 * 2199023255552) := by unfold ds; exact Am.add (Am.mul (hd.1.way hb.1) (hd.1.way hb.1)) (Am.mul (hd.2.way hb.2) (hd.2.way hb.2))
 have t1 := sm_am T1 (by omega); have U1 := Am.mul T1 C1; have u1 := sm_am U1 (by omega)
 have T2 : Am (ds c0 c1 d0 d1) (2199023255552 * 2199023255552 + 2199023255552 * 2199023255552) := by unfold ds; exact Am.add (Am.mul (hd.1.way hc.1) (hd.1.way hc.1)) (Am.mul (hd.2.way hc.2) (hd.2.way hc.2))
 have t2 := sm_am T2 (by omega); have U2 := Am.mul T2 C2; have u2 := sm_am U2 (by omega)
 have v1 := sm_am (Am.sub U0 U1) (by omega)
 clear A0 P0 A1 P1 A2 P2 A3 P3 A4 P4 A5 P5 C0 T0 U0 C1 T1 U1 C2 T2 U2
 have h_a0 := co_wf ha.1; have h_a1 := co_wf ha.2; have h_b0 := co_wf hb.1; have h_b1 := co_wf hb.2; have h_c0 := co_wf hc.1; have h_c1 := co_wf hc.2; have h_d0 := co_wf hd.1; have h_d1 := co_wf hd.2
 go_wp2_with fail
 obtain ⟨G, hGd⟩ : ∃ G : World → Prop, G = (fun w' => Below w.heap.size w w' ∧ w.heap.size + 1 + 1 + 1 + 1 ≤ w'.heap.size ∧ w'.heap[w.heap.size]? = some (.cells #[.int .i64 a0, .int .i64 a1] 23 (0, 0)) ∧ w'.heap[w.heap.size + 1]? = some (.cells #[.int .i64 b0, .int .i64 b1] 23 (0, 0)) ∧ w'.heap[w.heap.size + 1 + 1]? = some (.cells #[.int .i64 c0, .int .i64 c1] 23 (0, 0)) ∧ w'.heap[w.heap.size + 1 + 1 + 1]? = some (.cells #[.int .i64 d0, .int .i64 d1] 23 (0, 0))) := ⟨_, rfl⟩
 have GM : ∀ w1 w2 : World, G w1 → Below w1.heap.size w1 w2 → G w2 := by
  subst hGd
  rintro w1 w2 ⟨HBl, HSz, Bx4, Bx5, Bx6, Bx7⟩ hb
  exact ⟨below_step HBl hb, Nat.le_trans HSz hb.size, blk_below Bx4 hb, blk_below Bx5 hb, blk_below Bx6 hb, blk_below Bx7 hb⟩
 have HM : ∀ w1 w2 : World, (fun _ => True) w1 → Below w1.heap.size w1 w2 → (fun _ => True) w2 := fun _ _ _ _ => True.intro
 have GS : ∀ (w1 : World) (g : Nat) (x0 y0 x y : Value), G w1 → w1.heap[g]? = some (.cells #[x0, y0] 42 (0, 0)) → w.heap.size ≤ g → ((w.heap.size = g ∨ w.heap.size + 1 = g ∨ w.heap.size + 1 + 1 = g ∨ w.heap.size + 1 + 1 + 1 = g) → False) → G ((w1.setCell ⟨g, 0, none⟩ x).setCell ⟨g, 1, none⟩ y) := by
  subst hGd
  rintro w1 g x0 y0 x y ⟨HBl, HSz, Bx4, Bx5, Bx6, Bx7⟩ hgh hle hne
  exact ⟨below_set2 HBl hle _ _ _ _, (by simpa [World.setCell] using HSz), blk_far (blk_far Bx4 (fun e => hne (by simp [e])) _) (fun e => hne (by simp [e])) _, blk_far (blk_far Bx5 (fun e => hne (by simp [e])) _) (fun e => hne (by simp [e])) _, blk_far (blk_far Bx6 (fun e => hne (by simp [e])) _) (fun e => hne (by simp [e])) _, blk_far (blk_far Bx7 (fun e => hne (by simp [e])) _) (fun e => hne (by simp [e])) _⟩
 refine start_ (n := 42) (S := fun w' => True) (ds := []) #[false, false, false, false, false, false, false, false, false, false, false, false, false, false, false, false, false, false, false, false, false, false, false, false, false, false, false, false, false, false, false, false, false, false, false, false, false, false, false, false, false, false] (by kernel_rfl) rfl rfl trivial (fun _ => ?_); refine with_tabW inc3.tab inc3.bits (fun HT_ HW_ => ?_)
 have hG0 : G wc.drew := by subst hGd; exact ⟨below_drew S.out.1, S.out.2.1, S.out.2.2.1, S.out.2.2.2.1, S.out.2.2.2.2.1, S.out.2.2.2.2.2⟩
 generalize wc.drew = W1 at hG0 ⊢
 refine inv_at [0, 1, 2, 3, 4, 5, 6, 7, 8, 9, 10, 11, 12, 13, 14, 15, 16, 17, 18, 19, 20, 21, 22, 23, 24, 25, 26, 27, 28, 29, 30, 31, 32, 33, 34, 35, 36, 37, 38, 39, 40, 41] (fun a0_ b a w' => Rg ⟨[0, 1, 2, 3, 4, 5, 6, 7, 8, 9, 10, 11, 12, 13, 14, 15, 16, 17, 18, 19, 20, 21, 22, 23, 24, 25, 26, 27, 28, 29, 30, 31, 32, 33, 34, 35, 36, 37, 38, 39, 40, 41], [(0, 34), (1, 35), (2, 36), (3, 37), (4, 38), (5, 39), (6, 40), (7, 41), (8, 42), (9, 43), (10, 44), (11, 45), (12, 46), (13, 47), (14, 48), (15, 49), (16, 50), (17, 51), (18, 52), (19, 53), (20, 54), (21, 55), (22, 56), (23, 57), (24, 58), (25, 59), (26, 60), (27, 61), (28, 62), (29, 63), (30, 9), (31, 10), (32, 11), (33, 12), (34, 13), (35, 14)], fun j => [.const (.pointer (some ⟨w.heap.size + 1 + 1 + 1, 0, none⟩)), .const (.int .i64 d0), .const (.pointer (some ⟨w.heap.size, 0, none⟩)), .const (.int .i64 a0), .ni (a0 - d0), .const (.pointer (some ⟨w.heap.size + 1 + 1 + 1, 1, none⟩)), .const (.int .i64 d1), .const (.pointer (some ⟨w.heap.size, 1, none⟩)), .const (.int .i64 a1), .ni (a1 - d1), .const (.pointer (some ⟨w.heap.size + 1 + 1 + 1, 0, none⟩)), .const (.int .i64 d0), .const (.pointer (some ⟨w.heap.size + 1, 0, none⟩)), .const (.int .i64 b0), .ni (b0 - d0), .const (.pointer (some ⟨w.heap.size + 1 + 1 + 1, 1, none⟩)), .const (.int .i64 d1), .const (.pointer (some ⟨w.heap.size + 1, 1, none⟩)), .const (.int .i64 b1), .ni (b1 - d1), .const (.pointer (some ⟨w.heap.size + 1 + 1 + 1, 0, none⟩)), .const (.int .i64 d0), .const (.pointer (some ⟨w.heap.size + 1 + 1, 0, none⟩)), .const (.int .i64 c0), .ni (c0 - d0), .const (.pointer (some ⟨w.heap.size + 1 + 1 + 1, 1, none⟩)), .const (.int .i64 d1), .const (.pointer (some ⟨w.heap.size + 1 + 1, 1, none⟩)), .const (.int .i64 c1), .ni (c1 - d1), .box, .box, .box, .box, .box, .box, .put 30 4, .put 31 9, .put 32 14, .put 33 19, .put 34 24, .put 35 29].getD j .box, w.heap.size + 1 + 1 + 1 + 1, 6, G, fun _ => True, 1000⟩ a0_ b a w') HT_.out HW_.out (by kernel_rfl) (by kernel_rfl) ?_ ?_ ?_
 ·exact rg0 hG0 True.intro
 ·refine steps_cons ?_ ?_
  ·rintro b a w' ⟨ms, hR⟩ hb_ hon hoff
   obtain ⟨ha, hF, hD, hG, _⟩ := id hR
   have HH := True.intro
   refine ⟨_, rfl, fun K hK => ?_⟩
   have e7 : a.tmps[7]? = some (.pointer (some ⟨w.heap.size + 1 + 1 + 1, 0, none⟩)) := (off_ ha rfl).trans rfl
   have HR := Aside0.mk hR
   clear hR ha hF
   refine value_ (w1 := w') (v := .pointer (some ⟨w.heap.size + 1 + 1 + 1, 0, none⟩)) (by rfl) rfl ?_ ?_
   ·go_simp
    try rfl
   exact hK.out _ _ (step_ 0 HR.out rfl rfl hb_ (Below.refl _ _) hG rfl (fun h => by cases h) (fun _ => HH) rfl)
  refine steps_cons ?_ ?_
  ·rintro b a w' ⟨ms, hR⟩ hb_ hon hoff
   obtain ⟨ha, hF, hD, hG, _⟩ := id hR
   have hG1 := hG
   rw [hGd] at hG1
   obtain ⟨_, _, _, _, _, Bx7⟩ := hG1
   have HH := True.intro
   refine ⟨_, rfl, fun K hK => ?_⟩
   have e34 : a.tmps[34]? = some (.pointer (some ⟨w.heap.size + 1 + 1 + 1, 0, none⟩)) := (on_ 0 ha rfl (hon 0 (by kernel_rfl)) rfl).trans (congrArg some (hF 0 (hon 0 (by kernel_rfl))))
   have hc : w'.cell? ⟨w.heap.size + 1 + 1 + 1, 0, none⟩ = some (.int .i64 d0) := (blk_cell Bx7 0).trans rfl
   have HR := Aside0.mk hR
   clear hR ha hF
   refine value_ (w1 := w') (v := .int .i64 d0) (by rfl) rfl ?_ ?_
   ·go_simp
    (try simp only [i64_w])
    try rfl
   exact hK.out _ _ (step_ 1 HR.out rfl rfl hb_ (Below.refl _ _) hG rfl (fun h => by cases h) (fun _ => HH) rfl)
  refine steps_cons ?_ ?_
  ·rintro b a w' ⟨ms, hR⟩ hb_ hon hoff
   obtain ⟨ha, hF, hD, hG, _⟩ := id hR
   have HH := True.intro
   refine ⟨_, rfl, fun K hK => ?_⟩
   have e4 : a.tmps[4]? = some (.pointer (some ⟨w.heap.size, 0, none⟩)) := (off_ ha rfl).trans rfl
   have HR := Aside0.mk hR
   clear hR ha hF
   refine value_ (w1 := w') (v := .pointer (some ⟨w.heap.size, 0, none⟩)) (by rfl) rfl ?_ ?_
   ·go_simp
    try rfl
   exact hK.out _ _ (step_ 2 HR.out rfl rfl hb_ (Below.refl _ _) hG rfl (fun h => by cases h) (fun _ => HH) rfl)
  refine steps_cons ?_ ?_
  ·rintro b a w' ⟨ms, hR⟩ hb_ hon hoff
   obtain ⟨ha, hF, hD, hG, _⟩ := id hR
   have hG1 := hG
   rw [hGd] at hG1
   obtain ⟨_, _, Bx4, _, _, _⟩ := hG1
   have HH := True.intro
   refine ⟨_, rfl, fun K hK => ?_⟩
   have e36 : a.tmps[36]? = some (.pointer (some ⟨w.heap.size, 0, none⟩)) := (on_ 2 ha rfl (hon 2 (by kernel_rfl)) rfl).trans (congrArg some (hF 2 (hon 2 (by kernel_rfl))))
   have hc : w'.cell? ⟨w.heap.size, 0, none⟩ = some (.int .i64 a0) := (blk_cell Bx4 0).trans rfl
   have HR := Aside0.mk hR
   clear hR ha hF
   refine value_ (w1 := w') (v := .int .i64 a0) (by rfl) rfl ?_ ?_
   ·go_simp
    (try simp only [i64_w])
    try rfl
   exact hK.out _ _ (step_ 3 HR.out rfl rfl hb_ (Below.refl _ _) hG rfl (fun h => by cases h) (fun _ => HH) rfl)
  refine steps_cons ?_ ?_
  ·rintro b a w' ⟨ms, hR⟩ hb_ hon hoff
   obtain ⟨ha, hF, hD, hG, _⟩ := id hR
   have HH := True.intro
   refine ⟨_, rfl, fun K hK => ?_⟩
   have e35 : a.tmps[35]? = some (.int .i64 d0) := (on_ 1 ha rfl (hon 1 (by kernel_rfl)) rfl).trans (congrArg some (hF 1 (hon 1 (by kernel_rfl))))
   have e37 : a.tmps[37]? = some (.int .i64 a0) := (on_ 3 ha rfl (hon 3 (by kernel_rfl)) rfl).trans (congrArg some (hF 3 (hon 3 (by kernel_rfl))))
   refine goes_ Try.func31 (by kernel_rfl) rfl #[.int .i64 d0, .int .i64 a0] (by rfl) rfl rfl (by first | (simp only [List.map_toArray, List.map_cons, List.map_nil, Act.eval, Array.getD_eq_getD_getElem?, Option.getD_some, e35, e37]; done) | (simp only [List.map_toArray, List.map_cons, List.map_nil, Act.eval, Array.getD_eq_getD_getElem?, Option.getD_some, e35, e37]; rfl)) ?_
   with_reducible refine (diff_c d0 a0 h_d0 h_a0 _).mono ?_
   rintro e w1 ⟨r, rfl, hN, hb⟩
   exact ⟨_, rfl, hK.out _ _ (step_ 4 hR rfl rfl hb_ hb (GM _ _ hG hb) hN (fun h => by cases h) (fun _ => HM _ _ HH hb) rfl)⟩
  refine steps_cons ?_ ?_
  ·rintro b a w' ⟨ms, hR⟩ hb_ hon hoff
   obtain ⟨ha, hF, hD, hG, _⟩ := id hR
   have HH := True.intro
   refine ⟨_, rfl, fun K hK => ?_⟩
   have e7 : a.tmps[7]? = some (.pointer (some ⟨w.heap.size + 1 + 1 + 1, 0, none⟩)) := (off_ ha rfl).trans rfl
   have HR := Aside0.mk hR
   clear hR ha hF
   refine value_ (w1 := w') (v := .pointer (some ⟨w.heap.size + 1 + 1 + 1, 1, none⟩)) (by rfl) rfl ?_ ?_
   ·go_simp
    try rfl
   exact hK.out _ _ (step_ 5 HR.out rfl rfl hb_ (Below.refl _ _) hG rfl (fun h => by cases h) (fun _ => HH) rfl)
  refine steps_cons ?_ ?_
  ·rintro b a w' ⟨ms, hR⟩ hb_ hon hoff
   obtain ⟨ha, hF, hD, hG, _⟩ := id hR
   have hG1 := hG
   rw [hGd] at hG1
   obtain ⟨_, _, _, _, _, Bx7⟩ := hG1
   have HH := True.intro
   refine ⟨_, rfl, fun K hK => ?_⟩
   have e39 : a.tmps[39]? = some (.pointer (some ⟨w.heap.size + 1 + 1 + 1, 1, none⟩)) := (on_ 5 ha rfl (hon 5 (by kernel_rfl)) rfl).trans (congrArg some (hF 5 (hon 5 (by kernel_rfl))))
   have hc : w'.cell? ⟨w.heap.size + 1 + 1 + 1, 1, none⟩ = some (.int .i64 d1) := (blk_cell Bx7 1).trans rfl
   have HR := Aside0.mk hR
   clear hR ha hF
   refine value_ (w1 := w') (v := .int .i64 d1) (by rfl) rfl ?_ ?_
   ·go_simp
    (try simp only [i64_w])
    try rfl
   exact hK.out _ _ (step_ 6 HR.out rfl rfl hb_ (Below.refl _ _) hG rfl (fun h => by cases h) (fun _ => HH) rfl)
  refine steps_cons ?_ ?_
  ·rintro b a w' ⟨ms, hR⟩ hb_ hon hoff
   obtain ⟨ha, hF, hD, hG, _⟩ := id hR
   have HH := True.intro
   refine ⟨_, rfl, fun K hK => ?_⟩
   have e4 : a.tmps[4]? = some (.pointer (some ⟨w.heap.size, 0, none⟩)) := (off_ ha rfl).trans rfl
   have HR := Aside0.mk hR
   clear hR ha hF
   refine value_ (w1 := w') (v := .pointer (some ⟨w.heap.size, 1, none⟩)) (by rfl) rfl ?_ ?_
   ·go_simp
    try rfl
   exact hK.out _ _ (step_ 7 HR.out rfl rfl hb_ (Below.refl _ _) hG rfl (fun h => by cases h) (fun _ => HH) rfl)
  refine steps_cons ?_ ?_
  ·rintro b a w' ⟨ms, hR⟩ hb_ hon hoff
   obtain ⟨ha, hF, hD, hG, _⟩ := id hR
   have hG1 := hG
   rw [hGd] at hG1
   obtain ⟨_, _, Bx4, _, _, _⟩ := hG1
   have HH := True.intro
   refine ⟨_, rfl, fun K hK => ?_⟩
   have e41 : a.tmps[41]? = some (.pointer (some ⟨w.heap.size, 1, none⟩)) := (on_ 7 ha rfl (hon 7 (by kernel_rfl)) rfl).trans (congrArg some (hF 7 (hon 7 (by kernel_rfl))))
   have hc : w'.cell? ⟨w.heap.size, 1, none⟩ = some (.int .i64 a1) := (blk_cell Bx4 1).trans rfl
   have HR := Aside0.mk hR
   clear hR ha hF
   refine value_ (w1 := w') (v := .int .i64 a1) (by rfl) rfl ?_ ?_
   ·go_simp
    (try simp only [i64_w])
    try rfl
   exact hK.out _ _ (step_ 8 HR.out rfl rfl hb_ (Below.refl _ _) hG rfl (fun h => by cases h) (fun _ => HH) rfl)
  refine steps_cons ?_ ?_
  ·rintro b a w' ⟨ms, hR⟩ hb_ hon hoff
   obtain ⟨ha, hF, hD, hG, _⟩ := id hR
   have HH := True.intro
   refine ⟨_, rfl, fun K hK => ?_⟩
   have e40 : a.tmps[40]? = some (.int .i64 d1) := (on_ 6 ha rfl (hon 6 (by kernel_rfl)) rfl).trans (congrArg some (hF 6 (hon 6 (by kernel_rfl))))
   have e42 : a.tmps[42]? = some (.int .i64 a1) := (on_ 8 ha rfl (hon 8 (by kernel_rfl)) rfl).trans (congrArg some (hF 8 (hon 8 (by kernel_rfl))))
   refine goes_ Try.func31 (by kernel_rfl) rfl #[.int .i64 d1, .int .i64 a1] (by rfl) rfl rfl (by first | (simp only [List.map_toArray, List.map_cons, List.map_nil, Act.eval, Array.getD_eq_getD_getElem?, Option.getD_some, e40, e42]; done) | (simp only [List.map_toArray, List.map_cons, List.map_nil, Act.eval, Array.getD_eq_getD_getElem?, Option.getD_some, e40, e42]; rfl)) ?_
   with_reducible refine (diff_c d1 a1 h_d1 h_a1 _).mono ?_
   rintro e w1 ⟨r, rfl, hN, hb⟩
   exact ⟨_, rfl, hK.out _ _ (step_ 9 hR rfl rfl hb_ hb (GM _ _ hG hb) hN (fun h => by cases h) (fun _ => HM _ _ HH hb) rfl)⟩
  refine steps_cons ?_ ?_
  ·rintro b a w' ⟨ms, hR⟩ hb_ hon hoff
   obtain ⟨ha, hF, hD, hG, _⟩ := id hR
   have HH := True.intro
   refine ⟨_, rfl, fun K hK => ?_⟩
   have e7 : a.tmps[7]? = some (.pointer (some ⟨w.heap.size + 1 + 1 + 1, 0, none⟩)) := (off_ ha rfl).trans rfl
   have HR := Aside0.mk hR
   clear hR ha hF
   refine value_ (w1 := w') (v := .pointer (some ⟨w.heap.size + 1 + 1 + 1, 0, none⟩)) (by rfl) rfl ?_ ?_
   ·go_simp
    try rfl
   exact hK.out _ _ (step_ 10 HR.out rfl rfl hb_ (Below.refl _ _) hG rfl (fun h => by cases h) (fun _ => HH) rfl)
  refine steps_cons ?_ ?_
  ·rintro b a w' ⟨ms, hR⟩ hb_ hon hoff
   obtain ⟨ha, hF, hD, hG, _⟩ := id hR
   have hG1 := hG
   rw [hGd] at hG1
   obtain ⟨_, _, _, _, _, Bx7⟩ := hG1
   have HH := True.intro
   refine ⟨_, rfl, fun K hK => ?_⟩
   have e44 : a.tmps[44]? = some (.pointer (some ⟨w.heap.size + 1 + 1 + 1, 0, none⟩)) := (on_ 10 ha rfl (hon 10 (by kernel_rfl)) rfl).trans (congrArg some (hF 10 (hon 10 (by kernel_rfl))))
   have hc : w'.cell? ⟨w.heap.size + 1 + 1 + 1, 0, none⟩ = some (.int .i64 d0) := (blk_cell Bx7 0).trans rfl
   have HR := Aside0.mk hR
   clear hR ha hF
   refine value_ (w1 := w') (v := .int .i64 d0) (by rfl) rfl ?_ ?_
   ·go_simp
    (try simp only [i64_w])
    try rfl
   exact hK.out _ _ (step_ 11 HR.out rfl rfl hb_ (Below.refl _ _) hG rfl (fun h => by cases h) (fun _ => HH) rfl)
  refine steps_cons ?_ ?_
  ·rintro b a w' ⟨ms, hR⟩ hb_ hon hoff
   obtain ⟨ha, hF, hD, hG, _⟩ := id hR
   have HH := True.intro
   refine ⟨_, rfl, fun K hK => ?_⟩
   have e5 : a.tmps[5]? = some (.pointer (some ⟨w.heap.size + 1, 0, none⟩)) := (off_ ha rfl).trans rfl
   have HR := Aside0.mk hR
   clear hR ha hF
   refine value_ (w1 := w') (v := .pointer (some ⟨w.heap.size + 1, 0, none⟩)) (by rfl) rfl ?_ ?_
   ·go_simp
    try rfl
   exact hK.out _ _ (step_ 12 HR.out rfl rfl hb_ (Below.refl _ _) hG rfl (fun h => by cases h) (fun _ => HH) rfl)
  refine steps_cons ?_ ?_
  ·rintro b a w' ⟨ms, hR⟩ hb_ hon hoff
   obtain ⟨ha, hF, hD, hG, _⟩ := id hR
   have hG1 := hG
   rw [hGd] at hG1
   obtain ⟨_, _, _, Bx5, _, _⟩ := hG1
   have HH := True.intro
   refine ⟨_, rfl, fun K hK => ?_⟩
   have e46 : a.tmps[46]? = some (.pointer (some ⟨w.heap.size + 1, 0, none⟩)) := (on_ 12 ha rfl (hon 12 (by kernel_rfl)) rfl).trans (congrArg some (hF 12 (hon 12 (by kernel_rfl))))
   have hc : w'.cell? ⟨w.heap.size + 1, 0, none⟩ = some (.int .i64 b0) := (blk_cell Bx5 0).trans rfl
   have HR := Aside0.mk hR
   clear hR ha hF
   refine value_ (w1 := w') (v := .int .i64 b0) (by rfl) rfl ?_ ?_
   ·go_simp
    (try simp only [i64_w])
    try rfl
   exact hK.out _ _ (step_ 13 HR.out rfl rfl hb_ (Below.refl _ _) hG rfl (fun h => by cases h) (fun _ => HH) rfl)
  refine steps_cons ?_ ?_
  ·rintro b a w' ⟨ms, hR⟩ hb_ hon hoff
   obtain ⟨ha, hF, hD, hG, _⟩ := id hR
   have HH := True.intro
   refine ⟨_, rfl, fun K hK => ?_⟩
   have e45 : a.tmps[45]? = some (.int .i64 d0) := (on_ 11 ha rfl (hon 11 (by kernel_rfl)) rfl).trans (congrArg some (hF 11 (hon 11 (by kernel_rfl))))
   have e47 : a.tmps[47]? = some (.int .i64 b0) := (on_ 13 ha rfl (hon 13 (by kernel_rfl)) rfl).trans (congrArg some (hF 13 (hon 13 (by kernel_rfl))))
   refine goes_ Try.func31 (by kernel_rfl) rfl #[.int .i64 d0, .int .i64 b0] (by rfl) rfl rfl (by first | (simp only [List.map_toArray, List.map_cons, List.map_nil, Act.eval, Array.getD_eq_getD_getElem?, Option.getD_some, e45, e47]; done) | (simp only [List.map_toArray, List.map_cons, List.map_nil, Act.eval, Array.getD_eq_getD_getElem?, Option.getD_some, e45, e47]; rfl)) ?_
   with_reducible refine (diff_c d0 b0 h_d0 h_b0 _).mono ?_
   rintro e w1 ⟨r, rfl, hN, hb⟩
   exact ⟨_, rfl, hK.out _ _ (step_ 14 hR rfl rfl hb_ hb (GM _ _ hG hb) hN (fun h => by cases h) (fun _ => HM _ _ HH hb) rfl)⟩
  refine steps_cons ?_ ?_
  ·rintro b a w' ⟨ms, hR⟩ hb_ hon hoff
   obtain ⟨ha, hF, hD, hG, _⟩ := id hR
   have HH := True.intro
   refine ⟨_, rfl, fun K hK => ?_⟩
   have e7 : a.tmps[7]? = some (.pointer (some ⟨w.heap.size + 1 + 1 + 1, 0, none⟩)) := (off_ ha rfl).trans rfl
   have HR := Aside0.mk hR
   clear hR ha hF
   refine value_ (w1 := w') (v := .pointer (some ⟨w.heap.size + 1 + 1 + 1, 1, none⟩)) (by rfl) rfl ?_ ?_
   ·go_simp
    try rfl
   exact hK.out _ _ (step_ 15 HR.out rfl rfl hb_ (Below.refl _ _) hG rfl (fun h => by cases h) (fun _ => HH) rfl)
  refine steps_cons ?_ ?_
  ·rintro b a w' ⟨ms, hR⟩ hb_ hon hoff
   obtain ⟨ha, hF, hD, hG, _⟩ := id hR
   have hG1 := hG
   rw [hGd] at hG1
   obtain ⟨_, _, _, _, _, Bx7⟩ := hG1
   have HH := True.intro
   refine ⟨_, rfl, fun K hK => ?_⟩
   have e49 : a.tmps[49]? = some (.pointer (some ⟨w.heap.size + 1 + 1 + 1, 1, none⟩)) := (on_ 15 ha rfl (hon 15 (by kernel_rfl)) rfl).trans (congrArg some (hF 15 (hon 15 (by kernel_rfl))))
   have hc : w'.cell? ⟨w.heap.size + 1 + 1 + 1, 1, none⟩ = some (.int .i64 d1) := (blk_cell Bx7 1).trans rfl
   have HR := Aside0.mk hR
   clear hR ha hF
   refine value_ (w1 := w') (v := .int .i64 d1) (by rfl) rfl ?_ ?_
   ·go_simp
    (try simp only [i64_w])
    try rfl
   exact hK.out _ _ (step_ 16 HR.out rfl rfl hb_ (Below.refl _ _) hG rfl (fun h => by cases h) (fun _ => HH) rfl)
  refine steps_cons ?_ ?_
  ·rintro b a w' ⟨ms, hR⟩ hb_ hon hoff
   obtain ⟨ha, hF, hD, hG, _⟩ := id hR
   have HH := True.intro
   refine ⟨_, rfl, fun K hK => ?_⟩
   have e5 : a.tmps[5]? = some (.pointer (some ⟨w.heap.size + 1, 0, none⟩)) := (off_ ha rfl).trans rfl
   have HR := Aside0.mk hR
   clear hR ha hF
   refine value_ (w1 := w') (v := .pointer (some ⟨w.heap.size + 1, 1, none⟩)) (by rfl) rfl ?_ ?_
   ·go_simp
    try rfl
   exact hK.out _ _ (step_ 17 HR.out rfl rfl hb_ (Below.refl _ _) hG rfl (fun h => by cases h) (fun _ => HH) rfl)
  refine steps_cons ?_ ?_
  ·rintro b a w' ⟨ms, hR⟩ hb_ hon hoff
   obtain ⟨ha, hF, hD, hG, _⟩ := id hR
   have hG1 := hG
   rw [hGd] at hG1
   obtain ⟨_, _, _, Bx5, _, _⟩ := hG1
   have HH := True.intro
   refine ⟨_, rfl, fun K hK => ?_⟩
   have e51 : a.tmps[51]? = some (.pointer (some ⟨w.heap.size + 1, 1, none⟩)) := (on_ 17 ha rfl (hon 17 (by kernel_rfl)) rfl).trans (congrArg some (hF 17 (hon 17 (by kernel_rfl))))
   have hc : w'.cell? ⟨w.heap.size + 1, 1, none⟩ = some (.int .i64 b1) := (blk_cell Bx5 1).trans rfl
   have HR := Aside0.mk hR
   clear hR ha hF
   refine value_ (w1 := w') (v := .int .i64 b1) (by rfl) rfl ?_ ?_
   ·go_simp
    (try simp only [i64_w])
    try rfl
   exact hK.out _ _ (step_ 18 HR.out rfl rfl hb_ (Below.refl _ _) hG rfl (fun h => by cases h) (fun _ => HH) rfl)
  refine steps_cons ?_ ?_
  ·rintro b a w' ⟨ms, hR⟩ hb_ hon hoff
   obtain ⟨ha, hF, hD, hG, _⟩ := id hR
   have HH := True.intro
   refine ⟨_, rfl, fun K hK => ?_⟩
   have e50 : a.tmps[50]? = some (.int .i64 d1) := (on_ 16 ha rfl (hon 16 (by kernel_rfl)) rfl).trans (congrArg some (hF 16 (hon 16 (by kernel_rfl))))
   have e52 : a.tmps[52]? = some (.int .i64 b1) := (on_ 18 ha rfl (hon 18 (by kernel_rfl)) rfl).trans (congrArg some (hF 18 (hon 18 (by kernel_rfl))))
   refine goes_ Try.func31 (by kernel_rfl) rfl #[.int .i64 d1, .int .i64 b1] (by rfl) rfl rfl (by first | (simp only [List.map_toArray, List.map_cons, List.map_nil, Act.eval, Array.getD_eq_getD_getElem?, Option.getD_some, e50, e52]; done) | (simp only [List.map_toArray, List.map_cons, List.map_nil, Act.eval, Array.getD_eq_getD_getElem?, Option.getD_some, e50, e52]; rfl)) ?_
   with_reducible refine (diff_c d1 b1 h_d1 h_b1 _).mono ?_
   rintro e w1 ⟨r, rfl, hN, hb⟩
   exact ⟨_, rfl, hK.out _ _ (step_ 19 hR rfl rfl hb_ hb (GM _ _ hG hb) hN (fun h => by cases h) (fun _ => HM _ _ HH hb) rfl)⟩
  refine steps_cons ?_ ?_
  ·rintro b a w' ⟨ms, hR⟩ hb_ hon hoff
   obtain ⟨ha, hF, hD, hG, _⟩ := id hR
   have HH := True.intro
   refine ⟨_, rfl, fun K hK => ?_⟩
   have e7 : a.tmps[7]? = some (.pointer (some ⟨w.heap.size + 1 + 1 + 1, 0, none⟩)) := (off_ ha rfl).trans rfl
   have HR := Aside0.mk hR
   clear hR ha hF
   refine value_ (w1 := w') (v := .pointer (some ⟨w.heap.size + 1 + 1 + 1, 0, none⟩)) (by rfl) rfl ?_ ?_
   ·go_simp
    try rfl
   exact hK.out _ _ (step_ 20 HR.out rfl rfl hb_ (Below.refl _ _) hG rfl (fun h => by cases h) (fun _ => HH) rfl)
  refine steps_cons ?_ ?_
  ·rintro b a w' ⟨ms, hR⟩ hb_ hon hoff
   obtain ⟨ha, hF, hD, hG, _⟩ := id hR
   have hG1 := hG
   rw [hGd] at hG1
   obtain ⟨_, _, _, _, _, Bx7⟩ := hG1
   have HH := True.intro
   refine ⟨_, rfl, fun K hK => ?_⟩
   have e54 : a.tmps[54]? = some (.pointer (some ⟨w.heap.size + 1 + 1 + 1, 0, none⟩)) := (on_ 20 ha rfl (hon 20 (by kernel_rfl)) rfl).trans (congrArg some (hF 20 (hon 20 (by kernel_rfl))))
   have hc : w'.cell? ⟨w.heap.size + 1 + 1 + 1, 0, none⟩ = some (.int .i64 d0) := (blk_cell Bx7 0).trans rfl
   have HR := Aside0.mk hR
   clear hR ha hF
   refine value_ (w1 := w') (v := .int .i64 d0) (by rfl) rfl ?_ ?_
   ·go_simp
    (try simp only [i64_w])
    try rfl
   exact hK.out _ _ (step_ 21 HR.out rfl rfl hb_ (Below.refl _ _) hG rfl (fun h => by cases h) (fun _ => HH) rfl)
  refine steps_cons ?_ ?_
  ·rintro b a w' ⟨ms, hR⟩ hb_ hon hoff
   obtain ⟨ha, hF, hD, hG, _⟩ := id hR
   have HH := True.intro
   refine ⟨_, rfl, fun K hK => ?_⟩
   have e6 : a.tmps[6]? = some (.pointer (some ⟨w.heap.size + 1 + 1, 0, none⟩)) := (off_ ha rfl).trans rfl
   have HR := Aside0.mk hR
   clear hR ha hF
   refine value_ (w1 := w') (v := .pointer (some ⟨w.heap.size + 1 + 1, 0, none⟩)) (by rfl) rfl ?_ ?_
   ·go_simp
    try rfl
   exact hK.out _ _ (step_ 22 HR.out rfl rfl hb_ (Below.refl _ _) hG rfl (fun h => by cases h) (fun _ => HH) rfl)
  refine steps_cons ?_ ?_
  ·rintro b a w' ⟨ms, hR⟩ hb_ hon hoff
   obtain ⟨ha, hF, hD, hG, _⟩ := id hR
   have hG1 := hG
   rw [hGd] at hG1
   obtain ⟨_, _, _, _, Bx6, _⟩ := hG1
   have HH := True.intro
   refine ⟨_, rfl, fun K hK => ?_⟩
   have e56 : a.tmps[56]? = some (.pointer (some ⟨w.heap.size + 1 + 1, 0, none⟩)) := (on_ 22 ha rfl (hon 22 (by kernel_rfl)) rfl).trans (congrArg some (hF 22 (hon 22 (by kernel_rfl))))
   have hc : w'.cell? ⟨w.heap.size + 1 + 1, 0, none⟩ = some (.int .i64 c0) := (blk_cell Bx6 0).trans rfl
   have HR := Aside0.mk hR
   clear hR ha hF
   refine value_ (w1 := w') (v := .int .i64 c0) (by rfl) rfl ?_ ?_
   ·go_simp
    (try simp only [i64_w])
    try rfl
   exact hK.out _ _ (step_ 23 HR.out rfl rfl hb_ (Below.refl _ _) hG rfl (fun h => by cases h) (fun _ => HH) rfl)
  refine steps_cons ?_ ?_
  ·rintro b a w' ⟨ms, hR⟩ hb_ hon hoff
   obtain ⟨ha, hF, hD, hG, _⟩ := id hR
   have HH := True.intro
   refine ⟨_, rfl, fun K hK => ?_⟩
   have e55 : a.tmps[55]? = some (.int .i64 d0) := (on_ 21 ha rfl (hon 21 (by kernel_rfl)) rfl).trans (congrArg some (hF 21 (hon 21 (by kernel_rfl))))
   have e57 : a.tmps[57]? = some (.int .i64 c0) := (on_ 23 ha rfl (hon 23 (by kernel_rfl)) rfl).trans (congrArg some (hF 23 (hon 23 (by kernel_rfl))))
   refine goes_ Try.func31 (by kernel_rfl) rfl #[.int .i64 d0, .int .i64 c0] (by rfl) rfl rfl (by first | (simp only [List.map_toArray, List.map_cons, List.map_nil, Act.eval, Array.getD_eq_getD_getElem?, Option.getD_some, e55, e57]; done) | (simp only [List.map_toArray, List.map_cons, List.map_nil, Act.eval, Array.getD_eq_getD_getElem?, Option.getD_some, e55, e57]; rfl)) ?_
   with_reducible refine (diff_c d0 c0 h_d0 h_c0 _).mono ?_
   rintro e w1 ⟨r, rfl, hN, hb⟩
   exact ⟨_, rfl, hK.out _ _ (step_ 24 hR rfl rfl hb_ hb (GM _ _ hG hb) hN (fun h => by cases h) (fun _ => HM _ _ HH hb) rfl)⟩
  refine steps_cons ?_ ?_
  ·rintro b a w' ⟨ms, hR⟩ hb_ hon hoff
   obtain ⟨ha, hF, hD, hG, _⟩ := id hR
   have HH := True.intro
   refine ⟨_, rfl, fun K hK => ?_⟩
   have e7 : a.tmps[7]? = some (.pointer (some ⟨w.heap.size + 1 + 1 + 1, 0, none⟩)) := (off_ ha rfl).trans rfl
   have HR := Aside0.mk hR
   clear hR ha hF
   refine value_ (w1 := w') (v := .pointer (some ⟨w.heap.size + 1 + 1 + 1, 1, none⟩)) (by rfl) rfl ?_ ?_
   ·go_simp
    try rfl
   exact hK.out _ _ (step_ 25 HR.out rfl rfl hb_ (Below.refl _ _) hG rfl (fun h => by cases h) (fun _ => HH) rfl)
  refine steps_cons ?_ ?_
  ·rintro b a w' ⟨ms, hR⟩ hb_ hon hoff
   obtain ⟨ha, hF, hD, hG, _⟩ := id hR
   have hG1 := hG
   rw [hGd] at hG1
   obtain ⟨_, _, _, _, _, Bx7⟩ := hG1
   have HH := True.intro
   refine ⟨_, rfl, fun K hK => ?_⟩
   have e59 : a.tmps[59]? = some (.pointer (some ⟨w.heap.size + 1 + 1 + 1, 1, none⟩)) := (on_ 25 ha rfl (hon 25 (by kernel_rfl)) rfl).trans (congrArg some (hF 25 (hon 25 (by kernel_rfl))))
   have hc : w'.cell? ⟨w.heap.size + 1 + 1 + 1, 1, none⟩ = some (.int .i64 d1) := (blk_cell Bx7 1).trans rfl
   have HR := Aside0.mk hR
   clear hR ha hF
   refine value_ (w1 := w') (v := .int .i64 d1) (by rfl) rfl ?_ ?_
   ·go_simp
    (try simp only [i64_w])
    try rfl
   exact hK.out _ _ (step_ 26 HR.out rfl rfl hb_ (Below.refl _ _) hG rfl (fun h => by cases h) (fun _ => HH) rfl)
  refine steps_cons ?_ ?_
  ·rintro b a w' ⟨ms, hR⟩ hb_ hon hoff
   obtain ⟨ha, hF, hD, hG, _⟩ := id hR
   have HH := True.intro
   refine ⟨_, rfl, fun K hK => ?_⟩
   have e6 : a.tmps[6]? = some (.pointer (some ⟨w.heap.size + 1 + 1, 0, none⟩)) := (off_ ha rfl).trans rfl
   have HR := Aside0.mk hR
   clear hR ha hF
   refine value_ (w1 := w') (v := .pointer (some ⟨w.heap.size + 1 + 1, 1, none⟩)) (by rfl) rfl ?_ ?_
   ·go_simp
    try rfl
   exact hK.out _ _ (step_ 27 HR.out rfl rfl hb_ (Below.refl _ _) hG rfl (fun h => by cases h) (fun _ => HH) rfl)
  refine steps_cons ?_ ?_
  ·rintro b a w' ⟨ms, hR⟩ hb_ hon hoff
   obtain ⟨ha, hF, hD, hG, _⟩ := id hR
   have hG1 := hG
   rw [hGd] at hG1
   obtain ⟨_, _, _, _, Bx6, _⟩ := hG1
   have HH := True.intro
   refine ⟨_, rfl, fun K hK => ?_⟩
   have e61 : a.tmps[61]? = some (.pointer (some ⟨w.heap.size + 1 + 1, 1, none⟩)) := (on_ 27 ha rfl (hon 27 (by kernel_rfl)) rfl).trans (congrArg some (hF 27 (hon 27 (by kernel_rfl))))
   have hc : w'.cell? ⟨w.heap.size + 1 + 1, 1, none⟩ = some (.int .i64 c1) := (blk_cell Bx6 1).trans rfl
   have HR := Aside0.mk hR
   clear hR ha hF
   refine value_ (w1 := w') (v := .int .i64 c1) (by rfl) rfl ?_ ?_
   ·go_simp
    (try simp only [i64_w])
    try rfl
   exact hK.out _ _ (step_ 28 HR.out rfl rfl hb_ (Below.refl _ _) hG rfl (fun h => by cases h) (fun _ => HH) rfl)
  refine steps_cons ?_ ?_
  ·rintro b a w' ⟨ms, hR⟩ hb_ hon hoff
   obtain ⟨ha, hF, hD, hG, _⟩ := id hR
   have HH := True.intro
   refine ⟨_, rfl, fun K hK => ?_⟩
   have e60 : a.tmps[60]? = some (.int .i64 d1) := (on_ 26 ha rfl (hon 26 (by kernel_rfl)) rfl).trans (congrArg some (hF 26 (hon 26 (by kernel_rfl))))
   have e62 : a.tmps[62]? = some (.int .i64 c1) := (on_ 28 ha rfl (hon 28 (by kernel_rfl)) rfl).trans (congrArg some (hF 28 (hon 28 (by kernel_rfl))))
   refine goes_ Try.func31 (by kernel_rfl) rfl #[.int .i64 d1, .int .i64 c1] (by rfl) rfl rfl (by first | (simp only [List.map_toArray, List.map_cons, List.map_nil, Act.eval, Array.getD_eq_getD_getElem?, Option.getD_some, e60, e62]; done) | (simp only [List.map_toArray, List.map_cons, List.map_nil, Act.eval, Array.getD_eq_getD_getElem?, Option.getD_some, e60, e62]; rfl)) ?_
   with_reducible refine (diff_c d1 c1 h_d1 h_c1 _).mono ?_
   rintro e w1 ⟨r, rfl, hN, hb⟩
   exact ⟨_, rfl, hK.out _ _ (step_ 29 hR rfl rfl hb_ hb (GM _ _ hG hb) hN (fun h => by cases h) (fun _ => HM _ _ HH hb) rfl)⟩
  refine steps_cons ?_ ?_
  ·rintro b a w' ⟨ms, hR⟩ hb_ hon hoff
   obtain ⟨ha, hF, hD, hG, _⟩ := id hR
   have hG1 := hG
   rw [hGd] at hG1
   obtain ⟨_, HSz, _, _, _, _⟩ := hG1
   have HH := True.intro
   refine ⟨_, rfl, fun K hK => ?_⟩
   refine box_step ?hg (N := 9) ?hd (cs := #[.int .i64 0, .slice none 0 0]) (t := 42) ?hr ?_; (case hd => rfl); (case hg => rfl); (case hr => first | (go_simp; done) | (go_simp; rfl))
   intro g hg w1 hbox hb
   exact hK.out _ _ (step_ 30 hR rfl rfl hb_ hb (GM _ _ hG hb) ⟨g, _, _, rfl, by rw [hg]; exact HSz, hbox⟩ (fun _ => by rw [hg]) (fun _ => HM _ _ HH hb) rfl)
  refine steps_cons ?_ ?_
  ·rintro b a w' ⟨ms, hR⟩ hb_ hon hoff
   obtain ⟨ha, hF, hD, hG, _⟩ := id hR
   have hG1 := hG
   rw [hGd] at hG1
   obtain ⟨_, HSz, _, _, _, _⟩ := hG1
   have HH := True.intro
   refine ⟨_, rfl, fun K hK => ?_⟩
   refine box_step ?hg (N := 10) ?hd (cs := #[.int .i64 0, .slice none 0 0]) (t := 42) ?hr ?_; (case hd => rfl); (case hg => rfl); (case hr => first | (go_simp; done) | (go_simp; rfl))
   intro g hg w1 hbox hb
   exact hK.out _ _ (step_ 31 hR rfl rfl hb_ hb (GM _ _ hG hb) ⟨g, _, _, rfl, by rw [hg]; exact HSz, hbox⟩ (fun _ => by rw [hg]) (fun _ => HM _ _ HH hb) rfl)
  refine steps_cons ?_ ?_
  ·rintro b a w' ⟨ms, hR⟩ hb_ hon hoff
   obtain ⟨ha, hF, hD, hG, _⟩ := id hR
   have hG1 := hG
   rw [hGd] at hG1
   obtain ⟨_, HSz, _, _, _, _⟩ := hG1
   have HH := True.intro
   refine ⟨_, rfl, fun K hK => ?_⟩
   refine box_step ?hg (N := 11) ?hd (cs := #[.int .i64 0, .slice none 0 0]) (t := 42) ?hr ?_; (case hd => rfl); (case hg => rfl); (case hr => first | (go_simp; done) | (go_simp; rfl))
   intro g hg w1 hbox hb
   exact hK.out _ _ (step_ 32 hR rfl rfl hb_ hb (GM _ _ hG hb) ⟨g, _, _, rfl, by rw [hg]; exact HSz, hbox⟩ (fun _ => by rw [hg]) (fun _ => HM _ _ HH hb) rfl)
  refine steps_cons ?_ ?_
  ·rintro b a w' ⟨ms, hR⟩ hb_ hon hoff
   obtain ⟨ha, hF, hD, hG, _⟩ := id hR
   have hG1 := hG
   rw [hGd] at hG1
   obtain ⟨_, HSz, _, _, _, _⟩ := hG1
   have HH := True.intro
   refine ⟨_, rfl, fun K hK => ?_⟩
   refine box_step ?hg (N := 12) ?hd (cs := #[.int .i64 0, .slice none 0 0]) (t := 42) ?hr ?_; (case hd => rfl); (case hg => rfl); (case hr => first | (go_simp; done) | (go_simp; rfl))
   intro g hg w1 hbox hb
   exact hK.out _ _ (step_ 33 hR rfl rfl hb_ hb (GM _ _ hG hb) ⟨g, _, _, rfl, by rw [hg]; exact HSz, hbox⟩ (fun _ => by rw [hg]) (fun _ => HM _ _ HH hb) rfl)
  refine steps_cons ?_ ?_
  ·rintro b a w' ⟨ms, hR⟩ hb_ hon hoff
   obtain ⟨ha, hF, hD, hG, _⟩ := id hR
   have hG1 := hG
   rw [hGd] at hG1
   obtain ⟨_, HSz, _, _, _, _⟩ := hG1
   have HH := True.intro
   refine ⟨_, rfl, fun K hK => ?_⟩
   refine box_step ?hg (N := 13) ?hd (cs := #[.int .i64 0, .slice none 0 0]) (t := 42) ?hr ?_; (case hd => rfl); (case hg => rfl); (case hr => first | (go_simp; done) | (go_simp; rfl))
   intro g hg w1 hbox hb
   exact hK.out _ _ (step_ 34 hR rfl rfl hb_ hb (GM _ _ hG hb) ⟨g, _, _, rfl, by rw [hg]; exact HSz, hbox⟩ (fun _ => by rw [hg]) (fun _ => HM _ _ HH hb) rfl)
  refine steps_cons ?_ ?_
  ·rintro b a w' ⟨ms, hR⟩ hb_ hon hoff
   obtain ⟨ha, hF, hD, hG, _⟩ := id hR
   have hG1 := hG
   rw [hGd] at hG1
   obtain ⟨_, HSz, _, _, _, _⟩ := hG1
   have HH := True.intro
   refine ⟨_, rfl, fun K hK => ?_⟩
   refine box_step ?hg (N := 14) ?hd (cs := #[.int .i64 0, .slice none 0 0]) (t := 42) ?hr ?_; (case hd => rfl); (case hg => rfl); (case hr => first | (go_simp; done) | (go_simp; rfl))
   intro g hg w1 hbox hb
   exact hK.out _ _ (step_ 35 hR rfl rfl hb_ hb (GM _ _ hG hb) ⟨g, _, _, rfl, by rw [hg]; exact HSz, hbox⟩ (fun _ => by rw [hg]) (fun _ => HM _ _ HH hb) rfl)
  refine steps_cons ?_ ?_
  ·rintro b a w' ⟨ms, hR⟩ hb_ hon hoff
   obtain ⟨ha, hF, hD, hG, _⟩ := id hR
   have HH := True.intro
   refine ⟨_, rfl, fun K hK => ?_⟩
   have hn := hF 4 (hon 4 (by kernel_rfl))
   obtain ⟨sz, Az, lz, cz, ev⟩ := NI.shape hn
   have e38 : a.tmps[38]? = some (.agg #[.int .i64 sz, .slice Az lz cz]) := (on_ 4 ha rfl (hon 4 (by kernel_rfl)) rfl).trans (congrArg some ev)
   obtain ⟨g, x0, y0, eg, hgK, hgh⟩ := hF 30 (hon 30 (by kernel_rfl))
   replace hgK : w.heap.size + 1 + 1 + 1 + 1 ≤ g := hgK
   have e9 : a.tmps[9]? = some (.pointer (some ⟨g, 0, none⟩)) := (on_ 30 ha rfl (hon 30 (by kernel_rfl)) rfl).trans (congrArg some eg)
   have h0 : w'.cell? ⟨g, 0, none⟩ = some x0 := (blk_cell hgh 0).trans rfl
   have h1 : w'.cell? ⟨g, 1, none⟩ = some y0 := (blk_cell hgh 1).trans rfl
   have f0 := blk_frozen hgh 0
   have f1 := blk_frozen hgh 1
   have HR := Aside0.mk hR
   clear hR ha
   refine skip_ (w1 := ?_) (by rfl) rfl ?_ ?_
   rotate_left
   ·go_simp
    rfl
   exact hK.out _ _ (put_ HR.out rfl rfl hb_ rfl rfl (hon 30 (by kernel_rfl)) (hon 4 (by kernel_rfl)) rfl eg ev (GS _ g _ _ _ _ hG hgh (by omega) (fun h => by omega)) (fun _ => HH) rfl)
  refine steps_cons ?_ ?_
  ·rintro b a w' ⟨ms, hR⟩ hb_ hon hoff
   obtain ⟨ha, hF, hD, hG, _⟩ := id hR
   have HH := True.intro
   refine ⟨_, rfl, fun K hK => ?_⟩
   have hn := hF 9 (hon 9 (by kernel_rfl))
   obtain ⟨sz, Az, lz, cz, ev⟩ := NI.shape hn
   have e43 : a.tmps[43]? = some (.agg #[.int .i64 sz, .slice Az lz cz]) := (on_ 9 ha rfl (hon 9 (by kernel_rfl)) rfl).trans (congrArg some ev)
   obtain ⟨g, x0, y0, eg, hgK, hgh⟩ := hF 31 (hon 31 (by kernel_rfl))
   replace hgK : w.heap.size + 1 + 1 + 1 + 1 ≤ g := hgK
   have e10 : a.tmps[10]? = some (.pointer (some ⟨g, 0, none⟩)) := (on_ 31 ha rfl (hon 31 (by kernel_rfl)) rfl).trans (congrArg some eg)
   have h0 : w'.cell? ⟨g, 0, none⟩ = some x0 := (blk_cell hgh 0).trans rfl
   have h1 : w'.cell? ⟨g, 1, none⟩ = some y0 := (blk_cell hgh 1).trans rfl
   have f0 := blk_frozen hgh 0
   have f1 := blk_frozen hgh 1
   have HR := Aside0.mk hR
   clear hR ha
   refine skip_ (w1 := ?_) (by rfl) rfl ?_ ?_
   rotate_left
   ·go_simp
    rfl
   exact hK.out _ _ (put_ HR.out rfl rfl hb_ rfl rfl (hon 31 (by kernel_rfl)) (hon 9 (by kernel_rfl)) rfl eg ev (GS _ g _ _ _ _ hG hgh (by omega) (fun h => by omega)) (fun _ => HH) rfl)
  refine steps_cons ?_ ?_
  ·rintro b a w' ⟨ms, hR⟩ hb_ hon hoff
   obtain ⟨ha, hF, hD, hG, _⟩ := id hR
   have HH := True.intro
   refine ⟨_, rfl, fun K hK => ?_⟩
   have hn := hF 14 (hon 14 (by kernel_rfl))
   obtain ⟨sz, Az, lz, cz, ev⟩ := NI.shape hn
   have e48 : a.tmps[48]? = some (.agg #[.int .i64 sz, .slice Az lz cz]) := (on_ 14 ha rfl (hon 14 (by kernel_rfl)) rfl).trans (congrArg some ev)
   obtain ⟨g, x0, y0, eg, hgK, hgh⟩ := hF 32 (hon 32 (by kernel_rfl))
   replace hgK : w.heap.size + 1 + 1 + 1 + 1 ≤ g := hgK
   have e11 : a.tmps[11]? = some (.pointer (some ⟨g, 0, none⟩)) := (on_ 32 ha rfl (hon 32 (by kernel_rfl)) rfl).trans (congrArg some eg)
   have h0 : w'.cell? ⟨g, 0, none⟩ = some x0 := (blk_cell hgh 0).trans rfl
   have h1 : w'.cell? ⟨g, 1, none⟩ = some y0 := (blk_cell hgh 1).trans rfl
   have f0 := blk_frozen hgh 0
   have f1 := blk_frozen hgh 1
   have HR := Aside0.mk hR
   clear hR ha
   refine skip_ (w1 := ?_) (by rfl) rfl ?_ ?_
   rotate_left
   ·go_simp
    rfl
   exact hK.out _ _ (put_ HR.out rfl rfl hb_ rfl rfl (hon 32 (by kernel_rfl)) (hon 14 (by kernel_rfl)) rfl eg ev (GS _ g _ _ _ _ hG hgh (by omega) (fun h => by omega)) (fun _ => HH) rfl)
  refine steps_cons ?_ ?_
  ·rintro b a w' ⟨ms, hR⟩ hb_ hon hoff
   obtain ⟨ha, hF, hD, hG, _⟩ := id hR
   have HH := True.intro
   refine ⟨_, rfl, fun K hK => ?_⟩
   have hn := hF 19 (hon 19 (by kernel_rfl))
   obtain ⟨sz, Az, lz, cz, ev⟩ := NI.shape hn
   have e53 : a.tmps[53]? = some (.agg #[.int .i64 sz, .slice Az lz cz]) := (on_ 19 ha rfl (hon 19 (by kernel_rfl)) rfl).trans (congrArg some ev)
   obtain ⟨g, x0, y0, eg, hgK, hgh⟩ := hF 33 (hon 33 (by kernel_rfl))
   replace hgK : w.heap.size + 1 + 1 + 1 + 1 ≤ g := hgK
   have e12 : a.tmps[12]? = some (.pointer (some ⟨g, 0, none⟩)) := (on_ 33 ha rfl (hon 33 (by kernel_rfl)) rfl).trans (congrArg some eg)
   have h0 : w'.cell? ⟨g, 0, none⟩ = some x0 := (blk_cell hgh 0).trans rfl
   have h1 : w'.cell? ⟨g, 1, none⟩ = some y0 := (blk_cell hgh 1).trans rfl
   have f0 := blk_frozen hgh 0
   have f1 := blk_frozen hgh 1
   have HR := Aside0.mk hR
   clear hR ha
   refine skip_ (w1 := ?_) (by rfl) rfl ?_ ?_
   rotate_left
   ·go_simp
    rfl
   exact hK.out _ _ (put_ HR.out rfl rfl hb_ rfl rfl (hon 33 (by kernel_rfl)) (hon 19 (by kernel_rfl)) rfl eg ev (GS _ g _ _ _ _ hG hgh (by omega) (fun h => by omega)) (fun _ => HH) rfl)
  refine steps_cons ?_ ?_
  ·rintro b a w' ⟨ms, hR⟩ hb_ hon hoff
   obtain ⟨ha, hF, hD, hG, _⟩ := id hR
   have HH := True.intro
   refine ⟨_, rfl, fun K hK => ?_⟩
   have hn := hF 24 (hon 24 (by kernel_rfl))
   obtain ⟨sz, Az, lz, cz, ev⟩ := NI.shape hn
   have e58 : a.tmps[58]? = some (.agg #[.int .i64 sz, .slice Az lz cz]) := (on_ 24 ha rfl (hon 24 (by kernel_rfl)) rfl).trans (congrArg some ev)
   obtain ⟨g, x0, y0, eg, hgK, hgh⟩ := hF 34 (hon 34 (by kernel_rfl))
   replace hgK : w.heap.size + 1 + 1 + 1 + 1 ≤ g := hgK
   have e13 : a.tmps[13]? = some (.pointer (some ⟨g, 0, none⟩)) := (on_ 34 ha rfl (hon 34 (by kernel_rfl)) rfl).trans (congrArg some eg)
   have h0 : w'.cell? ⟨g, 0, none⟩ = some x0 := (blk_cell hgh 0).trans rfl
   have h1 : w'.cell? ⟨g, 1, none⟩ = some y0 := (blk_cell hgh 1).trans rfl
   have f0 := blk_frozen hgh 0
   have f1 := blk_frozen hgh 1
   have HR := Aside0.mk hR
   clear hR ha
   refine skip_ (w1 := ?_) (by rfl) rfl ?_ ?_
   rotate_left
   ·go_simp
    rfl
   exact hK.out _ _ (put_ HR.out rfl rfl hb_ rfl rfl (hon 34 (by kernel_rfl)) (hon 24 (by kernel_rfl)) rfl eg ev (GS _ g _ _ _ _ hG hgh (by omega) (fun h => by omega)) (fun _ => HH) rfl)
  refine steps_cons ?_ ?_
  ·rintro b a w' ⟨ms, hR⟩ hb_ hon hoff
   obtain ⟨ha, hF, hD, hG, _⟩ := id hR
   have HH := True.intro
   refine ⟨_, rfl, fun K hK => ?_⟩
   have hn := hF 29 (hon 29 (by kernel_rfl))
   obtain ⟨sz, Az, lz, cz, ev⟩ := NI.shape hn
   have e63 : a.tmps[63]? = some (.agg #[.int .i64 sz, .slice Az lz cz]) := (on_ 29 ha rfl (hon 29 (by kernel_rfl)) rfl).trans (congrArg some ev)
   obtain ⟨g, x0, y0, eg, hgK, hgh⟩ := hF 35 (hon 35 (by kernel_rfl))
   replace hgK : w.heap.size + 1 + 1 + 1 + 1 ≤ g := hgK
   have e14 : a.tmps[14]? = some (.pointer (some ⟨g, 0, none⟩)) := (on_ 35 ha rfl (hon 35 (by kernel_rfl)) rfl).trans (congrArg some eg)
   have h0 : w'.cell? ⟨g, 0, none⟩ = some x0 := (blk_cell hgh 0).trans rfl
   have h1 : w'.cell? ⟨g, 1, none⟩ = some y0 := (blk_cell hgh 1).trans rfl
   have f0 := blk_frozen hgh 0
   have f1 := blk_frozen hgh 1
   have HR := Aside0.mk hR
   clear hR ha
   refine skip_ (w1 := ?_) (by rfl) rfl ?_ ?_
   rotate_left
   ·go_simp
    rfl
   exact hK.out _ _ (put_ HR.out rfl rfl hb_ rfl rfl (hon 35 (by kernel_rfl)) (hon 29 (by kernel_rfl)) rfl eg ev (GS _ g _ _ _ _ hG hgh (by omega) (fun h => by omega)) (fun _ => HH) rfl)
  exact steps_nil
 rintro b a V3 hall ⟨ms, ha, hF, hD, hG, _⟩
 rw [hGd] at hG
 obtain ⟨HBl, HSz, Bx4, Bx5, Bx6, Bx7⟩ := hG
 have bb3_0 := hall 0 (by kernel_rfl)
 have bb3_1 := hall 1 (by kernel_rfl)
 have bb3_2 := hall 2 (by kernel_rfl)
 have bb3_3 := hall 3 (by kernel_rfl)
 have bb3_4 := hall 4 (by kernel_rfl)
 have bb3_5 := hall 5 (by kernel_rfl)
 have bb3_6 := hall 6 (by kernel_rfl)
 have bb3_7 := hall 7 (by kernel_rfl)
 have bb3_8 := hall 8 (by kernel_rfl)
 have bb3_9 := hall 9 (by kernel_rfl)
 have bb3_10 := hall 10 (by kernel_rfl)
 have bb3_11 := hall 11 (by kernel_rfl)
 have bb3_12 := hall 12 (by kernel_rfl)
 have bb3_13 := hall 13 (by kernel_rfl)
 have bb3_14 := hall 14 (by kernel_rfl)
 have bb3_15 := hall 15 (by kernel_rfl)
 have bb3_16 := hall 16 (by kernel_rfl)
 have bb3_17 := hall 17 (by kernel_rfl)
 have bb3_18 := hall 18 (by kernel_rfl)
 have bb3_19 := hall 19 (by kernel_rfl)
 have bb3_20 := hall 20 (by kernel_rfl)
 have bb3_21 := hall 21 (by kernel_rfl)
 have bb3_22 := hall 22 (by kernel_rfl)
 have bb3_23 := hall 23 (by kernel_rfl)
 have bb3_24 := hall 24 (by kernel_rfl)
 have bb3_25 := hall 25 (by kernel_rfl)
 have bb3_26 := hall 26 (by kernel_rfl)
 have bb3_27 := hall 27 (by kernel_rfl)
 have bb3_28 := hall 28 (by kernel_rfl)
 have bb3_29 := hall 29 (by kernel_rfl)
 have bb3_30 := hall 30 (by kernel_rfl)
 have bb3_31 := hall 31 (by kernel_rfl)
 have bb3_32 := hall 32 (by kernel_rfl)
 have bb3_33 := hall 33 (by kernel_rfl)
 have bb3_34 := hall 34 (by kernel_rfl)
 have bb3_35 := hall 35 (by kernel_rfl)
 have bb3_36 := hall 36 (by kernel_rfl)
 have bb3_37 := hall 37 (by kernel_rfl)
 have bb3_38 := hall 38 (by kernel_rfl)
 have bb3_39 := hall 39 (by kernel_rfl)
 have bb3_40 := hall 40 (by kernel_rfl)
 have bb3_41 := hall 41 (by kernel_rfl)
 have m3_0 : ms 0 = .pointer (some ⟨w.heap.size + 1 + 1 + 1, 0, none⟩) := hF 0 bb3_0
 have m3_1 : ms 1 = .int .i64 d0 := hF 1 bb3_1
 have m3_2 : ms 2 = .pointer (some ⟨w.heap.size, 0, none⟩) := hF 2 bb3_2
 have m3_3 : ms 3 = .int .i64 a0 := hF 3 bb3_3
 have m3_4 : NI V3 (ms 4) (a0 - d0) := hF 4 bb3_4
 have m3_5 : ms 5 = .pointer (some ⟨w.heap.size + 1 + 1 + 1, 1, none⟩) := hF 5 bb3_5
 have m3_6 : ms 6 = .int .i64 d1 := hF 6 bb3_6
 have m3_7 : ms 7 = .pointer (some ⟨w.heap.size, 1, none⟩) := hF 7 bb3_7
 have m3_8 : ms 8 = .int .i64 a1 := hF 8 bb3_8
 have m3_9 : NI V3 (ms 9) (a1 - d1) := hF 9 bb3_9
 have m3_10 : ms 10 = .pointer (some ⟨w.heap.size + 1 + 1 + 1, 0, none⟩) := hF 10 bb3_10
 have m3_11 : ms 11 = .int .i64 d0 := hF 11 bb3_11
 have m3_12 : ms 12 = .pointer (some ⟨w.heap.size + 1, 0, none⟩) := hF 12 bb3_12
 have m3_13 : ms 13 = .int .i64 b0 := hF 13 bb3_13
 have m3_14 : NI V3 (ms 14) (b0 - d0) := hF 14 bb3_14
 have m3_15 : ms 15 = .pointer (some ⟨w.heap.size + 1 + 1 + 1, 1, none⟩) := hF 15 bb3_15
 have m3_16 : ms 16 = .int .i64 d1 := hF 16 bb3_16
 have m3_17 : ms 17 = .pointer (some ⟨w.heap.size + 1, 1, none⟩) := hF 17 bb3_17
 have m3_18 : ms 18 = .int .i64 b1 := hF 18 bb3_18
 have m3_19 : NI V3 (ms 19) (b1 - d1) := hF 19 bb3_19
 have m3_20 : ms 20 = .pointer (some ⟨w.heap.size + 1 + 1 + 1, 0, none⟩) := hF 20 bb3_20
 have m3_21 : ms 21 = .int .i64 d0 := hF 21 bb3_21
 have m3_22 : ms 22 = .pointer (some ⟨w.heap.size + 1 + 1, 0, none⟩) := hF 22 bb3_22
 have m3_23 : ms 23 = .int .i64 c0 := hF 23 bb3_23
 have m3_24 : NI V3 (ms 24) (c0 - d0) := hF 24 bb3_24
 have m3_25 : ms 25 = .pointer (some ⟨w.heap.size + 1 + 1 + 1, 1, none⟩) := hF 25 bb3_25
 have m3_26 : ms 26 = .int .i64 d1 := hF 26 bb3_26
 have m3_27 : ms 27 = .pointer (some ⟨w.heap.size + 1 + 1, 1, none⟩) := hF 27 bb3_27
 have m3_28 : ms 28 = .int .i64 c1 := hF 28 bb3_28
 have m3_29 : NI V3 (ms 29) (c1 - d1) := hF 29 bb3_29
 obtain ⟨g3_30, _, _, m3_30, k3_30, _⟩ := hF 30 bb3_30
 replace k3_30 : w.heap.size + 1 + 1 + 1 + 1 ≤ g3_30 := k3_30
 obtain ⟨g3_31, _, _, m3_31, k3_31, _⟩ := hF 31 bb3_31
 replace k3_31 : w.heap.size + 1 + 1 + 1 + 1 ≤ g3_31 := k3_31
 obtain ⟨g3_32, _, _, m3_32, k3_32, _⟩ := hF 32 bb3_32
 replace k3_32 : w.heap.size + 1 + 1 + 1 + 1 ≤ g3_32 := k3_32
 obtain ⟨g3_33, _, _, m3_33, k3_33, _⟩ := hF 33 bb3_33
 replace k3_33 : w.heap.size + 1 + 1 + 1 + 1 ≤ g3_33 := k3_33
 obtain ⟨g3_34, _, _, m3_34, k3_34, _⟩ := hF 34 bb3_34
 replace k3_34 : w.heap.size + 1 + 1 + 1 + 1 ≤ g3_34 := k3_34
 obtain ⟨g3_35, _, _, m3_35, k3_35, _⟩ := hF 35 bb3_35
 replace k3_35 : w.heap.size + 1 + 1 + 1 + 1 ≤ g3_35 := k3_35
 obtain ⟨_, _, _, _, z3_36, x3_36, y3_36, n3_36, e3_36, h3_36⟩ := hF 36 bb3_36
 obtain rfl : g3_30 = z3_36 := by rw [m3_30] at n3_36; injection n3_36 with q; injection q with q; injection q with q
 rw [e3_36] at m3_4
 obtain ⟨_, _, _, _, z3_37, x3_37, y3_37, n3_37, e3_37, h3_37⟩ := hF 37 bb3_37
 obtain rfl : g3_31 = z3_37 := by rw [m3_31] at n3_37; injection n3_37 with q; injection q with q; injection q with q
 rw [e3_37] at m3_9
 obtain ⟨_, _, _, _, z3_38, x3_38, y3_38, n3_38, e3_38, h3_38⟩ := hF 38 bb3_38
 obtain rfl : g3_32 = z3_38 := by rw [m3_32] at n3_38; injection n3_38 with q; injection q with q; injection q with q
 rw [e3_38] at m3_14
 obtain ⟨_, _, _, _, z3_39, x3_39, y3_39, n3_39, e3_39, h3_39⟩ := hF 39 bb3_39
 obtain rfl : g3_33 = z3_39 := by rw [m3_33] at n3_39; injection n3_39 with q; injection q with q; injection q with q
 rw [e3_39] at m3_19
 obtain ⟨_, _, _, _, z3_40, x3_40, y3_40, n3_40, e3_40, h3_40⟩ := hF 40 bb3_40
 obtain rfl : g3_34 = z3_40 := by rw [m3_34] at n3_40; injection n3_40 with q; injection q with q; injection q with q
 rw [e3_40] at m3_24
 obtain ⟨_, _, _, _, z3_41, x3_41, y3_41, n3_41, e3_41, h3_41⟩ := hF 41 bb3_41
 obtain rfl : g3_35 = z3_41 := by rw [m3_35] at n3_41; injection n3_41 with q; injection q with q; injection q with q
 rw [e3_41] at m3_29
 subst ha
 simp only [ent, List.map_cons, List.map_nil, putSel, bb3_0, bb3_1, bb3_2, bb3_3, bb3_4, bb3_5, bb3_6, bb3_7, bb3_8, bb3_9, bb3_10, bb3_11, bb3_12, bb3_13, bb3_14, bb3_15, bb3_16, bb3_17, bb3_18, bb3_19, bb3_20, bb3_21, bb3_22, bb3_23, bb3_24, bb3_25, bb3_26, bb3_27, bb3_28, bb3_29, bb3_30, bb3_31, bb3_32, bb3_33, bb3_34, bb3_35, m3_0, m3_1, m3_2, m3_3, m3_5, m3_6, m3_7, m3_8, m3_10, m3_11, m3_12, m3_13, m3_15, m3_16, m3_17, m3_18, m3_20, m3_21, m3_22, m3_23, m3_25, m3_26, m3_27, m3_28, m3_30, m3_31, m3_32, m3_33, m3_34, m3_35, if_true, Act.put, List.setIfInBounds_toArray, List.set_cons_zero, List.set_cons_succ]
 clear hF hD bb3_0 bb3_1 bb3_2 bb3_3 bb3_4 bb3_5 bb3_6 bb3_7 bb3_8 bb3_9 bb3_10 bb3_11 bb3_12 bb3_13 bb3_14 bb3_15 bb3_16 bb3_17 bb3_18 bb3_19 bb3_20 bb3_21 bb3_22 bb3_23 bb3_24 bb3_25 bb3_26 bb3_27 bb3_28 bb3_29 bb3_30 bb3_31 bb3_32 bb3_33 bb3_34 bb3_35 bb3_36 bb3_37 bb3_38 bb3_39 bb3_40 bb3_41
 have l3_36 := blk_lt h3_36; have l3_37 := blk_lt h3_37; have l3_38 := blk_lt h3_38; have l3_39 := blk_lt h3_39; have l3_40 := blk_lt h3_40; have l3_41 := blk_lt h3_41; have lw : w.heap.size ≤ V3.heap.size := HBl.size; have lb : w.heap.size + 1 + 1 + 1 + 1 ≤ V3.heap.size := HSz
 go_wp2_with fail
 obtain ⟨G, hGd⟩ : ∃ G : World → Prop, G = (fun w' => Below w.heap.size w w' ∧ V3.heap.size ≤ w'.heap.size ∧ w'.heap[w.heap.size]? = some (.cells #[.int .i64 a0, .int .i64 a1] 23 (0, 0)) ∧ w'.heap[w.heap.size + 1]? = some (.cells #[.int .i64 b0, .int .i64 b1] 23 (0, 0)) ∧ w'.heap[w.heap.size + 1 + 1]? = some (.cells #[.int .i64 c0, .int .i64 c1] 23 (0, 0)) ∧ w'.heap[w.heap.size + 1 + 1 + 1]? = some (.cells #[.int .i64 d0, .int .i64 d1] 23 (0, 0)) ∧ w'.heap[g3_30]? = some (.cells #[x3_36, y3_36] 42 (0, 0)) ∧ w'.heap[g3_31]? = some (.cells #[x3_37, y3_37] 42 (0, 0)) ∧ w'.heap[g3_32]? = some (.cells #[x3_38, y3_38] 42 (0, 0)) ∧ w'.heap[g3_33]? = some (.cells #[x3_39, y3_39] 42 (0, 0)) ∧ w'.heap[g3_34]? = some (.cells #[x3_40, y3_40] 42 (0, 0)) ∧ w'.heap[g3_35]? = some (.cells #[x3_41, y3_41] 42 (0, 0)) ∧ NI w' (.agg #[x3_36, y3_36]) (a0 - d0) ∧ NI w' (.agg #[x3_37, y3_37]) (a1 - d1) ∧ NI w' (.agg #[x3_38, y3_38]) (b0 - d0) ∧ NI w' (.agg #[x3_39, y3_39]) (b1 - d1) ∧ NI w' (.agg #[x3_40, y3_40]) (c0 - d0) ∧ NI w' (.agg #[x3_41, y3_41]) (c1 - d1)) := ⟨_, rfl⟩
 have GM : ∀ w1 w2 : World, G w1 → Below w1.heap.size w1 w2 → G w2 := by
  subst hGd
  rintro w1 w2 ⟨HBl, HSz, Bx4, Bx5, Bx6, Bx7, Bx9, Bx10, Bx11, Bx12, Bx13, Bx14, Ni0, Ni1, Ni2, Ni3, Ni4, Ni5⟩ hb
  exact ⟨below_step HBl hb, Nat.le_trans HSz hb.size, blk_below Bx4 hb, blk_below Bx5 hb, blk_below Bx6 hb, blk_below Bx7 hb, blk_below Bx9 hb, blk_below Bx10 hb, blk_below Bx11 hb, blk_below Bx12 hb, blk_below Bx13 hb, blk_below Bx14 hb, NI.below Ni0 hb, NI.below Ni1 hb, NI.below Ni2 hb, NI.below Ni3 hb, NI.below Ni4 hb, NI.below Ni5 hb⟩
 have HM : ∀ w1 w2 : World, (fun _ => True) w1 → Below w1.heap.size w1 w2 → (fun _ => True) w2 := fun _ _ _ _ => True.intro
 have GS : ∀ (w1 : World) (g : Nat) (x0 y0 x y : Value), G w1 → w1.heap[g]? = some (.cells #[x0, y0] 42 (0, 0)) → w.heap.size ≤ g → ((w.heap.size = g ∨ w.heap.size + 1 = g ∨ w.heap.size + 1 + 1 = g ∨ w.heap.size + 1 + 1 + 1 = g ∨ g3_30 = g ∨ g3_31 = g ∨ g3_32 = g ∨ g3_33 = g ∨ g3_34 = g ∨ g3_35 = g) → False) → G ((w1.setCell ⟨g, 0, none⟩ x).setCell ⟨g, 1, none⟩ y) := by
  subst hGd
  rintro w1 g x0 y0 x y ⟨HBl, HSz, Bx4, Bx5, Bx6, Bx7, Bx9, Bx10, Bx11, Bx12, Bx13, Bx14, Ni0, Ni1, Ni2, Ni3, Ni4, Ni5⟩ hgh hle hne
  exact ⟨below_set2 HBl hle _ _ _ _, (by simpa [World.setCell] using HSz), blk_far (blk_far Bx4 (fun e => hne (by simp [e])) _) (fun e => hne (by simp [e])) _, blk_far (blk_far Bx5 (fun e => hne (by simp [e])) _) (fun e => hne (by simp [e])) _, blk_far (blk_far Bx6 (fun e => hne (by simp [e])) _) (fun e => hne (by simp [e])) _, blk_far (blk_far Bx7 (fun e => hne (by simp [e])) _) (fun e => hne (by simp [e])) _, blk_far (blk_far Bx9 (fun e => hne (by simp [e])) _) (fun e => hne (by simp [e])) _, blk_far (blk_far Bx10 (fun e => hne (by simp [e])) _) (fun e => hne (by simp [e])) _, blk_far (blk_far Bx11 (fun e => hne (by simp [e])) _) (fun e => hne (by simp [e])) _, blk_far (blk_far Bx12 (fun e => hne (by simp [e])) _) (fun e => hne (by simp [e])) _, blk_far (blk_far Bx13 (fun e => hne (by simp [e])) _) (fun e => hne (by simp [e])) _, blk_far (blk_far Bx14 (fun e => hne (by simp [e])) _) (fun e => hne (by simp [e])) _, NI.store (NI.store Ni0 hgh (by decide) 0 _) (blk_put hgh 0 _ rfl) (by decide) 1 _, NI.store (NI.store Ni1 hgh (by decide) 0 _) (blk_put hgh 0 _ rfl) (by decide) 1 _, NI.store (NI.store Ni2 hgh (by decide) 0 _) (blk_put hgh 0 _ rfl) (by decide) 1 _, NI.store (NI.store Ni3 hgh (by decide) 0 _) (blk_put hgh 0 _ rfl) (by decide) 1 _, NI.store (NI.store Ni4 hgh (by decide) 0 _) (blk_put hgh 0 _ rfl) (by decide) 1 _, NI.store (NI.store Ni5 hgh (by decide) 0 _) (blk_put hgh 0 _ rfl) (by decide) 1 _⟩
 refine start_ (n := 13) (S := fun w' => True) (ds := []) #[false, false, false, false, false, false, false, false, false, false, false, false, false] (by kernel_rfl) rfl rfl trivial (fun _ => ?_); refine with_tabW inc4.tab inc4.bits (fun HT_ HW_ => ?_)
 have hG0 : G V3.drew := by subst hGd; exact ⟨below_drew HBl, Nat.le_refl _, Bx4, Bx5, Bx6, Bx7, h3_36, h3_37, h3_38, h3_39, h3_40, h3_41, m3_4.drewN 1, m3_9.drewN 1, m3_14.drewN 1, m3_19.drewN 1, m3_24.drewN 1, m3_29.drewN 1⟩
 generalize V3.drew = W1 at hG0 ⊢
 refine inv_at [0, 1, 2, 3, 4, 5, 6, 7, 8, 9, 10, 11, 12] (fun a0_ b a w' => Rg ⟨[0, 1, 2, 3, 4, 5, 6, 7, 8, 9, 10, 11, 12], [(0, 64), (1, 65), (2, 66), (3, 67), (4, 68), (5, 69), (6, 70), (7, 71), (8, 72), (9, 73), (10, 74), (11, 15)], fun j => [.const (.agg #[.int .i64 a0, .int .i64 a1]), .const (.agg #[.int .i64 d0, .int .i64 d1]), .ni (ds a0 a1 d0 d1), .const (.agg #[x3_38, y3_38]), .const (.agg #[x3_41, y3_41]), .ni ((b0 - d0) * (c1 - d1)), .const (.agg #[x3_39, y3_39]), .const (.agg #[x3_40, y3_40]), .ni ((b1 - d1) * (c0 - d0)), .ni (((b0 - d0) * (c1 - d1)) - ((b1 - d1) * (c0 - d0))), .ni ((ds a0 a1 d0 d1) * (((b0 - d0) * (c1 - d1)) - ((b1 - d1) * (c0 - d0)))), .box, .put 11 10].getD j .box, V3.heap.size, 1, G, fun _ => True, 1000⟩ a0_ b a w') HT_.out HW_.out (by kernel_rfl) (by kernel_rfl) ?_ ?_ ?_
 ·exact rg0 hG0 True.intro
 ·refine steps_cons ?_ ?_
  ·rintro b a w' ⟨ms, hR⟩ hb_ hon hoff
   obtain ⟨ha, hF, hD, hG, _⟩ := id hR
   have hG1 := hG
   rw [hGd] at hG1
   obtain ⟨_, _, Bx4, _, _, _, _, _, _, _, _, _, _, _, _, _, _, _⟩ := hG1
   have HH := True.intro
   refine ⟨_, rfl, fun K hK => ?_⟩
   have e4 : a.tmps[4]? = some (.pointer (some ⟨w.heap.size, 0, none⟩)) := (off_ ha rfl).trans rfl
   have hc0 : w'.cell? ⟨w.heap.size, 0, none⟩ = some (.int .i64 a0) := (blk_cell Bx4 0).trans rfl
   have hc1 : w'.cell? ⟨w.heap.size, 1, none⟩ = some (.int .i64 a1) := (blk_cell Bx4 1).trans rfl
   have HR := Aside0.mk hR
   clear hR ha hF
   refine value_ (w1 := w') (v := .agg #[.int .i64 a0, .int .i64 a1]) (by rfl) rfl ?_ ?_
   ·go_simp
    (try simp only [i64_w])
    try rfl
   exact hK.out _ _ (step_ 0 HR.out rfl rfl hb_ (Below.refl _ _) hG rfl (fun h => by cases h) (fun _ => HH) rfl)
  refine steps_cons ?_ ?_
  ·rintro b a w' ⟨ms, hR⟩ hb_ hon hoff
   obtain ⟨ha, hF, hD, hG, _⟩ := id hR
   have hG1 := hG
   rw [hGd] at hG1
   obtain ⟨_, _, _, _, _, Bx7, _, _, _, _, _, _, _, _, _, _, _, _⟩ := hG1
   have HH := True.intro
   refine ⟨_, rfl, fun K hK => ?_⟩
   have e7 : a.tmps[7]? = some (.pointer (some ⟨w.heap.size + 1 + 1 + 1, 0, none⟩)) := (off_ ha rfl).trans rfl
   have hc0 : w'.cell? ⟨w.heap.size + 1 + 1 + 1, 0, none⟩ = some (.int .i64 d0) := (blk_cell Bx7 0).trans rfl
   have hc1 : w'.cell? ⟨w.heap.size + 1 + 1 + 1, 1, none⟩ = some (.int .i64 d1) := (blk_cell Bx7 1).trans rfl
   have HR := Aside0.mk hR
   clear hR ha hF
   refine value_ (w1 := w') (v := .agg #[.int .i64 d0, .int .i64 d1]) (by rfl) rfl ?_ ?_
   ·go_simp
    (try simp only [i64_w])
    try rfl
   exact hK.out _ _ (step_ 1 HR.out rfl rfl hb_ (Below.refl _ _) hG rfl (fun h => by cases h) (fun _ => HH) rfl)
  refine steps_cons ?_ ?_
  ·rintro b a w' ⟨ms, hR⟩ hb_ hon hoff
   obtain ⟨ha, hF, hD, hG, _⟩ := id hR
   have HH := True.intro
   refine ⟨_, rfl, fun K hK => ?_⟩
   have e64 : a.tmps[64]? = some (.agg #[.int .i64 a0, .int .i64 a1]) := (on_ 0 ha rfl (hon 0 (by kernel_rfl)) rfl).trans (congrArg some (hF 0 (hon 0 (by kernel_rfl))))
   have e65 : a.tmps[65]? = some (.agg #[.int .i64 d0, .int .i64 d1]) := (on_ 1 ha rfl (hon 1 (by kernel_rfl)) rfl).trans (congrArg some (hF 1 (hon 1 (by kernel_rfl))))
   refine goes_ Try.func33 (by kernel_rfl) rfl #[.agg #[.int .i64 a0, .int .i64 a1], .agg #[.int .i64 d0, .int .i64 d1]] (by rfl) rfl rfl (by first | (simp only [List.map_toArray, List.map_cons, List.map_nil, Act.eval, Array.getD_eq_getD_getElem?, Option.getD_some, e64, e65]; done) | (simp only [List.map_toArray, List.map_cons, List.map_nil, Act.eval, Array.getD_eq_getD_getElem?, Option.getD_some, e64, e65]; rfl)) ?_
   with_reducible refine (dist_c Qa Qd _).mono ?_
   rintro e w1 ⟨r, rfl, hN, hb⟩
   exact ⟨_, rfl, hK.out _ _ (step_ 2 hR rfl rfl hb_ hb (GM _ _ hG hb) hN (fun h => by cases h) (fun _ => HM _ _ HH hb) rfl)⟩
  refine steps_cons ?_ ?_
  ·rintro b a w' ⟨ms, hR⟩ hb_ hon hoff
   obtain ⟨ha, hF, hD, hG, _⟩ := id hR
   have hG1 := hG
   rw [hGd] at hG1
   obtain ⟨_, _, _, _, _, _, _, _, Bx11, _, _, _, _, _, _, _, _, _⟩ := hG1
   have HH := True.intro
   refine ⟨_, rfl, fun K hK => ?_⟩
   have e11 : a.tmps[11]? = some (.pointer (some ⟨g3_32, 0, none⟩)) := (off_ ha rfl).trans rfl
   have hc0 : w'.cell? ⟨g3_32, 0, none⟩ = some (x3_38) := (blk_cell Bx11 0).trans rfl
   have hc1 : w'.cell? ⟨g3_32, 1, none⟩ = some (y3_38) := (blk_cell Bx11 1).trans rfl
   have HR := Aside0.mk hR
   clear hR ha hF
   refine value_ (w1 := w') (v := .agg #[x3_38, y3_38]) (by rfl) rfl ?_ ?_
   ·go_simp
    (try simp only [i64_w])
    try rfl
   exact hK.out _ _ (step_ 3 HR.out rfl rfl hb_ (Below.refl _ _) hG rfl (fun h => by cases h) (fun _ => HH) rfl)
  refine steps_cons ?_ ?_
  ·rintro b a w' ⟨ms, hR⟩ hb_ hon hoff
   obtain ⟨ha, hF, hD, hG, _⟩ := id hR
   have hG1 := hG
   rw [hGd] at hG1
   obtain ⟨_, _, _, _, _, _, _, _, _, _, _, Bx14, _, _, _, _, _, _⟩ := hG1
   have HH := True.intro
   refine ⟨_, rfl, fun K hK => ?_⟩
   have e14 : a.tmps[14]? = some (.pointer (some ⟨g3_35, 0, none⟩)) := (off_ ha rfl).trans rfl
   have hc0 : w'.cell? ⟨g3_35, 0, none⟩ = some (x3_41) := (blk_cell Bx14 0).trans rfl
   have hc1 : w'.cell? ⟨g3_35, 1, none⟩ = some (y3_41) := (blk_cell Bx14 1).trans rfl
   have HR := Aside0.mk hR
   clear hR ha hF
   refine value_ (w1 := w') (v := .agg #[x3_41, y3_41]) (by rfl) rfl ?_ ?_
   ·go_simp
    (try simp only [i64_w])
    try rfl
   exact hK.out _ _ (step_ 4 HR.out rfl rfl hb_ (Below.refl _ _) hG rfl (fun h => by cases h) (fun _ => HH) rfl)
  refine steps_cons ?_ ?_
  ·rintro b a w' ⟨ms, hR⟩ hb_ hon hoff
   obtain ⟨ha, hF, hD, hG, _⟩ := id hR
   have hG1 := hG
   rw [hGd] at hG1
   obtain ⟨_, _, _, _, _, _, _, _, _, _, _, _, _, _, Ni2, _, _, Ni5⟩ := hG1
   have HH := True.intro
   refine ⟨_, rfl, fun K hK => ?_⟩
   have e67 : a.tmps[67]? = some (.agg #[x3_38, y3_38]) := (on_ 3 ha rfl (hon 3 (by kernel_rfl)) rfl).trans (congrArg some (hF 3 (hon 3 (by kernel_rfl))))
   have e68 : a.tmps[68]? = some (.agg #[x3_41, y3_41]) := (on_ 4 ha rfl (hon 4 (by kernel_rfl)) rfl).trans (congrArg some (hF 4 (hon 4 (by kernel_rfl))))
   refine goes_ Try.func32 (by kernel_rfl) rfl #[.agg #[x3_38, y3_38], .agg #[x3_41, y3_41]] (by rfl) rfl rfl (by first | (simp only [List.map_toArray, List.map_cons, List.map_nil, Act.eval, Array.getD_eq_getD_getElem?, Option.getD_some, e67, e68]; done) | (simp only [List.map_toArray, List.map_cons, List.map_nil, Act.eval, Array.getD_eq_getD_getElem?, Option.getD_some, e67, e68]; rfl)) ?_
   with_reducible refine (mul_c _ _ (b0 - d0) (c1 - d1) s2 s5 _ (Ni2) (Ni5)).mono ?_
   rintro e w1 ⟨r, rfl, hN, hb⟩
   exact ⟨_, rfl, hK.out _ _ (step_ 5 hR rfl rfl hb_ hb (GM _ _ hG hb) hN (fun h => by cases h) (fun _ => HM _ _ HH hb) rfl)⟩
  refine steps_cons ?_ ?_
  ·rintro b a w' ⟨ms, hR⟩ hb_ hon hoff
   obtain ⟨ha, hF, hD, hG, _⟩ := id hR
   have hG1 := hG
   rw [hGd] at hG1
   obtain ⟨_, _, _, _, _, _, _, _, _, Bx12, _, _, _, _, _, _, _, _⟩ := hG1
   have HH := True.intro
   refine ⟨_, rfl, fun K hK => ?_⟩
   have e12 : a.tmps[12]? = some (.pointer (some ⟨g3_33, 0, none⟩)) := (off_ ha rfl).trans rfl
   have hc0 : w'.cell? ⟨g3_33, 0, none⟩ = some (x3_39) := (blk_cell Bx12 0).trans rfl
   have hc1 : w'.cell? ⟨g3_33, 1, none⟩ = some (y3_39) := (blk_cell Bx12 1).trans rfl
   have HR := Aside0.mk hR
   clear hR ha hF
   refine value_ (w1 := w') (v := .agg #[x3_39, y3_39]) (by rfl) rfl ?_ ?_
   ·go_simp
    (try simp only [i64_w])
    try rfl
   exact hK.out _ _ (step_ 6 HR.out rfl rfl hb_ (Below.refl _ _) hG rfl (fun h => by cases h) (fun _ => HH) rfl)
  refine steps_cons ?_ ?_
  ·rintro b a w' ⟨ms, hR⟩ hb_ hon hoff
   obtain ⟨ha, hF, hD, hG, _⟩ := id hR
   have hG1 := hG
   rw [hGd] at hG1
   obtain ⟨_, _, _, _, _, _, _, _, _, _, Bx13, _, _, _, _, _, _, _⟩ := hG1
   have HH := True.intro
   refine ⟨_, rfl, fun K hK => ?_⟩
   have e13 : a.tmps[13]? = some (.pointer (some ⟨g3_34, 0, none⟩)) := (off_ ha rfl).trans rfl
   have hc0 : w'.cell? ⟨g3_34, 0, none⟩ = some (x3_40) := (blk_cell Bx13 0).trans rfl
   have hc1 : w'.cell? ⟨g3_34, 1, none⟩ = some (y3_40) := (blk_cell Bx13 1).trans rfl
   have HR := Aside0.mk hR
   clear hR ha hF
   refine value_ (w1 := w') (v := .agg #[x3_40, y3_40]) (by rfl) rfl ?_ ?_
   ·go_simp
    (try simp only [i64_w])
    try rfl
   exact hK.out _ _ (step_ 7 HR.out rfl rfl hb_ (Below.refl _ _) hG rfl (fun h => by cases h) (fun _ => HH) rfl)
  refine steps_cons ?_ ?_
  ·rintro b a w' ⟨ms, hR⟩ hb_ hon hoff
   obtain ⟨ha, hF, hD, hG, _⟩ := id hR
   have hG1 := hG
   rw [hGd] at hG1
   obtain ⟨_, _, _, _, _, _, _, _, _, _, _, _, _, _, _, Ni3, Ni4, _⟩ := hG1
   have HH := True.intro
   refine ⟨_, rfl, fun K hK => ?_⟩
   have e70 : a.tmps[70]? = some (.agg #[x3_39, y3_39]) := (on_ 6 ha rfl (hon 6 (by kernel_rfl)) rfl).trans (congrArg some (hF 6 (hon 6 (by kernel_rfl))))
   have e71 : a.tmps[71]? = some (.agg #[x3_40, y3_40]) := (on_ 7 ha rfl (hon 7 (by kernel_rfl)) rfl).trans (congrArg some (hF 7 (hon 7 (by kernel_rfl))))
   refine goes_ Try.func32 (by kernel_rfl) rfl #[.agg #[x3_39, y3_39], .agg #[x3_40, y3_40]] (by rfl) rfl rfl (by first | (simp only [List.map_toArray, List.map_cons, List.map_nil, Act.eval, Array.getD_eq_getD_getElem?, Option.getD_some, e70, e71]; done) | (simp only [List.map_toArray, List.map_cons, List.map_nil, Act.eval, Array.getD_eq_getD_getElem?, Option.getD_some, e70, e71]; rfl)) ?_
   with_reducible refine (mul_c _ _ (b1 - d1) (c0 - d0) s3 s4 _ (Ni3) (Ni4)).mono ?_
   rintro e w1 ⟨r, rfl, hN, hb⟩
   exact ⟨_, rfl, hK.out _ _ (step_ 8 hR rfl rfl hb_ hb (GM _ _ hG hb) hN (fun h => by cases h) (fun _ => HM _ _ HH hb) rfl)⟩
  refine steps_cons ?_ ?_
  ·rintro b a w' ⟨ms, hR⟩ hb_ hon hoff
   obtain ⟨ha, hF, hD, hG, _⟩ := id hR
   have HH := True.intro
   refine ⟨_, rfl, fun K hK => ?_⟩
   have e69 : a.tmps[69]? = some (ms 5) := on_ 5 ha rfl (hon 5 (by kernel_rfl)) rfl
   have q5 : NI w' (ms 5) ((b0 - d0) * (c1 - d1)) := hF 5 (hon 5 (by kernel_rfl))
   have e72 : a.tmps[72]? = some (ms 8) := on_ 8 ha rfl (hon 8 (by kernel_rfl)) rfl
   have q8 : NI w' (ms 8) ((b1 - d1) * (c0 - d0)) := hF 8 (hon 8 (by kernel_rfl))
   refine goes_ Try.func34 (by kernel_rfl) rfl #[ms 5, ms 8] (by rfl) rfl rfl (by first | (simp only [List.map_toArray, List.map_cons, List.map_nil, Act.eval, Array.getD_eq_getD_getElem?, Option.getD_some, e69, e72]; done) | (simp only [List.map_toArray, List.map_cons, List.map_nil, Act.eval, Array.getD_eq_getD_getElem?, Option.getD_some, e69, e72]; rfl)) ?_
   with_reducible refine (sub_c _ _ ((b0 - d0) * (c1 - d1)) ((b1 - d1) * (c0 - d0)) p0 p1 _ (q5) (q8)).mono ?_
   rintro e w1 ⟨r, rfl, hN, hb⟩
   exact ⟨_, rfl, hK.out _ _ (step_ 9 hR rfl rfl hb_ hb (GM _ _ hG hb) hN (fun h => by cases h) (fun _ => HM _ _ HH hb) rfl)⟩
  refine steps_cons ?_ ?_
  ·rintro b a w' ⟨ms, hR⟩ hb_ hon hoff
   obtain ⟨ha, hF, hD, hG, _⟩ := id hR
   have HH := True.intro
   refine ⟨_, rfl, fun K hK => ?_⟩
   have e66 : a.tmps[66]? = some (ms 2) := on_ 2 ha rfl (hon 2 (by kernel_rfl)) rfl
   have q2 : NI w' (ms 2) (ds a0 a1 d0 d1) := hF 2 (hon 2 (by kernel_rfl))
   have e73 : a.tmps[73]? = some (ms 9) := on_ 9 ha rfl (hon 9 (by kernel_rfl)) rfl
   have q9 : NI w' (ms 9) (((b0 - d0) * (c1 - d1)) - ((b1 - d1) * (c0 - d0))) := hF 9 (hon 9 (by kernel_rfl))
   refine goes_ Try.func32 (by kernel_rfl) rfl #[ms 2, ms 9] (by rfl) rfl rfl (by first | (simp only [List.map_toArray, List.map_cons, List.map_nil, Act.eval, Array.getD_eq_getD_getElem?, Option.getD_some, e66, e73]; done) | (simp only [List.map_toArray, List.map_cons, List.map_nil, Act.eval, Array.getD_eq_getD_getElem?, Option.getD_some, e66, e73]; rfl)) ?_
   with_reducible refine (mul_c _ _ (ds a0 a1 d0 d1) (((b0 - d0) * (c1 - d1)) - ((b1 - d1) * (c0 - d0))) t0 r0 _ (q2) (q9)).mono ?_
   rintro e w1 ⟨r, rfl, hN, hb⟩
   exact ⟨_, rfl, hK.out _ _ (step_ 10 hR rfl rfl hb_ hb (GM _ _ hG hb) hN (fun h => by cases h) (fun _ => HM _ _ HH hb) rfl)⟩
  refine steps_cons ?_ ?_
  ·rintro b a w' ⟨ms, hR⟩ hb_ hon hoff
   obtain ⟨ha, hF, hD, hG, _⟩ := id hR
   have hG1 := hG
   rw [hGd] at hG1
   obtain ⟨_, HSz, _, _, _, _, _, _, _, _, _, _, _, _, _, _, _, _⟩ := hG1
   have HH := True.intro
   refine ⟨_, rfl, fun K hK => ?_⟩
   refine box_step ?hg (N := 15) ?hd (cs := #[.int .i64 0, .slice none 0 0]) (t := 42) ?hr ?_; (case hd => rfl); (case hg => rfl); (case hr => first | (go_simp; done) | (go_simp; rfl))
   intro g hg w1 hbox hb
   exact hK.out _ _ (step_ 11 hR rfl rfl hb_ hb (GM _ _ hG hb) ⟨g, _, _, rfl, by rw [hg]; exact HSz, hbox⟩ (fun _ => by rw [hg]) (fun _ => HM _ _ HH hb) rfl)
  refine steps_cons ?_ ?_
  ·rintro b a w' ⟨ms, hR⟩ hb_ hon hoff
   obtain ⟨ha, hF, hD, hG, _⟩ := id hR
   have HH := True.intro
   refine ⟨_, rfl, fun K hK => ?_⟩
   have hn := hF 10 (hon 10 (by kernel_rfl))
   obtain ⟨sz, Az, lz, cz, ev⟩ := NI.shape hn
   have e74 : a.tmps[74]? = some (.agg #[.int .i64 sz, .slice Az lz cz]) := (on_ 10 ha rfl (hon 10 (by kernel_rfl)) rfl).trans (congrArg some ev)
   obtain ⟨g, x0, y0, eg, hgK, hgh⟩ := hF 11 (hon 11 (by kernel_rfl))
   replace hgK : V3.heap.size ≤ g := hgK
   have e15 : a.tmps[15]? = some (.pointer (some ⟨g, 0, none⟩)) := (on_ 11 ha rfl (hon 11 (by kernel_rfl)) rfl).trans (congrArg some eg)
   have h0 : w'.cell? ⟨g, 0, none⟩ = some x0 := (blk_cell hgh 0).trans rfl
   have h1 : w'.cell? ⟨g, 1, none⟩ = some y0 := (blk_cell hgh 1).trans rfl
   have f0 := blk_frozen hgh 0
   have f1 := blk_frozen hgh 1
   have HR := Aside0.mk hR
   clear hR ha
   refine skip_ (w1 := ?_) (by rfl) rfl ?_ ?_
   rotate_left
   ·go_simp
    rfl
   exact hK.out _ _ (put_ HR.out rfl rfl hb_ rfl rfl (hon 11 (by kernel_rfl)) (hon 10 (by kernel_rfl)) rfl eg ev (GS _ g _ _ _ _ hG hgh (by omega) (fun h => by omega)) (fun _ => HH) rfl)
  exact steps_nil
 rintro b a V4 hall ⟨ms, ha, hF, hD, hG, _⟩
 rw [hGd] at hG
 obtain ⟨HBl, HSz, Bx4, Bx5, Bx6, Bx7, Bx9, Bx10, Bx11, Bx12, Bx13, Bx14, Ni0, Ni1, Ni2, Ni3, Ni4, Ni5⟩ := hG
 have bb4_0 := hall 0 (by kernel_rfl)
 have bb4_1 := hall 1 (by kernel_rfl)
 have bb4_2 := hall 2 (by kernel_rfl)
 have bb4_3 := hall 3 (by kernel_rfl)
 have bb4_4 := hall 4 (by kernel_rfl)
 have bb4_5 := hall 5 (by kernel_rfl)
 have bb4_6 := hall 6 (by kernel_rfl)
 have bb4_7 := hall 7 (by kernel_rfl)
 have bb4_8 := hall 8 (by kernel_rfl)
 have bb4_9 := hall 9 (by kernel_rfl)
 have bb4_10 := hall 10 (by kernel_rfl)
 have bb4_11 := hall 11 (by kernel_rfl)
 have bb4_12 := hall 12 (by kernel_rfl)
 have m4_0 : ms 0 = .agg #[.int .i64 a0, .int .i64 a1] := hF 0 bb4_0
 have m4_1 : ms 1 = .agg #[.int .i64 d0, .int .i64 d1] := hF 1 bb4_1
 have m4_2 : NI V4 (ms 2) (ds a0 a1 d0 d1) := hF 2 bb4_2
 have m4_3 : ms 3 = .agg #[x3_38, y3_38] := hF 3 bb4_3
 have m4_4 : ms 4 = .agg #[x3_41, y3_41] := hF 4 bb4_4
 have m4_5 : NI V4 (ms 5) ((b0 - d0) * (c1 - d1)) := hF 5 bb4_5
 have m4_6 : ms 6 = .agg #[x3_39, y3_39] := hF 6 bb4_6
 have m4_7 : ms 7 = .agg #[x3_40, y3_40] := hF 7 bb4_7
 have m4_8 : NI V4 (ms 8) ((b1 - d1) * (c0 - d0)) := hF 8 bb4_8
 have m4_9 : NI V4 (ms 9) (((b0 - d0) * (c1 - d1)) - ((b1 - d1) * (c0 - d0))) := hF 9 bb4_9
 have m4_10 : NI V4 (ms 10) ((ds a0 a1 d0 d1) * (((b0 - d0) * (c1 - d1)) - ((b1 - d1) * (c0 - d0)))) := hF 10 bb4_10
 obtain ⟨g4_11, _, _, m4_11, k4_11, _⟩ := hF 11 bb4_11
 replace k4_11 : V3.heap.size ≤ g4_11 := k4_11
 obtain ⟨_, _, _, _, z4_12, x4_12, y4_12, n4_12, e4_12, h4_12⟩ := hF 12 bb4_12
 obtain rfl : g4_11 = z4_12 := by rw [m4_11] at n4_12; injection n4_12 with q; injection q with q; injection q with q
 rw [e4_12] at m4_10
 subst ha
 simp only [ent, List.map_cons, List.map_nil, putSel, bb4_0, bb4_1, bb4_2, bb4_3, bb4_4, bb4_5, bb4_6, bb4_7, bb4_8, bb4_9, bb4_10, bb4_11, m4_0, m4_1, m4_3, m4_4, m4_6, m4_7, m4_11, if_true, Act.put, List.setIfInBounds_toArray, List.set_cons_zero, List.set_cons_succ]
 clear hF hD bb4_0 bb4_1 bb4_2 bb4_3 bb4_4 bb4_5 bb4_6 bb4_7 bb4_8 bb4_9 bb4_10 bb4_11 bb4_12
 obtain ⟨K5, e5⟩ : ∃ K5, K5 = g4_11 + 1 := ⟨_, rfl⟩
 have hK5 : K5 ≤ V4.heap.size := by have := blk_lt h4_12; omega
 go_wp2_with fail
 obtain ⟨G, hGd⟩ : ∃ G : World → Prop, G = (fun w' => Below w.heap.size w w' ∧ K5 ≤ w'.heap.size ∧ w'.heap[w.heap.size]? = some (.cells #[.int .i64 a0, .int .i64 a1] 23 (0, 0)) ∧ w'.heap[w.heap.size + 1]? = some (.cells #[.int .i64 b0, .int .i64 b1] 23 (0, 0)) ∧ w'.heap[w.heap.size + 1 + 1]? = some (.cells #[.int .i64 c0, .int .i64 c1] 23 (0, 0)) ∧ w'.heap[w.heap.size + 1 + 1 + 1]? = some (.cells #[.int .i64 d0, .int .i64 d1] 23 (0, 0)) ∧ w'.heap[g3_30]? = some (.cells #[x3_36, y3_36] 42 (0, 0)) ∧ w'.heap[g3_31]? = some (.cells #[x3_37, y3_37] 42 (0, 0)) ∧ w'.heap[g3_32]? = some (.cells #[x3_38, y3_38] 42 (0, 0)) ∧ w'.heap[g3_33]? = some (.cells #[x3_39, y3_39] 42 (0, 0)) ∧ w'.heap[g3_34]? = some (.cells #[x3_40, y3_40] 42 (0, 0)) ∧ w'.heap[g3_35]? = some (.cells #[x3_41, y3_41] 42 (0, 0)) ∧ NI w' (.agg #[x3_36, y3_36]) (a0 - d0) ∧ NI w' (.agg #[x3_37, y3_37]) (a1 - d1) ∧ NI w' (.agg #[x3_38, y3_38]) (b0 - d0) ∧ NI w' (.agg #[x3_39, y3_39]) (b1 - d1) ∧ NI w' (.agg #[x3_40, y3_40]) (c0 - d0) ∧ NI w' (.agg #[x3_41, y3_41]) (c1 - d1) ∧ ∃ x y, w'.heap[g4_11]? = some (.cells #[x, y] 42 (0, 0))) := ⟨_, rfl⟩
 have GM : ∀ w1 w2 : World, G w1 → Below w1.heap.size w1 w2 → G w2 := by
  subst hGd
  rintro w1 w2 ⟨HBl, HSz, Bx4, Bx5, Bx6, Bx7, Bx9, Bx10, Bx11, Bx12, Bx13, Bx14, Ni0, Ni1, Ni2, Ni3, Ni4, Ni5, Rs⟩ hb
  exact ⟨below_step HBl hb, Nat.le_trans HSz hb.size, blk_below Bx4 hb, blk_below Bx5 hb, blk_below Bx6 hb, blk_below Bx7 hb, blk_below Bx9 hb, blk_below Bx10 hb, blk_below Bx11 hb, blk_below Bx12 hb, blk_below Bx13 hb, blk_below Bx14 hb, NI.below Ni0 hb, NI.below Ni1 hb, NI.below Ni2 hb, NI.below Ni3 hb, NI.below Ni4 hb, NI.below Ni5 hb, (Rs.elim fun x h => h.elim fun y h => ⟨x, y, blk_below h hb⟩)⟩
 have HM : ∀ w1 w2 : World, (fun w' => w'.heap[g4_11]? = some (.cells #[x4_12, y4_12] 42 (0, 0)) ∧ NI w' (.agg #[x4_12, y4_12]) ((ds a0 a1 d0 d1) * (((b0 - d0) * (c1 - d1)) - ((b1 - d1) * (c0 - d0))))) w1 → Below w1.heap.size w1 w2 → (fun w' => w'.heap[g4_11]? = some (.cells #[x4_12, y4_12] 42 (0, 0)) ∧ NI w' (.agg #[x4_12, y4_12]) ((ds a0 a1 d0 d1) * (((b0 - d0) * (c1 - d1)) - ((b1 - d1) * (c0 - d0))))) w2 := fun w1 w2 h hb => ⟨blk_below h.1 hb, h.2.below hb⟩
 have GR : ∀ (w1 : World) (x0 y0 x y : Value), G w1 → w1.heap[g4_11]? = some (.cells #[x0, y0] 42 (0, 0)) → G ((w1.setCell ⟨g4_11, 0, none⟩ x).setCell ⟨g4_11, 1, none⟩ y) := by
  subst hGd
  rintro w1 x0 y0 x y ⟨HBl, HSz, Bx4, Bx5, Bx6, Bx7, Bx9, Bx10, Bx11, Bx12, Bx13, Bx14, Ni0, Ni1, Ni2, Ni3, Ni4, Ni5, Rs⟩ hgh
  have hle : w.heap.size ≤ g4_11 := by omega
  exact ⟨below_set2 HBl hle _ _ _ _, (by simpa [World.setCell] using HSz), blk_far (blk_far Bx4 (fun e => by have e1 : (w.heap.size : Nat) = g4_11 := e; omega) _) (fun e => by have e1 : (w.heap.size : Nat) = g4_11 := e; omega) _, blk_far (blk_far Bx5 (fun e => by have e1 : (w.heap.size + 1 : Nat) = g4_11 := e; omega) _) (fun e => by have e1 : (w.heap.size + 1 : Nat) = g4_11 := e; omega) _, blk_far (blk_far Bx6 (fun e => by have e1 : (w.heap.size + 1 + 1 : Nat) = g4_11 := e; omega) _) (fun e => by have e1 : (w.heap.size + 1 + 1 : Nat) = g4_11 := e; omega) _, blk_far (blk_far Bx7 (fun e => by have e1 : (w.heap.size + 1 + 1 + 1 : Nat) = g4_11 := e; omega) _) (fun e => by have e1 : (w.heap.size + 1 + 1 + 1 : Nat) = g4_11 := e; omega) _, blk_far (blk_far Bx9 (fun e => by have e1 : (g3_30 : Nat) = g4_11 := e; omega) _) (fun e => by have e1 : (g3_30 : Nat) = g4_11 := e; omega) _, blk_far (blk_far Bx10 (fun e => by have e1 : (g3_31 : Nat) = g4_11 := e; omega) _) (fun e => by have e1 : (g3_31 : Nat) = g4_11 := e; omega) _, blk_far (blk_far Bx11 (fun e => by have e1 : (g3_32 : Nat) = g4_11 := e; omega) _) (fun e => by have e1 : (g3_32 : Nat) = g4_11 := e; omega) _, blk_far (blk_far Bx12 (fun e => by have e1 : (g3_33 : Nat) = g4_11 := e; omega) _) (fun e => by have e1 : (g3_33 : Nat) = g4_11 := e; omega) _, blk_far (blk_far Bx13 (fun e => by have e1 : (g3_34 : Nat) = g4_11 := e; omega) _) (fun e => by have e1 : (g3_34 : Nat) = g4_11 := e; omega) _, blk_far (blk_far Bx14 (fun e => by have e1 : (g3_35 : Nat) = g4_11 := e; omega) _) (fun e => by have e1 : (g3_35 : Nat) = g4_11 := e; omega) _, NI.store (NI.store Ni0 hgh (by decide) 0 _) (blk_put hgh 0 _ rfl) (by decide) 1 _, NI.store (NI.store Ni1 hgh (by decide) 0 _) (blk_put hgh 0 _ rfl) (by decide) 1 _, NI.store (NI.store Ni2 hgh (by decide) 0 _) (blk_put hgh 0 _ rfl) (by decide) 1 _, NI.store (NI.store Ni3 hgh (by decide) 0 _) (blk_put hgh 0 _ rfl) (by decide) 1 _, NI.store (NI.store Ni4 hgh (by decide) 0 _) (blk_put hgh 0 _ rfl) (by decide) 1 _, NI.store (NI.store Ni5 hgh (by decide) 0 _) (blk_put hgh 0 _ rfl) (by decide) 1 _, _, _, blk_put (blk_put hgh 0 _ rfl) 1 _ rfl⟩
 refine start_ (n := 14) (S := fun w' => True) (ds := []) #[false, false, false, false, false, false, false, false, false, false, false, false, false, false] (by kernel_rfl) rfl rfl trivial (fun _ => ?_); refine with_tabW inc5.tab inc5.bits (fun HT_ HW_ => ?_)
 have hG0 : G V4.drew := by subst hGd; exact ⟨below_drew HBl, hK5, Bx4, Bx5, Bx6, Bx7, Bx9, Bx10, Bx11, Bx12, Bx13, Bx14, Ni0.drewN 1, Ni1.drewN 1, Ni2.drewN 1, Ni3.drewN 1, Ni4.drewN 1, Ni5.drewN 1, _, _, h4_12⟩
 have hH0 : (fun w' => w'.heap[g4_11]? = some (.cells #[x4_12, y4_12] 42 (0, 0)) ∧ NI w' (.agg #[x4_12, y4_12]) ((ds a0 a1 d0 d1) * (((b0 - d0) * (c1 - d1)) - ((b1 - d1) * (c0 - d0))))) V4.drew := ⟨h4_12, m4_10.drewN 1⟩
 generalize V4.drew = W1 at hG0 hH0 ⊢
 refine inv_at [0, 1, 2, 3, 4, 5, 6, 7, 8, 9, 10, 11, 12, 13] (fun a0_ b a w' => Rg ⟨[0, 1, 2, 3, 4, 5, 6, 7, 8, 9, 10, 11, 12, 13], [(0, 75), (1, 76), (2, 77), (3, 78), (4, 79), (5, 80), (6, 81), (7, 82), (8, 83), (9, 84), (10, 85), (11, 86), (12, 87)], fun j => [.const (.agg #[x4_12, y4_12]), .const (.agg #[.int .i64 b0, .int .i64 b1]), .const (.agg #[.int .i64 d0, .int .i64 d1]), .ni (ds b0 b1 d0 d1), .const (.agg #[x3_36, y3_36]), .const (.agg #[x3_41, y3_41]), .ni ((a0 - d0) * (c1 - d1)), .const (.agg #[x3_37, y3_37]), .const (.agg #[x3_40, y3_40]), .ni ((a1 - d1) * (c0 - d0)), .ni (((a0 - d0) * (c1 - d1)) - ((a1 - d1) * (c0 - d0))), .ni ((ds b0 b1 d0 d1) * (((a0 - d0) * (c1 - d1)) - ((a1 - d1) * (c0 - d0)))), .ni (((ds a0 a1 d0 d1) * (((b0 - d0) * (c1 - d1)) - ((b1 - d1) * (c0 - d0)))) - ((ds b0 b1 d0 d1) * (((a0 - d0) * (c1 - d1)) - ((a1 - d1) * (c0 - d0))))), .fin (fun ms w' => ∃ x y, w'.heap[g4_11]? = some (.cells #[x, y] 42 (0, 0)) ∧ NI w' (.agg #[x, y]) (((ds a0 a1 d0 d1) * (((b0 - d0) * (c1 - d1)) - ((b1 - d1) * (c0 - d0)))) - ((ds b0 b1 d0 d1) * (((a0 - d0) * (c1 - d1)) - ((a1 - d1) * (c0 - d0))))))].getD j .box, K5, 0, G, fun w' => w'.heap[g4_11]? = some (.cells #[x4_12, y4_12] 42 (0, 0)) ∧ NI w' (.agg #[x4_12, y4_12]) ((ds a0 a1 d0 d1) * (((b0 - d0) * (c1 - d1)) - ((b1 - d1) * (c0 - d0)))), 13⟩ a0_ b a w') HT_.out HW_.out (by kernel_rfl) (by kernel_rfl) ?_ ?_ ?_
 ·exact rg0 hG0 hH0
 ·refine steps_cons ?_ ?_
  ·rintro b a w' ⟨ms, hR⟩ hb_ hon hoff
   obtain ⟨ha, hF, hD, hG, _⟩ := id hR
   have HH := hR.2.2.2.2 (hoff 13 (by kernel_rfl))
   refine ⟨_, rfl, fun K hK => ?_⟩
   have e15 : a.tmps[15]? = some (.pointer (some ⟨g4_11, 0, none⟩)) := (off_ ha rfl).trans rfl
   have hc0 : w'.cell? ⟨g4_11, 0, none⟩ = some (x4_12) := (blk_cell HH.1 0).trans rfl
   have hc1 : w'.cell? ⟨g4_11, 1, none⟩ = some (y4_12) := (blk_cell HH.1 1).trans rfl
   have HR := Aside0.mk hR
   clear hR ha hF
   refine value_ (w1 := w') (v := .agg #[x4_12, y4_12]) (by rfl) rfl ?_ ?_
   ·go_simp
    (try simp only [i64_w])
    try rfl
   exact hK.out _ _ (step_ 0 HR.out rfl rfl hb_ (Below.refl _ _) hG rfl (fun h => by cases h) (fun _ => HH) rfl)
  refine steps_cons ?_ ?_
  ·rintro b a w' ⟨ms, hR⟩ hb_ hon hoff
   obtain ⟨ha, hF, hD, hG, _⟩ := id hR
   have hG1 := hG
   rw [hGd] at hG1
   obtain ⟨_, _, _, Bx5, _, _, _, _, _, _, _, _, _, _, _, _, _, _, _⟩ := hG1
   have HH := hR.2.2.2.2 (hoff 13 (by kernel_rfl))
   refine ⟨_, rfl, fun K hK => ?_⟩
   have e5 : a.tmps[5]? = some (.pointer (some ⟨w.heap.size + 1, 0, none⟩)) := (off_ ha rfl).trans rfl
   have hc0 : w'.cell? ⟨w.heap.size + 1, 0, none⟩ = some (.int .i64 b0) := (blk_cell Bx5 0).trans rfl
   have hc1 : w'.cell? ⟨w.heap.size + 1, 1, none⟩ = some (.int .i64 b1) := (blk_cell Bx5 1).trans rfl
   have HR := Aside0.mk hR
   clear hR ha hF
   refine value_ (w1 := w') (v := .agg #[.int .i64 b0, .int .i64 b1]) (by rfl) rfl ?_ ?_
   ·go_simp
    (try simp only [i64_w])
    try rfl
   exact hK.out _ _ (step_ 1 HR.out rfl rfl hb_ (Below.refl _ _) hG rfl (fun h => by cases h) (fun _ => HH) rfl)
  refine steps_cons ?_ ?_
  ·rintro b a w' ⟨ms, hR⟩ hb_ hon hoff
   obtain ⟨ha, hF, hD, hG, _⟩ := id hR
   have hG1 := hG
   rw [hGd] at hG1
   obtain ⟨_, _, _, _, _, Bx7, _, _, _, _, _, _, _, _, _, _, _, _, _⟩ := hG1
   have HH := hR.2.2.2.2 (hoff 13 (by kernel_rfl))
   refine ⟨_, rfl, fun K hK => ?_⟩
   have e7 : a.tmps[7]? = some (.pointer (some ⟨w.heap.size + 1 + 1 + 1, 0, none⟩)) := (off_ ha rfl).trans rfl
   have hc0 : w'.cell? ⟨w.heap.size + 1 + 1 + 1, 0, none⟩ = some (.int .i64 d0) := (blk_cell Bx7 0).trans rfl
   have hc1 : w'.cell? ⟨w.heap.size + 1 + 1 + 1, 1, none⟩ = some (.int .i64 d1) := (blk_cell Bx7 1).trans rfl
   have HR := Aside0.mk hR
   clear hR ha hF
   refine value_ (w1 := w') (v := .agg #[.int .i64 d0, .int .i64 d1]) (by rfl) rfl ?_ ?_
   ·go_simp
    (try simp only [i64_w])
    try rfl
   exact hK.out _ _ (step_ 2 HR.out rfl rfl hb_ (Below.refl _ _) hG rfl (fun h => by cases h) (fun _ => HH) rfl)
  refine steps_cons ?_ ?_
  ·rintro b a w' ⟨ms, hR⟩ hb_ hon hoff
   obtain ⟨ha, hF, hD, hG, _⟩ := id hR
   have HH := hR.2.2.2.2 (hoff 13 (by kernel_rfl))
   refine ⟨_, rfl, fun K hK => ?_⟩
   have e76 : a.tmps[76]? = some (.agg #[.int .i64 b0, .int .i64 b1]) := (on_ 1 ha rfl (hon 1 (by kernel_rfl)) rfl).trans (congrArg some (hF 1 (hon 1 (by kernel_rfl))))
   have e77 : a.tmps[77]? = some (.agg #[.int .i64 d0, .int .i64 d1]) := (on_ 2 ha rfl (hon 2 (by kernel_rfl)) rfl).trans (congrArg some (hF 2 (hon 2 (by kernel_rfl))))
   refine goes_ Try.func33 (by kernel_rfl) rfl #[.agg #[.int .i64 b0, .int .i64 b1], .agg #[.int .i64 d0, .int .i64 d1]] (by rfl) rfl rfl (by first | (simp only [List.map_toArray, List.map_cons, List.map_nil, Act.eval, Array.getD_eq_getD_getElem?, Option.getD_some, e76, e77]; done) | (simp only [List.map_toArray, List.map_cons, List.map_nil, Act.eval, Array.getD_eq_getD_getElem?, Option.getD_some, e76, e77]; rfl)) ?_
   with_reducible refine (dist_c Qb Qd _).mono ?_
   rintro e w1 ⟨r, rfl, hN, hb⟩
   exact ⟨_, rfl, hK.out _ _ (step_ 3 hR rfl rfl hb_ hb (GM _ _ hG hb) hN (fun h => by cases h) (fun _ => HM _ _ HH hb) rfl)⟩
  refine steps_cons ?_ ?_
  ·rintro b a w' ⟨ms, hR⟩ hb_ hon hoff
   obtain ⟨ha, hF, hD, hG, _⟩ := id hR
   have hG1 := hG
   rw [hGd] at hG1
   obtain ⟨_, _, _, _, _, _, Bx9, _, _, _, _, _, _, _, _, _, _, _, _⟩ := hG1
   have HH := hR.2.2.2.2 (hoff 13 (by kernel_rfl))
   refine ⟨_, rfl, fun K hK => ?_⟩
   have e9 : a.tmps[9]? = some (.pointer (some ⟨g3_30, 0, none⟩)) := (off_ ha rfl).trans rfl
   have hc0 : w'.cell? ⟨g3_30, 0, none⟩ = some (x3_36) := (blk_cell Bx9 0).trans rfl
   have hc1 : w'.cell? ⟨g3_30, 1, none⟩ = some (y3_36) := (blk_cell Bx9 1).trans rfl
   have HR := Aside0.mk hR
   clear hR ha hF
   refine value_ (w1 := w') (v := .agg #[x3_36, y3_36]) (by rfl) rfl ?_ ?_
   ·go_simp
    (try simp only [i64_w])
    try rfl
   exact hK.out _ _ (step_ 4 HR.out rfl rfl hb_ (Below.refl _ _) hG rfl (fun h => by cases h) (fun _ => HH) rfl)
  refine steps_cons ?_ ?_
  ·rintro b a w' ⟨ms, hR⟩ hb_ hon hoff
   obtain ⟨ha, hF, hD, hG, _⟩ := id hR
   have hG1 := hG
   rw [hGd] at hG1
   obtain ⟨_, _, _, _, _, _, _, _, _, _, _, Bx14, _, _, _, _, _, _, _⟩ := hG1
   have HH := hR.2.2.2.2 (hoff 13 (by kernel_rfl))
   refine ⟨_, rfl, fun K hK => ?_⟩
   have e14 : a.tmps[14]? = some (.pointer (some ⟨g3_35, 0, none⟩)) := (off_ ha rfl).trans rfl
   have hc0 : w'.cell? ⟨g3_35, 0, none⟩ = some (x3_41) := (blk_cell Bx14 0).trans rfl
   have hc1 : w'.cell? ⟨g3_35, 1, none⟩ = some (y3_41) := (blk_cell Bx14 1).trans rfl
   have HR := Aside0.mk hR
   clear hR ha hF
   refine value_ (w1 := w') (v := .agg #[x3_41, y3_41]) (by rfl) rfl ?_ ?_
   ·go_simp
    (try simp only [i64_w])
    try rfl
   exact hK.out _ _ (step_ 5 HR.out rfl rfl hb_ (Below.refl _ _) hG rfl (fun h => by cases h) (fun _ => HH) rfl)
  refine steps_cons ?_ ?_
  ·rintro b a w' ⟨ms, hR⟩ hb_ hon hoff
   obtain ⟨ha, hF, hD, hG, _⟩ := id hR
   have hG1 := hG
   rw [hGd] at hG1
   obtain ⟨_, _, _, _, _, _, _, _, _, _, _, _, Ni0, _, _, _, _, Ni5, _⟩ := hG1
   have HH := hR.2.2.2.2 (hoff 13 (by kernel_rfl))
   refine ⟨_, rfl, fun K hK => ?_⟩
   have e79 : a.tmps[79]? = some (.agg #[x3_36, y3_36]) := (on_ 4 ha rfl (hon 4 (by kernel_rfl)) rfl).trans (congrArg some (hF 4 (hon 4 (by kernel_rfl))))
   have e80 : a.tmps[80]? = some (.agg #[x3_41, y3_41]) := (on_ 5 ha rfl (hon 5 (by kernel_rfl)) rfl).trans (congrArg some (hF 5 (hon 5 (by kernel_rfl))))
   refine goes_ Try.func32 (by kernel_rfl) rfl #[.agg #[x3_36, y3_36], .agg #[x3_41, y3_41]] (by rfl) rfl rfl (by first | (simp only [List.map_toArray, List.map_cons, List.map_nil, Act.eval, Array.getD_eq_getD_getElem?, Option.getD_some, e79, e80]; done) | (simp only [List.map_toArray, List.map_cons, List.map_nil, Act.eval, Array.getD_eq_getD_getElem?, Option.getD_some, e79, e80]; rfl)) ?_
   with_reducible refine (mul_c _ _ (a0 - d0) (c1 - d1) s0 s5 _ (Ni0) (Ni5)).mono ?_
   rintro e w1 ⟨r, rfl, hN, hb⟩
   exact ⟨_, rfl, hK.out _ _ (step_ 6 hR rfl rfl hb_ hb (GM _ _ hG hb) hN (fun h => by cases h) (fun _ => HM _ _ HH hb) rfl)⟩
  refine steps_cons ?_ ?_
  ·rintro b a w' ⟨ms, hR⟩ hb_ hon hoff
   obtain ⟨ha, hF, hD, hG, _⟩ := id hR
   have hG1 := hG
   rw [hGd] at hG1
   obtain ⟨_, _, _, _, _, _, _, Bx10, _, _, _, _, _, _, _, _, _, _, _⟩ := hG1
   have HH := hR.2.2.2.2 (hoff 13 (by kernel_rfl))
   refine ⟨_, rfl, fun K hK => ?_⟩
   have e10 : a.tmps[10]? = some (.pointer (some ⟨g3_31, 0, none⟩)) := (off_ ha rfl).trans rfl
   have hc0 : w'.cell? ⟨g3_31, 0, none⟩ = some (x3_37) := (blk_cell Bx10 0).trans rfl
   have hc1 : w'.cell? ⟨g3_31, 1, none⟩ = some (y3_37) := (blk_cell Bx10 1).trans rfl
   have HR := Aside0.mk hR
   clear hR ha hF
   refine value_ (w1 := w') (v := .agg #[x3_37, y3_37]) (by rfl) rfl ?_ ?_
   ·go_simp
    (try simp only [i64_w])
    try rfl
   exact hK.out _ _ (step_ 7 HR.out rfl rfl hb_ (Below.refl _ _) hG rfl (fun h => by cases h) (fun _ => HH) rfl)
  refine steps_cons ?_ ?_
  ·rintro b a w' ⟨ms, hR⟩ hb_ hon hoff
   obtain ⟨ha, hF, hD, hG, _⟩ := id hR
   have hG1 := hG
   rw [hGd] at hG1
   obtain ⟨_, _, _, _, _, _, _, _, _, _, Bx13, _, _, _, _, _, _, _, _⟩ := hG1
   have HH := hR.2.2.2.2 (hoff 13 (by kernel_rfl))
   refine ⟨_, rfl, fun K hK => ?_⟩
   have e13 : a.tmps[13]? = some (.pointer (some ⟨g3_34, 0, none⟩)) := (off_ ha rfl).trans rfl
   have hc0 : w'.cell? ⟨g3_34, 0, none⟩ = some (x3_40) := (blk_cell Bx13 0).trans rfl
   have hc1 : w'.cell? ⟨g3_34, 1, none⟩ = some (y3_40) := (blk_cell Bx13 1).trans rfl
   have HR := Aside0.mk hR
   clear hR ha hF
   refine value_ (w1 := w') (v := .agg #[x3_40, y3_40]) (by rfl) rfl ?_ ?_
   ·go_simp
    (try simp only [i64_w])
    try rfl
   exact hK.out _ _ (step_ 8 HR.out rfl rfl hb_ (Below.refl _ _) hG rfl (fun h => by cases h) (fun _ => HH) rfl)
  refine steps_cons ?_ ?_
  ·rintro b a w' ⟨ms, hR⟩ hb_ hon hoff
   obtain ⟨ha, hF, hD, hG, _⟩ := id hR
   have hG1 := hG
   rw [hGd] at hG1
   obtain ⟨_, _, _, _, _, _, _, _, _, _, _, _, _, Ni1, _, _, Ni4, _, _⟩ := hG1
   have HH := hR.2.2.2.2 (hoff 13 (by kernel_rfl))
   refine ⟨_, rfl, fun K hK => ?_⟩
   have e82 : a.tmps[82]? = some (.agg #[x3_37, y3_37]) := (on_ 7 ha rfl (hon 7 (by kernel_rfl)) rfl).trans (congrArg some (hF 7 (hon 7 (by kernel_rfl))))
   have e83 : a.tmps[83]? = some (.agg #[x3_40, y3_40]) := (on_ 8 ha rfl (hon 8 (by kernel_rfl)) rfl).trans (congrArg some (hF 8 (hon 8 (by kernel_rfl))))
   refine goes_ Try.func32 (by kernel_rfl) rfl #[.agg #[x3_37, y3_37], .agg #[x3_40, y3_40]] (by rfl) rfl rfl (by first | (simp only [List.map_toArray, List.map_cons, List.map_nil, Act.eval, Array.getD_eq_getD_getElem?, Option.getD_some, e82, e83]; done) | (simp only [List.map_toArray, List.map_cons, List.map_nil, Act.eval, Array.getD_eq_getD_getElem?, Option.getD_some, e82, e83]; rfl)) ?_
   with_reducible refine (mul_c _ _ (a1 - d1) (c0 - d0) s1 s4 _ (Ni1) (Ni4)).mono ?_
   rintro e w1 ⟨r, rfl, hN, hb⟩
   exact ⟨_, rfl, hK.out _ _ (step_ 9 hR rfl rfl hb_ hb (GM _ _ hG hb) hN (fun h => by cases h) (fun _ => HM _ _ HH hb) rfl)⟩
  refine steps_cons ?_ ?_
  ·rintro b a w' ⟨ms, hR⟩ hb_ hon hoff
   obtain ⟨ha, hF, hD, hG, _⟩ := id hR
   have HH := hR.2.2.2.2 (hoff 13 (by kernel_rfl))
   refine ⟨_, rfl, fun K hK => ?_⟩
   have e81 : a.tmps[81]? = some (ms 6) := on_ 6 ha rfl (hon 6 (by kernel_rfl)) rfl
   have q6 : NI w' (ms 6) ((a0 - d0) * (c1 - d1)) := hF 6 (hon 6 (by kernel_rfl))
   have e84 : a.tmps[84]? = some (ms 9) := on_ 9 ha rfl (hon 9 (by kernel_rfl)) rfl
   have q9 : NI w' (ms 9) ((a1 - d1) * (c0 - d0)) := hF 9 (hon 9 (by kernel_rfl))
   refine goes_ Try.func34 (by kernel_rfl) rfl #[ms 6, ms 9] (by rfl) rfl rfl (by first | (simp only [List.map_toArray, List.map_cons, List.map_nil, Act.eval, Array.getD_eq_getD_getElem?, Option.getD_some, e81, e84]; done) | (simp only [List.map_toArray, List.map_cons, List.map_nil, Act.eval, Array.getD_eq_getD_getElem?, Option.getD_some, e81, e84]; rfl)) ?_
   with_reducible refine (sub_c _ _ ((a0 - d0) * (c1 - d1)) ((a1 - d1) * (c0 - d0)) p2 p3 _ (q6) (q9)).mono ?_
   rintro e w1 ⟨r, rfl, hN, hb⟩
   exact ⟨_, rfl, hK.out _ _ (step_ 10 hR rfl rfl hb_ hb (GM _ _ hG hb) hN (fun h => by cases h) (fun _ => HM _ _ HH hb) rfl)⟩
  refine steps_cons ?_ ?_
  ·rintro b a w' ⟨ms, hR⟩ hb_ hon hoff
   obtain ⟨ha, hF, hD, hG, _⟩ := id hR
   have HH := hR.2.2.2.2 (hoff 13 (by kernel_rfl))
   refine ⟨_, rfl, fun K hK => ?_⟩
   have e78 : a.tmps[78]? = some (ms 3) := on_ 3 ha rfl (hon 3 (by kernel_rfl)) rfl
   have q3 : NI w' (ms 3) (ds b0 b1 d0 d1) := hF 3 (hon 3 (by kernel_rfl))
   have e85 : a.tmps[85]? = some (ms 10) := on_ 10 ha rfl (hon 10 (by kernel_rfl)) rfl
   have q10 : NI w' (ms 10) (((a0 - d0) * (c1 - d1)) - ((a1 - d1) * (c0 - d0))) := hF 10 (hon 10 (by kernel_rfl))
   refine goes_ Try.func32 (by kernel_rfl) rfl #[ms 3, ms 10] (by rfl) rfl rfl (by first | (simp only [List.map_toArray, List.map_cons, List.map_nil, Act.eval, Array.getD_eq_getD_getElem?, Option.getD_some, e78, e85]; done) | (simp only [List.map_toArray, List.map_cons, List.map_nil, Act.eval, Array.getD_eq_getD_getElem?, Option.getD_some, e78, e85]; rfl)) ?_
   with_reducible refine (mul_c _ _ (ds b0 b1 d0 d1) (((a0 - d0) * (c1 - d1)) - ((a1 - d1) * (c0 - d0))) t1 r1 _ (q3) (q10)).mono ?_
   rintro e w1 ⟨r, rfl, hN, hb⟩
   exact ⟨_, rfl, hK.out _ _ (step_ 11 hR rfl rfl hb_ hb (GM _ _ hG hb) hN (fun h => by cases h) (fun _ => HM _ _ HH hb) rfl)⟩
  refine steps_cons ?_ ?_
  ·rintro b a w' ⟨ms, hR⟩ hb_ hon hoff
   obtain ⟨ha, hF, hD, hG, _⟩ := id hR
   have HH := hR.2.2.2.2 (hoff 13 (by kernel_rfl))
   refine ⟨_, rfl, fun K hK => ?_⟩
   have e75 : a.tmps[75]? = some (.agg #[x4_12, y4_12]) := (on_ 0 ha rfl (hon 0 (by kernel_rfl)) rfl).trans (congrArg some (hF 0 (hon 0 (by kernel_rfl))))
   have e86 : a.tmps[86]? = some (ms 11) := on_ 11 ha rfl (hon 11 (by kernel_rfl)) rfl
   have q11 : NI w' (ms 11) ((ds b0 b1 d0 d1) * (((a0 - d0) * (c1 - d1)) - ((a1 - d1) * (c0 - d0)))) := hF 11 (hon 11 (by kernel_rfl))
   refine goes_ Try.func34 (by kernel_rfl) rfl #[.agg #[x4_12, y4_12], ms 11] (by rfl) rfl rfl (by first | (simp only [List.map_toArray, List.map_cons, List.map_nil, Act.eval, Array.getD_eq_getD_getElem?, Option.getD_some, e75, e86]; done) | (simp only [List.map_toArray, List.map_cons, List.map_nil, Act.eval, Array.getD_eq_getD_getElem?, Option.getD_some, e75, e86]; rfl)) ?_
   with_reducible refine (sub_c _ _ ((ds a0 a1 d0 d1) * (((b0 - d0) * (c1 - d1)) - ((b1 - d1) * (c0 - d0)))) ((ds b0 b1 d0 d1) * (((a0 - d0) * (c1 - d1)) - ((a1 - d1) * (c0 - d0)))) u0 u1 _ (HH.2) (q11)).mono ?_
   rintro e w1 ⟨r, rfl, hN, hb⟩
   exact ⟨_, rfl, hK.out _ _ (step_ 12 hR rfl rfl hb_ hb (GM _ _ hG hb) hN (fun h => by cases h) (fun _ => HM _ _ HH hb) rfl)⟩
  refine steps_cons ?_ ?_
  ·rintro b a w' ⟨ms, hR⟩ hb_ hon hoff
   obtain ⟨ha, hF, hD, hG, _⟩ := id hR
   have hG1 := hG
   rw [hGd] at hG1
   obtain ⟨_, _, _, _, _, _, _, _, _, _, _, _, _, _, _, _, _, _, Rs⟩ := hG1
   refine ⟨_, rfl, fun K hK => ?_⟩
   have hn := hF 12 (hon 12 (by kernel_rfl))
   obtain ⟨sz, Az, lz, cz, ev⟩ := NI.shape hn
   have e87 : a.tmps[87]? = some (.agg #[.int .i64 sz, .slice Az lz cz]) := (on_ 12 ha rfl (hon 12 (by kernel_rfl)) rfl).trans (congrArg some ev)
   have e15 : a.tmps[15]? = some (.pointer (some ⟨g4_11, 0, none⟩)) := (off_ ha rfl).trans rfl
   obtain ⟨x0, y0, hgh⟩ := Rs
   have h0 : w'.cell? ⟨g4_11, 0, none⟩ = some x0 := (blk_cell hgh 0).trans rfl
   have h1 : w'.cell? ⟨g4_11, 1, none⟩ = some y0 := (blk_cell hgh 1).trans rfl
   have f0 := blk_frozen hgh 0
   have f1 := blk_frozen hgh 1
   have HR := Aside0.mk hR
   clear hR ha
   refine skip_ (w1 := ?_) (by rfl) rfl ?_ ?_
   rotate_left
   ·go_simp
    rfl
   exact hK.out _ _ (fin_ HR.out rfl (hall_ (by kernel_rfl) hon) rfl hb_ rfl hgh (by show g4_11 < K5; omega) ⟨_, _, blk_put (blk_put hgh 0 _ rfl) 1 _ rfl, by rw [← ev]; exact NI.store (NI.store hn hgh (by decide) 0 _) (blk_put hgh 0 _ rfl) (by decide) 1 _⟩ (GR _ _ _ _ _ hG hgh) rfl)
  exact steps_nil
 rintro b a V5 hall ⟨ms, ha, hF, hD, hG, _⟩
 rw [hGd] at hG
 obtain ⟨HBl, HSz, Bx4, Bx5, Bx6, Bx7, Bx9, Bx10, Bx11, Bx12, Bx13, Bx14, Ni0, Ni1, Ni2, Ni3, Ni4, Ni5, Rs⟩ := hG
 have bb5_0 := hall 0 (by kernel_rfl)
 have bb5_1 := hall 1 (by kernel_rfl)
 have bb5_2 := hall 2 (by kernel_rfl)
 have bb5_3 := hall 3 (by kernel_rfl)
 have bb5_4 := hall 4 (by kernel_rfl)
 have bb5_5 := hall 5 (by kernel_rfl)
 have bb5_6 := hall 6 (by kernel_rfl)
 have bb5_7 := hall 7 (by kernel_rfl)
 have bb5_8 := hall 8 (by kernel_rfl)
 have bb5_9 := hall 9 (by kernel_rfl)
 have bb5_10 := hall 10 (by kernel_rfl)
 have bb5_11 := hall 11 (by kernel_rfl)
 have bb5_12 := hall 12 (by kernel_rfl)
 have bb5_13 := hall 13 (by kernel_rfl)
 have m5_0 : ms 0 = .agg #[x4_12, y4_12] := hF 0 bb5_0
 have m5_1 : ms 1 = .agg #[.int .i64 b0, .int .i64 b1] := hF 1 bb5_1
 have m5_2 : ms 2 = .agg #[.int .i64 d0, .int .i64 d1] := hF 2 bb5_2
 have m5_3 : NI V5 (ms 3) (ds b0 b1 d0 d1) := hF 3 bb5_3
 have m5_4 : ms 4 = .agg #[x3_36, y3_36] := hF 4 bb5_4
 have m5_5 : ms 5 = .agg #[x3_41, y3_41] := hF 5 bb5_5
 have m5_6 : NI V5 (ms 6) ((a0 - d0) * (c1 - d1)) := hF 6 bb5_6
 have m5_7 : ms 7 = .agg #[x3_37, y3_37] := hF 7 bb5_7
 have m5_8 : ms 8 = .agg #[x3_40, y3_40] := hF 8 bb5_8
 have m5_9 : NI V5 (ms 9) ((a1 - d1) * (c0 - d0)) := hF 9 bb5_9
 have m5_10 : NI V5 (ms 10) (((a0 - d0) * (c1 - d1)) - ((a1 - d1) * (c0 - d0))) := hF 10 bb5_10
 have m5_11 : NI V5 (ms 11) ((ds b0 b1 d0 d1) * (((a0 - d0) * (c1 - d1)) - ((a1 - d1) * (c0 - d0)))) := hF 11 bb5_11
 have m5_12 : NI V5 (ms 12) (((ds a0 a1 d0 d1) * (((b0 - d0) * (c1 - d1)) - ((b1 - d1) * (c0 - d0)))) - ((ds b0 b1 d0 d1) * (((a0 - d0) * (c1 - d1)) - ((a1 - d1) * (c0 - d0))))) := hF 12 bb5_12
 obtain ⟨_, x5_13, y5_13, h5_13, m5_13⟩ := hF 13 bb5_13
 subst ha
 simp only [ent, List.map_cons, List.map_nil, putSel, bb5_0, bb5_1, bb5_2, bb5_3, bb5_4, bb5_5, bb5_6, bb5_7, bb5_8, bb5_9, bb5_10, bb5_11, bb5_12, m5_0, m5_1, m5_2, m5_4, m5_5, m5_7, m5_8, if_true, Act.put, List.setIfInBounds_toArray, List.set_cons_zero, List.set_cons_succ]
 clear hF hD bb5_0 bb5_1 bb5_2 bb5_3 bb5_4 bb5_5 bb5_6 bb5_7 bb5_8 bb5_9 bb5_10 bb5_11 bb5_12 bb5_13
 have hK5 : K5 ≤ V5.heap.size := HSz
 go_wp2_with fail
 obtain ⟨G, hGd⟩ : ∃ G : World → Prop, G = (fun w' => Below w.heap.size w w' ∧ K5 ≤ w'.heap.size ∧ w'.heap[w.heap.size]? = some (.cells #[.int .i64 a0, .int .i64 a1] 23 (0, 0)) ∧ w'.heap[w.heap.size + 1]? = some (.cells #[.int .i64 b0, .int .i64 b1] 23 (0, 0)) ∧ w'.heap[w.heap.size + 1 + 1]? = some (.cells #[.int .i64 c0, .int .i64 c1] 23 (0, 0)) ∧ w'.heap[w.heap.size + 1 + 1 + 1]? = some (.cells #[.int .i64 d0, .int .i64 d1] 23 (0, 0)) ∧ w'.heap[g3_30]? = some (.cells #[x3_36, y3_36] 42 (0, 0)) ∧ w'.heap[g3_31]? = some (.cells #[x3_37, y3_37] 42 (0, 0)) ∧ w'.heap[g3_32]? = some (.cells #[x3_38, y3_38] 42 (0, 0)) ∧ w'.heap[g3_33]? = some (.cells #[x3_39, y3_39] 42 (0, 0)) ∧ w'.heap[g3_34]? = some (.cells #[x3_40, y3_40] 42 (0, 0)) ∧ w'.heap[g3_35]? = some (.cells #[x3_41, y3_41] 42 (0, 0)) ∧ NI w' (.agg #[x3_36, y3_36]) (a0 - d0) ∧ NI w' (.agg #[x3_37, y3_37]) (a1 - d1) ∧ NI w' (.agg #[x3_38, y3_38]) (b0 - d0) ∧ NI w' (.agg #[x3_39, y3_39]) (b1 - d1) ∧ NI w' (.agg #[x3_40, y3_40]) (c0 - d0) ∧ NI w' (.agg #[x3_41, y3_41]) (c1 - d1) ∧ ∃ x y, w'.heap[g4_11]? = some (.cells #[x, y] 42 (0, 0))) := ⟨_, rfl⟩
 have GM : ∀ w1 w2 : World, G w1 → Below w1.heap.size w1 w2 → G w2 := by
  subst hGd
  rintro w1 w2 ⟨HBl, HSz, Bx4, Bx5, Bx6, Bx7, Bx9, Bx10, Bx11, Bx12, Bx13, Bx14, Ni0, Ni1, Ni2, Ni3, Ni4, Ni5, Rs⟩ hb
  exact ⟨below_step HBl hb, Nat.le_trans HSz hb.size, blk_below Bx4 hb, blk_below Bx5 hb, blk_below Bx6 hb, blk_below Bx7 hb, blk_below Bx9 hb, blk_below Bx10 hb, blk_below Bx11 hb, blk_below Bx12 hb, blk_below Bx13 hb, blk_below Bx14 hb, NI.below Ni0 hb, NI.below Ni1 hb, NI.below Ni2 hb, NI.below Ni3 hb, NI.below Ni4 hb, NI.below Ni5 hb, (Rs.elim fun x h => h.elim fun y h => ⟨x, y, blk_below h hb⟩)⟩
 have HM : ∀ w1 w2 : World, (fun w' => w'.heap[g4_11]? = some (.cells #[x5_13, y5_13] 42 (0, 0)) ∧ NI w' (.agg #[x5_13, y5_13]) (((ds a0 a1 d0 d1) * (((b0 - d0) * (c1 - d1)) - ((b1 - d1) * (c0 - d0)))) - ((ds b0 b1 d0 d1) * (((a0 - d0) * (c1 - d1)) - ((a1 - d1) * (c0 - d0)))))) w1 → Below w1.heap.size w1 w2 → (fun w' => w'.heap[g4_11]? = some (.cells #[x5_13, y5_13] 42 (0, 0)) ∧ NI w' (.agg #[x5_13, y5_13]) (((ds a0 a1 d0 d1) * (((b0 - d0) * (c1 - d1)) - ((b1 - d1) * (c0 - d0)))) - ((ds b0 b1 d0 d1) * (((a0 - d0) * (c1 - d1)) - ((a1 - d1) * (c0 - d0)))))) w2 := fun w1 w2 h hb => ⟨blk_below h.1 hb, h.2.below hb⟩
 have GR : ∀ (w1 : World) (x0 y0 x y : Value), G w1 → w1.heap[g4_11]? = some (.cells #[x0, y0] 42 (0, 0)) → G ((w1.setCell ⟨g4_11, 0, none⟩ x).setCell ⟨g4_11, 1, none⟩ y) := by
  subst hGd
  rintro w1 x0 y0 x y ⟨HBl, HSz, Bx4, Bx5, Bx6, Bx7, Bx9, Bx10, Bx11, Bx12, Bx13, Bx14, Ni0, Ni1, Ni2, Ni3, Ni4, Ni5, Rs⟩ hgh
  have hle : w.heap.size ≤ g4_11 := by omega
  exact ⟨below_set2 HBl hle _ _ _ _, (by simpa [World.setCell] using HSz), blk_far (blk_far Bx4 (fun e => by have e1 : (w.heap.size : Nat) = g4_11 := e; omega) _) (fun e => by have e1 : (w.heap.size : Nat) = g4_11 := e; omega) _, blk_far (blk_far Bx5 (fun e => by have e1 : (w.heap.size + 1 : Nat) = g4_11 := e; omega) _) (fun e => by have e1 : (w.heap.size + 1 : Nat) = g4_11 := e; omega) _, blk_far (blk_far Bx6 (fun e => by have e1 : (w.heap.size + 1 + 1 : Nat) = g4_11 := e; omega) _) (fun e => by have e1 : (w.heap.size + 1 + 1 : Nat) = g4_11 := e; omega) _, blk_far (blk_far Bx7 (fun e => by have e1 : (w.heap.size + 1 + 1 + 1 : Nat) = g4_11 := e; omega) _) (fun e => by have e1 : (w.heap.size + 1 + 1 + 1 : Nat) = g4_11 := e; omega) _, blk_far (blk_far Bx9 (fun e => by have e1 : (g3_30 : Nat) = g4_11 := e; omega) _) (fun e => by have e1 : (g3_30 : Nat) = g4_11 := e; omega) _, blk_far (blk_far Bx10 (fun e => by have e1 : (g3_31 : Nat) = g4_11 := e; omega) _) (fun e => by have e1 : (g3_31 : Nat) = g4_11 := e; omega) _, blk_far (blk_far Bx11 (fun e => by have e1 : (g3_32 : Nat) = g4_11 := e; omega) _) (fun e => by have e1 : (g3_32 : Nat) = g4_11 := e; omega) _, blk_far (blk_far Bx12 (fun e => by have e1 : (g3_33 : Nat) = g4_11 := e; omega) _) (fun e => by have e1 : (g3_33 : Nat) = g4_11 := e; omega) _, blk_far (blk_far Bx13 (fun e => by have e1 : (g3_34 : Nat) = g4_11 := e; omega) _) (fun e => by have e1 : (g3_34 : Nat) = g4_11 := e; omega) _, blk_far (blk_far Bx14 (fun e => by have e1 : (g3_35 : Nat) = g4_11 := e; omega) _) (fun e => by have e1 : (g3_35 : Nat) = g4_11 := e; omega) _, NI.store (NI.store Ni0 hgh (by decide) 0 _) (blk_put hgh 0 _ rfl) (by decide) 1 _, NI.store (NI.store Ni1 hgh (by decide) 0 _) (blk_put hgh 0 _ rfl) (by decide) 1 _, NI.store (NI.store Ni2 hgh (by decide) 0 _) (blk_put hgh 0 _ rfl) (by decide) 1 _, NI.store (NI.store Ni3 hgh (by decide) 0 _) (blk_put hgh 0 _ rfl) (by decide) 1 _, NI.store (NI.store Ni4 hgh (by decide) 0 _) (blk_put hgh 0 _ rfl) (by decide) 1 _, NI.store (NI.store Ni5 hgh (by decide) 0 _) (blk_put hgh 0 _ rfl) (by decide) 1 _, _, _, blk_put (blk_put hgh 0 _ rfl) 1 _ rfl⟩
 refine start_ (n := 14) (S := fun w' => True) (ds := []) #[false, false, false, false, false, false, false, false, false, false, false, false, false, false] (by kernel_rfl) rfl rfl trivial (fun _ => ?_); refine with_tabW inc6.tab inc6.bits (fun HT_ HW_ => ?_)
 have hG0 : G V5.drew := by subst hGd; exact ⟨below_drew HBl, hK5, Bx4, Bx5, Bx6, Bx7, Bx9, Bx10, Bx11, Bx12, Bx13, Bx14, Ni0.drewN 1, Ni1.drewN 1, Ni2.drewN 1, Ni3.drewN 1, Ni4.drewN 1, Ni5.drewN 1, _, _, h5_13⟩
 have hH0 : (fun w' => w'.heap[g4_11]? = some (.cells #[x5_13, y5_13] 42 (0, 0)) ∧ NI w' (.agg #[x5_13, y5_13]) (((ds a0 a1 d0 d1) * (((b0 - d0) * (c1 - d1)) - ((b1 - d1) * (c0 - d0)))) - ((ds b0 b1 d0 d1) * (((a0 - d0) * (c1 - d1)) - ((a1 - d1) * (c0 - d0)))))) V5.drew := ⟨h5_13, m5_13.drewN 1⟩
 generalize V5.drew = W1 at hG0 hH0 ⊢
 refine inv_at [0, 1, 2, 3, 4, 5, 6, 7, 8, 9, 10, 11, 12, 13] (fun a0_ b a w' => Rg ⟨[0, 1, 2, 3, 4, 5, 6, 7, 8, 9, 10, 11, 12, 13], [(0, 88), (1, 89), (2, 90), (3, 91), (4, 92), (5, 93), (6, 94), (7, 95), (8, 96), (9, 97), (10, 98), (11, 99), (12, 100)], fun j => [.const (.agg #[x5_13, y5_13]), .const (.agg #[.int .i64 c0, .int .i64 c1]), .const (.agg #[.int .i64 d0, .int .i64 d1]), .ni (ds c0 c1 d0 d1), .const (.agg #[x3_36, y3_36]), .const (.agg #[x3_39, y3_39]), .ni ((a0 - d0) * (b1 - d1)), .const (.agg #[x3_37, y3_37]), .const (.agg #[x3_38, y3_38]), .ni ((a1 - d1) * (b0 - d0)), .ni (((a0 - d0) * (b1 - d1)) - ((a1 - d1) * (b0 - d0))), .ni ((ds c0 c1 d0 d1) * (((a0 - d0) * (b1 - d1)) - ((a1 - d1) * (b0 - d0)))), .ni ((((ds a0 a1 d0 d1) * (((b0 - d0) * (c1 - d1)) - ((b1 - d1) * (c0 - d0)))) - ((ds b0 b1 d0 d1) * (((a0 - d0) * (c1 - d1)) - ((a1 - d1) * (c0 - d0))))) + ((ds c0 c1 d0 d1) * (((a0 - d0) * (b1 - d1)) - ((a1 - d1) * (b0 - d0))))), .fin (fun ms w' => ∃ x y, w'.heap[g4_11]? = some (.cells #[x, y] 42 (0, 0)) ∧ NI w' (.agg #[x, y]) ((((ds a0 a1 d0 d1) * (((b0 - d0) * (c1 - d1)) - ((b1 - d1) * (c0 - d0)))) - ((ds b0 b1 d0 d1) * (((a0 - d0) * (c1 - d1)) - ((a1 - d1) * (c0 - d0))))) + ((ds c0 c1 d0 d1) * (((a0 - d0) * (b1 - d1)) - ((a1 - d1) * (b0 - d0))))))].getD j .box, K5, 0, G, fun w' => w'.heap[g4_11]? = some (.cells #[x5_13, y5_13] 42 (0, 0)) ∧ NI w' (.agg #[x5_13, y5_13]) (((ds a0 a1 d0 d1) * (((b0 - d0) * (c1 - d1)) - ((b1 - d1) * (c0 - d0)))) - ((ds b0 b1 d0 d1) * (((a0 - d0) * (c1 - d1)) - ((a1 - d1) * (c0 - d0))))), 13⟩ a0_ b a w') HT_.out HW_.out (by kernel_rfl) (by kernel_rfl) ?_ ?_ ?_
 ·exact rg0 hG0 hH0
 ·refine steps_cons ?_ ?_
  ·rintro b a w' ⟨ms, hR⟩ hb_ hon hoff
   obtain ⟨ha, hF, hD, hG, _⟩ := id hR
   have HH := hR.2.2.2.2 (hoff 13 (by kernel_rfl))
   refine ⟨_, rfl, fun K hK => ?_⟩
   have e15 : a.tmps[15]? = some (.pointer (some ⟨g4_11, 0, none⟩)) := (off_ ha rfl).trans rfl
   have hc0 : w'.cell? ⟨g4_11, 0, none⟩ = some (x5_13) := (blk_cell HH.1 0).trans rfl
   have hc1 : w'.cell? ⟨g4_11, 1, none⟩ = some (y5_13) := (blk_cell HH.1 1).trans rfl
   have HR := Aside0.mk hR
   clear hR ha hF
   refine value_ (w1 := w') (v := .agg #[x5_13, y5_13]) (by rfl) rfl ?_ ?_
   ·go_simp
    (try simp only [i64_w])
    try rfl
   exact hK.out _ _ (step_ 0 HR.out rfl rfl hb_ (Below.refl _ _) hG rfl (fun h => by cases h) (fun _ => HH) rfl)
  refine steps_cons ?_ ?_
  ·rintro b a w' ⟨ms, hR⟩ hb_ hon hoff
   obtain ⟨ha, hF, hD, hG, _⟩ := id hR
   have hG1 := hG
   rw [hGd] at hG1
   obtain ⟨_, _, _, _, Bx6, _, _, _, _, _, _, _, _, _, _, _, _, _, _⟩ := hG1
   have HH := hR.2.2.2.2 (hoff 13 (by kernel_rfl))
   refine ⟨_, rfl, fun K hK => ?_⟩
   have e6 : a.tmps[6]? = some (.pointer (some ⟨w.heap.size + 1 + 1, 0, none⟩)) := (off_ ha rfl).trans rfl
   have hc0 : w'.cell? ⟨w.heap.size + 1 + 1, 0, none⟩ = some (.int .i64 c0) := (blk_cell Bx6 0).trans rfl
   have hc1 : w'.cell? ⟨w.heap.size + 1 + 1, 1, none⟩ = some (.int .i64 c1) := (blk_cell Bx6 1).trans rfl
   have HR := Aside0.mk hR
   clear hR ha hF
   refine value_ (w1 := w') (v := .agg #[.int .i64 c0, .int .i64 c1]) (by rfl) rfl ?_ ?_
   ·go_simp
    (try simp only [i64_w])
    try rfl
   exact hK.out _ _ (step_ 1 HR.out rfl rfl hb_ (Below.refl _ _) hG rfl (fun h => by cases h) (fun _ => HH) rfl)
  refine steps_cons ?_ ?_
  ·rintro b a w' ⟨ms, hR⟩ hb_ hon hoff
   obtain ⟨ha, hF, hD, hG, _⟩ := id hR
   have hG1 := hG
   rw [hGd] at hG1
   obtain ⟨_, _, _, _, _, Bx7, _, _, _, _, _, _, _, _, _, _, _, _, _⟩ := hG1
   have HH := hR.2.2.2.2 (hoff 13 (by kernel_rfl))
   refine ⟨_, rfl, fun K hK => ?_⟩
   have e7 : a.tmps[7]? = some (.pointer (some ⟨w.heap.size + 1 + 1 + 1, 0, none⟩)) := (off_ ha rfl).trans rfl
   have hc0 : w'.cell? ⟨w.heap.size + 1 + 1 + 1, 0, none⟩ = some (.int .i64 d0) := (blk_cell Bx7 0).trans rfl
   have hc1 : w'.cell? ⟨w.heap.size + 1 + 1 + 1, 1, none⟩ = some (.int .i64 d1) := (blk_cell Bx7 1).trans rfl
   have HR := Aside0.mk hR
   clear hR ha hF
   refine value_ (w1 := w') (v := .agg #[.int .i64 d0, .int .i64 d1]) (by rfl) rfl ?_ ?_
   ·go_simp
    (try simp only [i64_w])
    try rfl
   exact hK.out _ _ (step_ 2 HR.out rfl rfl hb_ (Below.refl _ _) hG rfl (fun h => by cases h) (fun _ => HH) rfl)
  refine steps_cons ?_ ?_
  ·rintro b a w' ⟨ms, hR⟩ hb_ hon hoff
   obtain ⟨ha, hF, hD, hG, _⟩ := id hR
   have HH := hR.2.2.2.2 (hoff 13 (by kernel_rfl))
   refine ⟨_, rfl, fun K hK => ?_⟩
   have e89 : a.tmps[89]? = some (.agg #[.int .i64 c0, .int .i64 c1]) := (on_ 1 ha rfl (hon 1 (by kernel_rfl)) rfl).trans (congrArg some (hF 1 (hon 1 (by kernel_rfl))))
   have e90 : a.tmps[90]? = some (.agg #[.int .i64 d0, .int .i64 d1]) := (on_ 2 ha rfl (hon 2 (by kernel_rfl)) rfl).trans (congrArg some (hF 2 (hon 2 (by kernel_rfl))))
   refine goes_ Try.func33 (by kernel_rfl) rfl #[.agg #[.int .i64 c0, .int .i64 c1], .agg #[.int .i64 d0, .int .i64 d1]] (by rfl) rfl rfl (by first | (simp only [List.map_toArray, List.map_cons, List.map_nil, Act.eval, Array.getD_eq_getD_getElem?, Option.getD_some, e89, e90]; done) | (simp only [List.map_toArray, List.map_cons, List.map_nil, Act.eval, Array.getD_eq_getD_getElem?, Option.getD_some, e89, e90]; rfl)) ?_
   with_reducible refine (dist_c Qc Qd _).mono ?_
   rintro e w1 ⟨r, rfl, hN, hb⟩
   exact ⟨_, rfl, hK.out _ _ (step_ 3 hR rfl rfl hb_ hb (GM _ _ hG hb) hN (fun h => by cases h) (fun _ => HM _ _ HH hb) rfl)⟩
  refine steps_cons ?_ ?_
  ·rintro b a w' ⟨ms, hR⟩ hb_ hon hoff
   obtain ⟨ha, hF, hD, hG, _⟩ := id hR
   have hG1 := hG
   rw [hGd] at hG1
   obtain ⟨_, _, _, _, _, _, Bx9, _, _, _, _, _, _, _, _, _, _, _, _⟩ := hG1
   have HH := hR.2.2.2.2 (hoff 13 (by kernel_rfl))
   refine ⟨_, rfl, fun K hK => ?_⟩
   have e9 : a.tmps[9]? = some (.pointer (some ⟨g3_30, 0, none⟩)) := (off_ ha rfl).trans rfl
   have hc0 : w'.cell? ⟨g3_30, 0, none⟩ = some (x3_36) := (blk_cell Bx9 0).trans rfl
   have hc1 : w'.cell? ⟨g3_30, 1, none⟩ = some (y3_36) := (blk_cell Bx9 1).trans rfl
   have HR := Aside0.mk hR
   clear hR ha hF
   refine value_ (w1 := w') (v := .agg #[x3_36, y3_36]) (by rfl) rfl ?_ ?_
   ·go_simp
    (try simp only [i64_w])
    try rfl
   exact hK.out _ _ (step_ 4 HR.out rfl rfl hb_ (Below.refl _ _) hG rfl (fun h => by cases h) (fun _ => HH) rfl)
  refine steps_cons ?_ ?_
  ·rintro b a w' ⟨ms, hR⟩ hb_ hon hoff
   obtain ⟨ha, hF, hD, hG, _⟩ := id hR
   have hG1 := hG
   rw [hGd] at hG1
   obtain ⟨_, _, _, _, _, _, _, _, _, Bx12, _, _, _, _, _, _, _, _, _⟩ := hG1
   have HH := hR.2.2.2.2 (hoff 13 (by kernel_rfl))
   refine ⟨_, rfl, fun K hK => ?_⟩
   have e12 : a.tmps[12]? = some (.pointer (some ⟨g3_33, 0, none⟩)) := (off_ ha rfl).trans rfl
   have hc0 : w'.cell? ⟨g3_33, 0, none⟩ = some (x3_39) := (blk_cell Bx12 0).trans rfl
   have hc1 : w'.cell? ⟨g3_33, 1, none⟩ = some (y3_39) := (blk_cell Bx12 1).trans rfl
   have HR := Aside0.mk hR
   clear hR ha hF
   refine value_ (w1 := w') (v := .agg #[x3_39, y3_39]) (by rfl) rfl ?_ ?_
   ·go_simp
    (try simp only [i64_w])
    try rfl
   exact hK.out _ _ (step_ 5 HR.out rfl rfl hb_ (Below.refl _ _) hG rfl (fun h => by cases h) (fun _ => HH) rfl)
  refine steps_cons ?_ ?_
  ·rintro b a w' ⟨ms, hR⟩ hb_ hon hoff
   obtain ⟨ha, hF, hD, hG, _⟩ := id hR
   have hG1 := hG
   rw [hGd] at hG1
   obtain ⟨_, _, _, _, _, _, _, _, _, _, _, _, Ni0, _, _, Ni3, _, _, _⟩ := hG1
   have HH := hR.2.2.2.2 (hoff 13 (by kernel_rfl))
   refine ⟨_, rfl, fun K hK => ?_⟩
   have e92 : a.tmps[92]? = some (.agg #[x3_36, y3_36]) := (on_ 4 ha rfl (hon 4 (by kernel_rfl)) rfl).trans (congrArg some (hF 4 (hon 4 (by kernel_rfl))))
   have e93 : a.tmps[93]? = some (.agg #[x3_39, y3_39]) := (on_ 5 ha rfl (hon 5 (by kernel_rfl)) rfl).trans (congrArg some (hF 5 (hon 5 (by kernel_rfl))))
   refine goes_ Try.func32 (by kernel_rfl) rfl #[.agg #[x3_36, y3_36], .agg #[x3_39, y3_39]] (by rfl) rfl rfl (by first | (simp only [List.map_toArray, List.map_cons, List.map_nil, Act.eval, Array.getD_eq_getD_getElem?, Option.getD_some, e92, e93]; done) | (simp only [List.map_toArray, List.map_cons, List.map_nil, Act.eval, Array.getD_eq_getD_getElem?, Option.getD_some, e92, e93]; rfl)) ?_
   with_reducible refine (mul_c _ _ (a0 - d0) (b1 - d1) s0 s3 _ (Ni0) (Ni3)).mono ?_
   rintro e w1 ⟨r, rfl, hN, hb⟩
   exact ⟨_, rfl, hK.out _ _ (step_ 6 hR rfl rfl hb_ hb (GM _ _ hG hb) hN (fun h => by cases h) (fun _ => HM _ _ HH hb) rfl)⟩
  refine steps_cons ?_ ?_
  ·rintro b a w' ⟨ms, hR⟩ hb_ hon hoff
   obtain ⟨ha, hF, hD, hG, _⟩ := id hR
   have hG1 := hG
   rw [hGd] at hG1
   obtain ⟨_, _, _, _, _, _, _, Bx10, _, _, _, _, _, _, _, _, _, _, _⟩ := hG1
   have HH := hR.2.2.2.2 (hoff 13 (by kernel_rfl))
   refine ⟨_, rfl, fun K hK => ?_⟩
   have e10 : a.tmps[10]? = some (.pointer (some ⟨g3_31, 0, none⟩)) := (off_ ha rfl).trans rfl
   have hc0 : w'.cell? ⟨g3_31, 0, none⟩ = some (x3_37) := (blk_cell Bx10 0).trans rfl
   have hc1 : w'.cell? ⟨g3_31, 1, none⟩ = some (y3_37) := (blk_cell Bx10 1).trans rfl
   have HR := Aside0.mk hR
   clear hR ha hF
   refine value_ (w1 := w') (v := .agg #[x3_37, y3_37]) (by rfl) rfl ?_ ?_
   ·go_simp
    (try simp only [i64_w])
    try rfl
   exact hK.out _ _ (step_ 7 HR.out rfl rfl hb_ (Below.refl _ _) hG rfl (fun h => by cases h) (fun _ => HH) rfl)
  refine steps_cons ?_ ?_
  ·rintro b a w' ⟨ms, hR⟩ hb_ hon hoff
   obtain ⟨ha, hF, hD, hG, _⟩ := id hR
   have hG1 := hG
   rw [hGd] at hG1
   obtain ⟨_, _, _, _, _, _, _, _, Bx11, _, _, _, _, _, _, _, _, _, _⟩ := hG1
   have HH := hR.2.2.2.2 (hoff 13 (by kernel_rfl))
   refine ⟨_, rfl, fun K hK => ?_⟩
   have e11 : a.tmps[11]? = some (.pointer (some ⟨g3_32, 0, none⟩)) := (off_ ha rfl).trans rfl
   have hc0 : w'.cell? ⟨g3_32, 0, none⟩ = some (x3_38) := (blk_cell Bx11 0).trans rfl
   have hc1 : w'.cell? ⟨g3_32, 1, none⟩ = some (y3_38) := (blk_cell Bx11 1).trans rfl
   have HR := Aside0.mk hR
   clear hR ha hF
   refine value_ (w1 := w') (v := .agg #[x3_38, y3_38]) (by rfl) rfl ?_ ?_
   ·go_simp
    (try simp only [i64_w])
    try rfl
   exact hK.out _ _ (step_ 8 HR.out rfl rfl hb_ (Below.refl _ _) hG rfl (fun h => by cases h) (fun _ => HH) rfl)
  refine steps_cons ?_ ?_
  ·rintro b a w' ⟨ms, hR⟩ hb_ hon hoff
   obtain ⟨ha, hF, hD, hG, _⟩ := id hR
   have hG1 := hG
   rw [hGd] at hG1
   obtain ⟨_, _, _, _, _, _, _, _, _, _, _, _, _, Ni1, Ni2, _, _, _, _⟩ := hG1
   have HH := hR.2.2.2.2 (hoff 13 (by kernel_rfl))
   refine ⟨_, rfl, fun K hK => ?_⟩
   have e95 : a.tmps[95]? = some (.agg #[x3_37, y3_37]) := (on_ 7 ha rfl (hon 7 (by kernel_rfl)) rfl).trans (congrArg some (hF 7 (hon 7 (by kernel_rfl))))
   have e96 : a.tmps[96]? = some (.agg #[x3_38, y3_38]) := (on_ 8 ha rfl (hon 8 (by kernel_rfl)) rfl).trans (congrArg some (hF 8 (hon 8 (by kernel_rfl))))
   refine goes_ Try.func32 (by kernel_rfl) rfl #[.agg #[x3_37, y3_37], .agg #[x3_38, y3_38]] (by rfl) rfl rfl (by first | (simp only [List.map_toArray, List.map_cons, List.map_nil, Act.eval, Array.getD_eq_getD_getElem?, Option.getD_some, e95, e96]; done) | (simp only [List.map_toArray, List.map_cons, List.map_nil, Act.eval, Array.getD_eq_getD_getElem?, Option.getD_some, e95, e96]; rfl)) ?_
   with_reducible refine (mul_c _ _ (a1 - d1) (b0 - d0) s1 s2 _ (Ni1) (Ni2)).mono ?_
   rintro e w1 ⟨r, rfl, hN, hb⟩
   exact ⟨_, rfl, hK.out _ _ (step_ 9 hR rfl rfl hb_ hb (GM _ _ hG hb) hN (fun h => by cases h) (fun _ => HM _ _ HH hb) rfl)⟩
  refine steps_cons ?_ ?_
  ·rintro b a w' ⟨ms, hR⟩ hb_ hon hoff
   obtain ⟨ha, hF, hD, hG, _⟩ := id hR
   have HH := hR.2.2.2.2 (hoff 13 (by kernel_rfl))
   refine ⟨_, rfl, fun K hK => ?_⟩
   have e94 : a.tmps[94]? = some (ms 6) := on_ 6 ha rfl (hon 6 (by kernel_rfl)) rfl
   have q6 : NI w' (ms 6) ((a0 - d0) * (b1 - d1)) := hF 6 (hon 6 (by kernel_rfl))
   have e97 : a.tmps[97]? = some (ms 9) := on_ 9 ha rfl (hon 9 (by kernel_rfl)) rfl
   have q9 : NI w' (ms 9) ((a1 - d1) * (b0 - d0)) := hF 9 (hon 9 (by kernel_rfl))
   refine goes_ Try.func34 (by kernel_rfl) rfl #[ms 6, ms 9] (by rfl) rfl rfl (by first | (simp only [List.map_toArray, List.map_cons, List.map_nil, Act.eval, Array.getD_eq_getD_getElem?, Option.getD_some, e94, e97]; done) | (simp only [List.map_toArray, List.map_cons, List.map_nil, Act.eval, Array.getD_eq_getD_getElem?, Option.getD_some, e94, e97]; rfl)) ?_
   with_reducible refine (sub_c _ _ ((a0 - d0) * (b1 - d1)) ((a1 - d1) * (b0 - d0)) p4 p5 _ (q6) (q9)).mono ?_
   rintro e w1 ⟨r, rfl, hN, hb⟩
   exact ⟨_, rfl, hK.out _ _ (step_ 10 hR rfl rfl hb_ hb (GM _ _ hG hb) hN (fun h => by cases h) (fun _ => HM _ _ HH hb) rfl)⟩
  refine steps_cons ?_ ?_
  ·rintro b a w' ⟨ms, hR⟩ hb_ hon hoff
   obtain ⟨ha, hF, hD, hG, _⟩ := id hR
   have HH := hR.2.2.2.2 (hoff 13 (by kernel_rfl))
   refine ⟨_, rfl, fun K hK => ?_⟩
   have e91 : a.tmps[91]? = some (ms 3) := on_ 3 ha rfl (hon 3 (by kernel_rfl)) rfl
   have q3 : NI w' (ms 3) (ds c0 c1 d0 d1) := hF 3 (hon 3 (by kernel_rfl))
   have e98 : a.tmps[98]? = some (ms 10) := on_ 10 ha rfl (hon 10 (by kernel_rfl)) rfl
   have q10 : NI w' (ms 10) (((a0 - d0) * (b1 - d1)) - ((a1 - d1) * (b0 - d0))) := hF 10 (hon 10 (by kernel_rfl))
   refine goes_ Try.func32 (by kernel_rfl) rfl #[ms 3, ms 10] (by rfl) rfl rfl (by first | (simp only [List.map_toArray, List.map_cons, List.map_nil, Act.eval, Array.getD_eq_getD_getElem?, Option.getD_some, e91, e98]; done) | (simp only [List.map_toArray, List.map_cons, List.map_nil, Act.eval, Array.getD_eq_getD_getElem?, Option.getD_some, e91, e98]; rfl)) ?_
   with_reducible refine (mul_c _ _ (ds c0 c1 d0 d1) (((a0 - d0) * (b1 - d1)) - ((a1 - d1) * (b0 - d0))) t2 r2 _ (q3) (q10)).mono ?_
   rintro e w1 ⟨r, rfl, hN, hb⟩
   exact ⟨_, rfl, hK.out _ _ (step_ 11 hR rfl rfl hb_ hb (GM _ _ hG hb) hN (fun h => by cases h) (fun _ => HM _ _ HH hb) rfl)⟩
  refine steps_cons ?_ ?_
  ·rintro b a w' ⟨ms, hR⟩ hb_ hon hoff
   obtain ⟨ha, hF, hD, hG, _⟩ := id hR
   have HH := hR.2.2.2.2 (hoff 13 (by kernel_rfl))
   refine ⟨_, rfl, fun K hK => ?_⟩
   have e88 : a.tmps[88]? = some (.agg #[x5_13, y5_13]) := (on_ 0 ha rfl (hon 0 (by kernel_rfl)) rfl).trans (congrArg some (hF 0 (hon 0 (by kernel_rfl))))
   have e99 : a.tmps[99]? = some (ms 11) := on_ 11 ha rfl (hon 11 (by kernel_rfl)) rfl
   have q11 : NI w' (ms 11) ((ds c0 c1 d0 d1) * (((a0 - d0) * (b1 - d1)) - ((a1 - d1) * (b0 - d0)))) := hF 11 (hon 11 (by kernel_rfl))
   refine goes_ Try.func35 (by kernel_rfl) rfl #[.agg #[x5_13, y5_13], ms 11] (by rfl) rfl rfl (by first | (simp only [List.map_toArray, List.map_cons, List.map_nil, Act.eval, Array.getD_eq_getD_getElem?, Option.getD_some, e88, e99]; done) | (simp only [List.map_toArray, List.map_cons, List.map_nil, Act.eval, Array.getD_eq_getD_getElem?, Option.getD_some, e88, e99]; rfl)) ?_
   with_reducible refine (add_c _ _ (((ds a0 a1 d0 d1) * (((b0 - d0) * (c1 - d1)) - ((b1 - d1) * (c0 - d0)))) - ((ds b0 b1 d0 d1) * (((a0 - d0) * (c1 - d1)) - ((a1 - d1) * (c0 - d0))))) ((ds c0 c1 d0 d1) * (((a0 - d0) * (b1 - d1)) - ((a1 - d1) * (b0 - d0)))) v1 u2 _ (HH.2) (q11)).mono ?_
   rintro e w1 ⟨r, rfl, hN, hb⟩
   exact ⟨_, rfl, hK.out _ _ (step_ 12 hR rfl rfl hb_ hb (GM _ _ hG hb) hN (fun h => by cases h) (fun _ => HM _ _ HH hb) rfl)⟩
  refine steps_cons ?_ ?_
  ·rintro b a w' ⟨ms, hR⟩ hb_ hon hoff
   obtain ⟨ha, hF, hD, hG, _⟩ := id hR
   have hG1 := hG
   rw [hGd] at hG1
   obtain ⟨_, _, _, _, _, _, _, _, _, _, _, _, _, _, _, _, _, _, Rs⟩ := hG1
   refine ⟨_, rfl, fun K hK => ?_⟩
   have hn := hF 12 (hon 12 (by kernel_rfl))
   obtain ⟨sz, Az, lz, cz, ev⟩ := NI.shape hn
   have e100 : a.tmps[100]? = some (.agg #[.int .i64 sz, .slice Az lz cz]) := (on_ 12 ha rfl (hon 12 (by kernel_rfl)) rfl).trans (congrArg some ev)
   have e15 : a.tmps[15]? = some (.pointer (some ⟨g4_11, 0, none⟩)) := (off_ ha rfl).trans rfl
   obtain ⟨x0, y0, hgh⟩ := Rs
   have h0 : w'.cell? ⟨g4_11, 0, none⟩ = some x0 := (blk_cell hgh 0).trans rfl
   have h1 : w'.cell? ⟨g4_11, 1, none⟩ = some y0 := (blk_cell hgh 1).trans rfl
   have f0 := blk_frozen hgh 0
   have f1 := blk_frozen hgh 1
   have HR := Aside0.mk hR
   clear hR ha
   refine skip_ (w1 := ?_) (by rfl) rfl ?_ ?_
   rotate_left
   ·go_simp
    rfl
   exact hK.out _ _ (fin_ HR.out rfl (hall_ (by kernel_rfl) hon) rfl hb_ rfl hgh (by show g4_11 < K5; omega) ⟨_, _, blk_put (blk_put hgh 0 _ rfl) 1 _ rfl, by rw [← ev]; exact NI.store (NI.store hn hgh (by decide) 0 _) (blk_put hgh 0 _ rfl) (by decide) 1 _⟩ (GR _ _ _ _ _ hG hgh) rfl)
  exact steps_nil
 rintro b a V6 hall ⟨ms, ha, hF, hD, hG, _⟩
 rw [hGd] at hG
 obtain ⟨HBl, HSz, Bx4, Bx5, Bx6, Bx7, Bx9, Bx10, Bx11, Bx12, Bx13, Bx14, Ni0, Ni1, Ni2, Ni3, Ni4, Ni5, Rs⟩ := hG
 have bb6_0 := hall 0 (by kernel_rfl)
 have bb6_1 := hall 1 (by kernel_rfl)
 have bb6_2 := hall 2 (by kernel_rfl)
 have bb6_3 := hall 3 (by kernel_rfl)
 have bb6_4 := hall 4 (by kernel_rfl)
 have bb6_5 := hall 5 (by kernel_rfl)
 have bb6_6 := hall 6 (by kernel_rfl)
 have bb6_7 := hall 7 (by kernel_rfl)
 have bb6_8 := hall 8 (by kernel_rfl)
 have bb6_9 := hall 9 (by kernel_rfl)
 have bb6_10 := hall 10 (by kernel_rfl)
 have bb6_11 := hall 11 (by kernel_rfl)
 have bb6_12 := hall 12 (by kernel_rfl)
 have bb6_13 := hall 13 (by kernel_rfl)
 have m6_0 : ms 0 = .agg #[x5_13, y5_13] := hF 0 bb6_0
 have m6_1 : ms 1 = .agg #[.int .i64 c0, .int .i64 c1] := hF 1 bb6_1
 have m6_2 : ms 2 = .agg #[.int .i64 d0, .int .i64 d1] := hF 2 bb6_2
 have m6_3 : NI V6 (ms 3) (ds c0 c1 d0 d1) := hF 3 bb6_3
 have m6_4 : ms 4 = .agg #[x3_36, y3_36] := hF 4 bb6_4
 have m6_5 : ms 5 = .agg #[x3_39, y3_39] := hF 5 bb6_5
 have m6_6 : NI V6 (ms 6) ((a0 - d0) * (b1 - d1)) := hF 6 bb6_6
 have m6_7 : ms 7 = .agg #[x3_37, y3_37] := hF 7 bb6_7
 have m6_8 : ms 8 = .agg #[x3_38, y3_38] := hF 8 bb6_8
 have m6_9 : NI V6 (ms 9) ((a1 - d1) * (b0 - d0)) := hF 9 bb6_9
 have m6_10 : NI V6 (ms 10) (((a0 - d0) * (b1 - d1)) - ((a1 - d1) * (b0 - d0))) := hF 10 bb6_10
 have m6_11 : NI V6 (ms 11) ((ds c0 c1 d0 d1) * (((a0 - d0) * (b1 - d1)) - ((a1 - d1) * (b0 - d0)))) := hF 11 bb6_11
 have m6_12 : NI V6 (ms 12) ((((ds a0 a1 d0 d1) * (((b0 - d0) * (c1 - d1)) - ((b1 - d1) * (c0 - d0)))) - ((ds b0 b1 d0 d1) * (((a0 - d0) * (c1 - d1)) - ((a1 - d1) * (c0 - d0))))) + ((ds c0 c1 d0 d1) * (((a0 - d0) * (b1 - d1)) - ((a1 - d1) * (b0 - d0))))) := hF 12 bb6_12
 obtain ⟨_, x6_13, y6_13, h6_13, m6_13⟩ := hF 13 bb6_13
 subst ha
 simp only [ent, List.map_cons, List.map_nil, putSel, bb6_0, bb6_1, bb6_2, bb6_3, bb6_4, bb6_5, bb6_6, bb6_7, bb6_8, bb6_9, bb6_10, bb6_11, bb6_12, m6_0, m6_1, m6_2, m6_4, m6_5, m6_7, m6_8, if_true, Act.put, List.setIfInBounds_toArray, List.set_cons_zero, List.set_cons_succ]
 clear hF hD bb6_0 bb6_1 bb6_2 bb6_3 bb6_4 bb6_5 bb6_6 bb6_7 bb6_8 bb6_9 bb6_10 bb6_11 bb6_12 bb6_13
 obtain ⟨A, l, c, ev, _⟩ := m6_13.out
 injection ev with ev
 obtain ⟨rfl, rfl⟩ : x6_13 = .int .i64 ((((ds a0 a1 d0 d1) * (((b0 - d0) * (c1 - d1)) - ((b1 - d1) * (c0 - d0)))) - ((ds b0 b1 d0 d1) * (((a0 - d0) * (c1 - d1)) - ((a1 - d1) * (c0 - d0))))) + ((ds c0 c1 d0 d1) * (((a0 - d0) * (b1 - d1)) - ((a1 - d1) * (b0 - d0))))).sign ∧ y6_13 = .slice A l c := by
  injection ev with ev
  injection ev with e1 ev
  injection ev with e2 ev
  exact ⟨e1, e2⟩
 have hz : V6.cell? ⟨g4_11, 0, none⟩ = some (.int .i64 ((((ds a0 a1 d0 d1) * (((b0 - d0) * (c1 - d1)) - ((b1 - d1) * (c0 - d0)))) - ((ds b0 b1 d0 d1) * (((a0 - d0) * (c1 - d1)) - ((a1 - d1) * (c0 - d0))))) + ((ds c0 c1 d0 d1) * (((a0 - d0) * (b1 - d1)) - ((a1 - d1) * (b0 - d0))))).sign) := (blk_cell h6_13 0).trans rfl
 rw [dt_ref, hq.out] at hz
 go_wp2
 go_ret
 exact ⟨rfl, HBl⟩
end Go.Proofs.Ytlkngfidohiepaa.Rf
end
section
namespace Go.Proofs.Ytlkngfidohiepaa.Rf
open Go RowKit YtlkngfidohiepaaW.PrintWords Ytlkngfidohiepaa.F Ytlkngfidohiepaa.Wd Ytlkngfidohiepaa.Pm Ytlkngfidohiepaa.Pd
set_option linter.unusedVariables false
theorem sign_p (n : Int) : zelligeref07_sign.f n = some n.sign := by
 unfold zelligeref07_sign.f
 rcases sign_cases n with ⟨h, e⟩ | ⟨h, e⟩ | ⟨h, e⟩
 ·rw [if_pos h, e]
 ·rw [if_neg (by omega), if_neg (by omega), e]
 ·rw [if_neg (by omega), if_pos h, e]
theorem near_p {a0 a1 b0 b1 : Int} (ha : CoP a0 a1) (hb : CoP b0 b1) : ∃ m, zelligeref07_near.f a0 a1 b0 b1 = some m ∧ (m = true → Am (b0 - a0) 8191 ∧ Am (b1 - a1) 8191) := by
 unfold CoP Co at *
 unfold zelligeref07_near.f
 rw [p64 (x := b0 - a0) (by omega), p64 (x := b1 - a1) (by omega)]
 by_cases h1 : b0 - a0 > -8192
 ·rw [if_pos h1]
  by_cases h2 : b0 - a0 < 8192
  ·rw [if_pos h2]
   by_cases h3 : b1 - a1 > -8192
   ·rw [if_pos h3]
    exact ⟨_, rfl, fun h => ⟨Am.of (by omega), Am.of (by have := of_decide_eq_true h; omega)⟩⟩
   ·rw [if_neg h3]; exact ⟨_, rfl, fun h => by cases h⟩
  ·rw [if_neg h2]; exact ⟨_, rfl, fun h => by cases h⟩
 ·rw [if_neg h1]; exact ⟨_, rfl, fun h => by cases h⟩
theorem am64 {n : Int} {B : Nat} (h : Am n B) (hB : B ≤ 9223372036854775807) : wrap64 n = n := p64 (by have := h.le; omega)
theorem am_neg {n m : Int} {B : Nat} (h : Am (n - m) B) : Am (m - n) B := by unfold Am at *; omega
theorem sq_am {x y : Int} (h : Am x 8191) (h' : Am y 8191) : Am (x * x) 67092481 ∧ Am (y * y) 67092481 ∧ Am (x * x + y * y) 134184962 := ⟨(Am.mul h h).mono (by omega), (Am.mul h' h').mono (by omega), ((Am.mul h h).add (Am.mul h' h')).mono (by omega)⟩
theorem cr_am {x y z t : Int} (h : Am x 8191) (h' : Am y 8191) (hz : Am z 8191) (ht : Am t 8191) : Am (x * t) 67092481 ∧ Am (y * z) 67092481 ∧ Am (x * t - y * z) 134184962 := ⟨(Am.mul h ht).mono (by omega), (Am.mul h' hz).mono (by omega), ((Am.mul h ht).sub (Am.mul h' hz)).mono (by omega)⟩
theorem flat_p {a0 a1 b0 b1 c0 c1 d0 d1 : Int} (ha : Am (d0 - a0) 8191 ∧ Am (d1 - a1) 8191) (hb : Am (d0 - b0) 8191 ∧ Am (d1 - b1) 8191) (hc : Am (d0 - c0) 8191 ∧ Am (d1 - c1) 8191) :
  zelligeref07_flat.f a0 a1 b0 b1 c0 c1 d0 d1 = some (dt a0 a1 b0 b1 c0 c1 d0 d1).sign := by
 have e : ((a0 - d0) * (a0 - d0) + (a1 - d1) * (a1 - d1)) * ((b0 - d0) * (c1 - d1) - (b1 - d1) * (c0 - d0)) - ((b0 - d0) * (b0 - d0) + (b1 - d1) * (b1 - d1)) * ((a0 - d0) * (c1 - d1) - (a1 - d1) * (c0 - d0)) + ((c0 - d0) * (c0 - d0) + (c1 - d1) * (c1 - d1)) * ((a0 - d0) * (b1 - d1) - (a1 - d1) * (b0 - d0)) = dt a0 a1 b0 b1 c0 c1 d0 d1 := by unfold dt; grind
 have x0 := am_neg ha.1; have x1 := am_neg ha.2; have y0 := am_neg hb.1; have y1 := am_neg hb.2; have z0 := am_neg hc.1; have z1 := am_neg hc.2
 unfold zelligeref07_flat.f
 rw [← e, am64 x0 (by omega), am64 x1 (by omega), am64 y0 (by omega), am64 y1 (by omega), am64 z0 (by omega), am64 z1 (by omega)]
 generalize a0 - d0 = ax at *; generalize a1 - d1 = ay at *; generalize b0 - d0 = bx at *; generalize b1 - d1 = by' at *; generalize c0 - d0 = cx at *; generalize c1 - d1 = cy at *
 have A := sq_am x0 x1; have B := sq_am y0 y1; have C := sq_am z0 z1
 have P := cr_am y0 y1 z0 z1; have Q := cr_am x0 x1 z0 z1; have R := cr_am x0 x1 y0 y1
 have U := Am.mul A.2.2 P.2.2; have V := Am.mul B.2.2 Q.2.2; have W := Am.mul C.2.2 R.2.2
 rw [am64 A.1 (by omega), am64 A.2.1 (by omega), am64 A.2.2 (by omega), am64 B.1 (by omega), am64 B.2.1 (by omega), am64 B.2.2 (by omega), am64 C.1 (by omega), am64 C.2.1 (by omega), am64 C.2.2 (by omega),
  am64 P.1 (by omega), am64 P.2.1 (by omega), am64 P.2.2 (by omega), am64 Q.1 (by omega), am64 Q.2.1 (by omega), am64 Q.2.2 (by omega), am64 R.1 (by omega), am64 R.2.1 (by omega), am64 R.2.2 (by omega),
  am64 U (by omega), am64 V (by omega), am64 W (by omega), am64 (U.sub V) (by omega), am64 ((U.sub V).add W) (by omega), sign_p]
 rfl
end Go.Proofs.Ytlkngfidohiepaa.Rf
end
section
namespace Go.Proofs.Ytlkngfidohiepaa.F
open Go RowKit YtlkngfidohiepaaW.PrintWords Ytlkngfidohiepaa.Pm Ytlkngfidohiepaa.Pd Ytlkngfidohiepaa.Rf
def zelligeref07_InCircle.f (a0_0 a0_1 a1_0 a1_1 a2_0 a2_1 a3_0 a3_1 : Int) : Option Int := if CoP a0_0 a0_1 ∧ CoP a1_0 a1_1 ∧ CoP a2_0 a2_1 ∧ CoP a3_0 a3_1 then some (dt a0_0 a0_1 a1_0 a1_1 a2_0 a2_1 a3_0 a3_1).sign else none
theorem zelligeref07_InCircle.calls (a0_0 a0_1 a1_0 a1_1 a2_0 a2_1 a3_0 a3_1 : Int) (r : Int) (w : World) (h : zelligeref07_InCircle.f a0_0 a0_1 a1_0 a1_1 a2_0 a2_1 a3_0 a3_1 = some r) :
  Calls Try.prog 19 #[.agg #[.int .i64 a0_0, .int .i64 a0_1], .agg #[.int .i64 a1_0, .int .i64 a1_1], .agg #[.int .i64 a2_0, .int .i64 a2_1], .agg #[.int .i64 a3_0, .int .i64 a3_1]] w fun e w' => e = .returned (.int .i64 r) ∧ Below w.heap.size w w' := by
 unfold zelligeref07_InCircle.f at h
 by_cases hh : CoP a0_0 a0_1 ∧ CoP a1_0 a1_1 ∧ CoP a2_0 a2_1 ∧ CoP a3_0 a3_1
 ·rw [if_pos hh] at h
  obtain rfl := Option.some.inj h
  obtain ⟨ha, hb, hc, hd⟩ := hh
  obtain ⟨m1, e1, g1⟩ := near_p ha hd
  obtain ⟨m2, e2, g2⟩ := near_p hb hd
  obtain ⟨m3, e3, g3⟩ := near_p hc hd
  by_cases hm : m1 = true ∧ m2 = true ∧ m3 = true
  ·obtain ⟨rfl, rfl, rfl⟩ := hm
   exact incircle_near ha hb hc hd ⟨e1⟩ ⟨e2⟩ ⟨e3⟩ _ ⟨flat_p (g1 rfl) (g2 rfl) (g3 rfl)⟩ w
  ·exact incircle_walk ha hb hc hd m1 m2 m3 (fun x y z => hm ⟨x, y, z⟩) ⟨e1⟩ ⟨e2⟩ ⟨e3⟩ _ ⟨rfl⟩ w
 ·rw [if_neg hh] at h
  cases h
end Go.Proofs.Ytlkngfidohiepaa.F
end
section
namespace Go.Proofs.Ytlkngfidohiepaa.Rf
open Go RowKit YtlkngfidohiepaaW.PrintWords YtlkngfidohiepaaW.PrintLast YtlkngfidohiepaaW.PrintMore Ytlkngfidohiepaa.F Ytlkngfidohiepaa.Whole Ytlkngfidohiepaa.Pm Ytlkngfidohiepaa.Pd Ytlkngfidohiepaa.Wd
set_option linter.unusedVariables false
set_option linter.unusedSimpArgs false
theorem field_s (q : Int) (v : Value) (W : World) : (Instr.field 42 (.agg #[.int .i64 q, v]) 0).run Try.prog W = .ok (.int .i64 q) W := by kernel_rfl
structure B3 (w : World) (a0 a1 b0 b1 c0 c1 : Int) (W : World) : Prop where
 mk :: (out : Below w.heap.size w W ∧ W.heap[w.heap.size]? = some (.cells #[.int .i64 a0, .int .i64 a1] 23 (0, 0)) ∧ W.heap[w.heap.size + 1]? = some (.cells #[.int .i64 b0, .int .i64 b1] 23 (0, 0)) ∧ W.heap[w.heap.size + 1 + 1]? = some (.cells #[.int .i64 c0, .int .i64 c1] 23 (0, 0)))
section
variable {w W W' : World} {a0 a1 b0 b1 c0 c1 : Int}
theorem B3.below (h : B3 w a0 a1 b0 b1 c0 c1 W) (hb : Below W.heap.size W W') : B3 w a0 a1 b0 b1 c0 c1 W' :=
 ⟨⟨below_step h.out.1 hb, blk_below h.out.2.1 hb, blk_below h.out.2.2.1 hb, blk_below h.out.2.2.2 hb⟩⟩
theorem B3.cells (h : B3 w a0 a1 b0 b1 c0 c1 W) : W.cell? ⟨w.heap.size, 0, none⟩ = some (.int .i64 a0) ∧ W.cell? ⟨w.heap.size, 1, none⟩ = some (.int .i64 a1) ∧ W.cell? ⟨w.heap.size + 1, 0, none⟩ = some (.int .i64 b0) ∧ W.cell? ⟨w.heap.size + 1, 1, none⟩ = some (.int .i64 b1) ∧ W.cell? ⟨w.heap.size + 1 + 1, 0, none⟩ = some (.int .i64 c0) ∧ W.cell? ⟨w.heap.size + 1 + 1, 1, none⟩ = some (.int .i64 c1) :=
 ⟨(blk_cell h.out.2.1 0).trans rfl, (blk_cell h.out.2.1 1).trans rfl, (blk_cell h.out.2.2.1 0).trans rfl, (blk_cell h.out.2.2.1 1).trans rfl, (blk_cell h.out.2.2.2 0).trans rfl, (blk_cell h.out.2.2.2 1).trans rfl⟩
end
set_option maxHeartbeats 8000000 in
set_option maxRecDepth 100000 in
theorem orient_near {a0 a1 b0 b1 c0 c1 : Int} (ha : CoP a0 a1) (hb : CoP b0 b1) (hc : CoP c0 c1) (Nb : Aside0 (zelligeref07_near.f a0 a1 b0 b1 = some true)) (Nc : Aside0 (zelligeref07_near.f a0 a1 c0 c1 = some true))
  (q : Int) (SG : Aside0 (zelligeref07_sign.f (wrap64 (wrap64 (wrap64 (b0 - a0) * wrap64 (c1 - a1)) - wrap64 (wrap64 (b1 - a1) * wrap64 (c0 - a0)))) = some q)) (w : World) :
  Calls Try.prog 12 #[.agg #[.int .i64 a0, .int .i64 a1], .agg #[.int .i64 b0, .int .i64 b1], .agg #[.int .i64 c0, .int .i64 c1]] w fun e w' => e = .returned (.int .i64 q) ∧ Below w.heap.size w w' := by
 have AH := Aside0.mk (And.intro ha (And.intro hb hc))
 clear ha hb hc
 go_enter Try.func12, Try.ntmps12
 go_upto_region 1 with fail
 obtain ⟨n0, n1, n2, bw, nw⟩ := Whole.three_new w (.cells #[.int .i64 a0, .int .i64 a1] 23) (.cells #[.int .i64 b0, .int .i64 b1] 23) (.cells #[.int .i64 c0, .int .i64 c1] 23)
 generalize (((w.alloc (.cells #[.int .i64 a0, .int .i64 a1] 23)).alloc (.cells #[.int .i64 b0, .int .i64 b1] 23)).alloc (.cells #[.int .i64 c0, .int .i64 c1] 23)) = W at n0 n1 n2 bw nw ⊢
 have S := Aside0.mk (B3.mk ⟨bw, n0, n1, n2⟩)
 clear n0 n1 n2 bw nw
 obtain ⟨k0, k1, k2, k3, k4, k5⟩ := S.out.cells
 go_wp2_with (first | (first | (with_reducible go_at_call 21; with_reducible refine (zelligeref07_near.calls a0 a1 b0 b1 _ _ Nb.out).mono ?_; rintro e v1 ⟨rfl, hb⟩; have S := Aside0.mk (S.out.below hb); clear hb k0 k1 k2 k3 k4 k5; obtain ⟨k0, k1, k2, k3, k4, k5⟩ := S.out.cells) | (with_reducible go_at_call 21; with_reducible refine (zelligeref07_near.calls a0 a1 c0 c1 _ _ Nc.out).mono ?_; rintro e v1 ⟨rfl, hb⟩; have S := Aside0.mk (S.out.below hb); clear hb k0 k1 k2 k3 k4 k5; obtain ⟨k0, k1, k2, k3, k4, k5⟩ := S.out.cells)) | (with_reducible go_at_call 22; with_reducible refine (zelligeref07_sign.calls _ _ _ SG.out).mono ?_; rintro e v1 ⟨rfl, hb⟩; have S := Aside0.mk (S.out.below hb.below); clear hb k0 k1 k2 k3 k4 k5; obtain ⟨k0, k1, k2, k3, k4, k5⟩ := S.out.cells))
 go_ret
 exact ⟨rfl, S.out.out.1⟩
set_option maxHeartbeats 8000000 in
set_option maxRecDepth 100000 in
theorem orient_far {a0 a1 b0 b1 c0 c1 : Int} (ha : CoP a0 a1) (hb : CoP b0 b1) (hc : CoP c0 c1) (m1 m2 : Bool) (hm : m1 = true → m2 = true → False) (Nb : Aside0 (zelligeref07_near.f a0 a1 b0 b1 = some m1)) (Nc : Aside0 (zelligeref07_near.f a0 a1 c0 c1 = some m2))
  (q : Int) (hq : Aside0 ((ar a0 a1 b0 b1 c0 c1).sign = q)) (w : World) :
  Calls Try.prog 12 #[.agg #[.int .i64 a0, .int .i64 a1], .agg #[.int .i64 b0, .int .i64 b1], .agg #[.int .i64 c0, .int .i64 c1]] w fun e w' => e = .returned (.int .i64 q) ∧ Below w.heap.size w w' := by
 have AH := Aside0.mk (And.intro ha (And.intro hb hc))
 clear ha hb hc
 go_enter Try.func12, Try.ntmps12
 go_upto_region 1 with fail
 obtain ⟨n0, n1, n2, bw, nw⟩ := Whole.three_new w (.cells #[.int .i64 a0, .int .i64 a1] 23) (.cells #[.int .i64 b0, .int .i64 b1] 23) (.cells #[.int .i64 c0, .int .i64 c1] 23)
 generalize (((w.alloc (.cells #[.int .i64 a0, .int .i64 a1] 23)).alloc (.cells #[.int .i64 b0, .int .i64 b1] 23)).alloc (.cells #[.int .i64 c0, .int .i64 c1] 23)) = W at n0 n1 n2 bw nw ⊢
 have S := Aside0.mk (B3.mk ⟨bw, n0, n1, n2⟩)
 clear n0 n1 n2 bw nw
 obtain ⟨k0, k1, k2, k3, k4, k5⟩ := S.out.cells
 cases m1
 ·go_upto_region 3 with (first | (with_reducible go_at_call 21; with_reducible refine (zelligeref07_near.calls a0 a1 b0 b1 _ _ Nb.out).mono ?_; rintro e v1 ⟨rfl, hb⟩; have S := Aside0.mk (S.out.below hb); clear hb k0 k1 k2 k3 k4 k5; obtain ⟨k0, k1, k2, k3, k4, k5⟩ := S.out.cells) | (with_reducible go_at_call 21; with_reducible refine (zelligeref07_near.calls a0 a1 c0 c1 _ _ Nc.out).mono ?_; rintro e v1 ⟨rfl, hb⟩; have S := Aside0.mk (S.out.below hb); clear hb k0 k1 k2 k3 k4 k5; obtain ⟨k0, k1, k2, k3, k4, k5⟩ := S.out.cells))
  clear k0 k1 k2 k3 k4 k5 Nb Nc hm
  have n0 := S.out.out.2.1; have n1 := S.out.out.2.2.1; have n2 := S.out.out.2.2.2
  obtain ⟨k0, k1, k2, k3, k4, k5⟩ := S.out.cells
  go_wp2_with fail
  obtain ⟨ha, hb, hc⟩ := AH.out
  refine (area_c ha hb hc _).mono ?_
  rintro e w1 ⟨v, rfl, hN, hb⟩
  obtain ⟨A1, l1, c1', rfl, _⟩ := hN
  rw [hq.out]
  have S := Aside0.mk (S.out.below hb)
  clear hb
  have hf := field_s q (.slice A1 l1 c1')
  go_wp2
  go_ret
  exact ⟨rfl, S.out.out.1⟩
 cases m2
 ·go_upto_region 3 with (first | (with_reducible go_at_call 21; with_reducible refine (zelligeref07_near.calls a0 a1 b0 b1 _ _ Nb.out).mono ?_; rintro e v1 ⟨rfl, hb⟩; have S := Aside0.mk (S.out.below hb); clear hb k0 k1 k2 k3 k4 k5; obtain ⟨k0, k1, k2, k3, k4, k5⟩ := S.out.cells) | (with_reducible go_at_call 21; with_reducible refine (zelligeref07_near.calls a0 a1 c0 c1 _ _ Nc.out).mono ?_; rintro e v1 ⟨rfl, hb⟩; have S := Aside0.mk (S.out.below hb); clear hb k0 k1 k2 k3 k4 k5; obtain ⟨k0, k1, k2, k3, k4, k5⟩ := S.out.cells))
  clear k0 k1 k2 k3 k4 k5 Nb Nc hm
  obtain ⟨k0, k1, k2, k3, k4, k5⟩ := S.out.cells
  go_wp2_with fail
  obtain ⟨ha, hb, hc⟩ := AH.out
  refine (area_c ha hb hc _).mono ?_
  rintro e w1 ⟨v, rfl, hN, hb⟩
  obtain ⟨A1, l1, c1', rfl, _⟩ := hN
  rw [hq.out]
  have S := Aside0.mk (S.out.below hb)
  clear hb
  have hf := field_s q (.slice A1 l1 c1')
  go_wp2
  go_ret
  exact ⟨rfl, S.out.out.1⟩
 exact (hm rfl rfl).elim
end Go.Proofs.Ytlkngfidohiepaa.Rf
namespace Go.Proofs.Ytlkngfidohiepaa.F
open Go RowKit YtlkngfidohiepaaW.PrintWords Ytlkngfidohiepaa.Pm Ytlkngfidohiepaa.Pd Ytlkngfidohiepaa.Rf
def zelligeref07_Orient.f (a0_0 a0_1 a1_0 a1_1 a2_0 a2_1 : Int) : Option Int := if CoP a0_0 a0_1 ∧ CoP a1_0 a1_1 ∧ CoP a2_0 a2_1 then some (ar a0_0 a0_1 a1_0 a1_1 a2_0 a2_1).sign else none
theorem zelligeref07_Orient.calls (a0_0 a0_1 a1_0 a1_1 a2_0 a2_1 : Int) (r : Int) (w : World) (h : zelligeref07_Orient.f a0_0 a0_1 a1_0 a1_1 a2_0 a2_1 = some r) :
  Calls Try.prog 12 #[.agg #[.int .i64 a0_0, .int .i64 a0_1], .agg #[.int .i64 a1_0, .int .i64 a1_1], .agg #[.int .i64 a2_0, .int .i64 a2_1]] w fun e w' => e = .returned (.int .i64 r) ∧ Below w.heap.size w w' := by
 unfold zelligeref07_Orient.f at h
 by_cases hh : CoP a0_0 a0_1 ∧ CoP a1_0 a1_1 ∧ CoP a2_0 a2_1
 ·rw [if_pos hh] at h
  obtain rfl := Option.some.inj h
  obtain ⟨ha, hb, hc⟩ := hh
  obtain ⟨m1, e1, g1⟩ := near_p ha hb
  obtain ⟨m2, e2, g2⟩ := near_p ha hc
  by_cases hm : m1 = true ∧ m2 = true
  ·obtain ⟨rfl, rfl⟩ := hm
   have u := g1 rfl; have v := g2 rfl
   have P := cr_am u.1 u.2 v.1 v.2
   refine orient_near ha hb hc ⟨e1⟩ ⟨e2⟩ _ ⟨?_⟩ w
   rw [am64 u.1 (by omega), am64 u.2 (by omega), am64 v.1 (by omega), am64 v.2 (by omega), am64 P.1 (by omega), am64 P.2.1 (by omega), am64 P.2.2 (by omega), sign_p]
   rfl
  ·exact orient_far ha hb hc m1 m2 (fun x y => hm ⟨x, y⟩) ⟨e1⟩ ⟨e2⟩ _ ⟨rfl⟩ w
 ·rw [if_neg hh] at h
  cases h
end Go.Proofs.Ytlkngfidohiepaa.F
end
section
namespace Go.Proofs.Ytlkngfidohiepaa.F
open RowKit YtlkngfidohiepaaW.PrintWords YtlkngfidohiepaaW.PrintLast YtlkngfidohiepaaW.PrintMore
set_option linter.unusedVariables false
set_option linter.unusedSimpArgs false
attribute [local go_sem high] eqA23
def zelligeref08_Conflict.j0 : Nat → Bool → Int → Int → Int → Int → Int → Int → Int → Int → Option (Bool)
 | 0, _, _, _, _, _, _, _, _, _ => none
 | k + 1, x37, x511000, x511001, x512000, x512001, x513000, x513001, x514000, x514001 => if x37 = true then (some false) else ((zelligeref07_InCircle.f x511000 x511001 x512000 x512001 x513000 x513001 x514000 x514001).bind fun t516 => (if t516 = 0 then ((zelligeref08_last.f k x514000 x514001 x511000 x511001 x512000 x512001 x513000 x513001).bind fun t517 => (if t517 = true then (some false) else ((zelligeref08_last.f k x513000 x513001 x511000 x511001 x512000 x512001 x514000 x514001).bind fun t518 => (if t518 = true then ((zelligeref07_Orient.f x511000 x511001 x512000 x512001 x514000 x514001).bind fun t519 => (some (t519 == 1))) else ((zelligeref08_last.f k x512000 x512001 x511000 x511001 x513000 x513001 x514000 x514001).bind fun t520 => (if t520 = true then ((zelligeref07_Orient.f x511000 x511001 x514000 x514001 x513000 x513001).bind fun t521 => (some (t521 == 1))) else ((zelligeref07_Orient.f x514000 x514001 x512000 x512001 x513000 x513001).bind fun t522 => (some (t522 == 1))))))))) else (some (decide (t516 > 0)))))
def zelligeref08_Conflict.f (k : Nat) (a0_0 : Int) (a0_1 : Int) (a1_0 : Int) (a1_1 : Int) (a2_0 : Int) (a2_1 : Int) (a3_0 : Int) (a3_1 : Int) : Option (Bool) := (zelligeref08_Can.f a0_0 a0_1 a1_0 a1_1 a2_0 a2_1 a3_0 a3_1).bind fun t514 => (if t514 = true then ((zelligeref07_Orient.f a0_0 a0_1 a1_0 a1_1 a2_0 a2_1).bind fun t515 => (if t515 = 1 then (if (a3_0 == a0_0 && (a3_1 == a0_1)) = true then (zelligeref08_Conflict.j0 k true a0_0 a0_1 a1_0 a1_1 a2_0 a2_1 a3_0 a3_1) else (if (a3_0 == a1_0 && (a3_1 == a1_1)) = true then (zelligeref08_Conflict.j0 k true a0_0 a0_1 a1_0 a1_1 a2_0 a2_1 a3_0 a3_1) else (zelligeref08_Conflict.j0 k (a3_0 == a2_0 && (a3_1 == a2_1)) a0_0 a0_1 a1_0 a1_1 a2_0 a2_1 a3_0 a3_1))) else (zelligeref08_Conflict.j0 k true a0_0 a0_1 a1_0 a1_1 a2_0 a2_1 a3_0 a3_1))) else (zelligeref08_Conflict.j0 k true a0_0 a0_1 a1_0 a1_1 a2_0 a2_1 a3_0 a3_1))
theorem zelligeref08_Conflict.mono_l : ∀ k, (∀ y0 y1 y2 y3 y4 y5 y6 y7 y8, LeO (zelligeref08_Conflict.j0 k y0 y1 y2 y3 y4 y5 y6 y7 y8) (zelligeref08_Conflict.j0 (k + 1) y0 y1 y2 y3 y4 y5 y6 y7 y8))
 | 0 => fun _ _ _ _ _ _ _ _ _ r h => by simp [zelligeref08_Conflict.j0] at h
 | k + 1 => by
  have ih0 := zelligeref08_Conflict.mono_l k
  ·intro y0 y1 y2 y3 y4 y5 y6 y7 y8
   unfold zelligeref08_Conflict.j0
   repeat' first
   | (with_reducible exact ih0 _ _ _ _ _ _ _ _ _)
   | (with_reducible exact zelligeref08_last.mono _ _ _ _ _ _ _ _ _)
   | (with_reducible exact LeO.refl _)
   | (with_reducible exact LeO.none _)
   | (with_reducible refine LeO.ite ?_ ?_)
   | (with_reducible refine LeO.bind ?_ (fun _ => ?_))
   | exact ih0 _ _ _ _ _ _ _ _ _
   | exact zelligeref08_last.mono _ _ _ _ _ _ _ _ _
   | exact LeO.none _
   | refine LeO.ite ?_ ?_
   | refine LeO.bind ?_ (fun _ => ?_)
theorem zelligeref08_Conflict.mono : ∀ a0 a1 a2 a3 a4 a5 a6 a7 k, LeO (zelligeref08_Conflict.f k a0 a1 a2 a3 a4 a5 a6 a7) (zelligeref08_Conflict.f (k + 1) a0 a1 a2 a3 a4 a5 a6 a7) := by
 intro a0 a1 a2 a3 a4 a5 a6 a7 k
 have ih0 := zelligeref08_Conflict.mono_l k
 unfold zelligeref08_Conflict.f
 repeat' first
   | (with_reducible exact ih0 _ _ _ _ _ _ _ _ _)
   | (with_reducible exact zelligeref08_last.mono _ _ _ _ _ _ _ _ _)
   | (with_reducible exact LeO.refl _)
   | (with_reducible exact LeO.none _)
   | (with_reducible refine LeO.ite ?_ ?_)
   | (with_reducible refine LeO.bind ?_ (fun _ => ?_))
   | exact ih0 _ _ _ _ _ _ _ _ _
   | exact zelligeref08_last.mono _ _ _ _ _ _ _ _ _
   | exact LeO.none _
   | refine LeO.ite ?_ ?_
   | refine LeO.bind ?_ (fun _ => ?_)
set_option maxHeartbeats 8000000 in
set_option maxRecDepth 100000 in
theorem zelligeref08_Conflict.calls (k : Nat) (a0_0 : Int) (a0_1 : Int) (a1_0 : Int) (a1_1 : Int) (a2_0 : Int) (a2_1 : Int) (a3_0 : Int) (a3_1 : Int) (r : Bool) (w : World) (h : zelligeref08_Conflict.f k a0_0 a0_1 a1_0 a1_1 a2_0 a2_1 a3_0 a3_1 = some r) :
  Calls Try.prog 9 #[.agg #[.int .i64 a0_0, .int .i64 a0_1], .agg #[.int .i64 a1_0, .int .i64 a1_1], .agg #[.int .i64 a2_0, .int .i64 a2_1], .agg #[.int .i64 a3_0, .int .i64 a3_1]] w fun e w' => e = .returned (.bool r) ∧ Below w.heap.size w w' := by
 have hu23 := Try.underlying23
 have HB := Aside0.mk (Below.refl w.heap.size w)
 have H : ((zelligeref08_Can.f a0_0 a0_1 a1_0 a1_1 a2_0 a2_1 a3_0 a3_1).bind fun t514 => (if t514 = true then ((zelligeref07_Orient.f a0_0 a0_1 a1_0 a1_1 a2_0 a2_1).bind fun t515 => (if t515 = 1 then (if (a3_0 == a0_0 && (a3_1 == a0_1)) = true then (zelligeref08_Conflict.j0 k true a0_0 a0_1 a1_0 a1_1 a2_0 a2_1 a3_0 a3_1) else (if (a3_0 == a1_0 && (a3_1 == a1_1)) = true then (zelligeref08_Conflict.j0 k true a0_0 a0_1 a1_0 a1_1 a2_0 a2_1 a3_0 a3_1) else (zelligeref08_Conflict.j0 k (a3_0 == a2_0 && (a3_1 == a2_1)) a0_0 a0_1 a1_0 a1_1 a2_0 a2_1 a3_0 a3_1))) else (zelligeref08_Conflict.j0 k true a0_0 a0_1 a1_0 a1_1 a2_0 a2_1 a3_0 a3_1))) else (zelligeref08_Conflict.j0 k true a0_0 a0_1 a1_0 a1_1 a2_0 a2_1 a3_0 a3_1))) = some r := h
 clear h
 have HC5 := Aside0.mk H
 clear H
 go_enter Try.func9, Try.ntmps9
 go_upto_region 1 with (first | ((with_reducible refine gate_dst (N := 4) rfl ?_); refine bx 4 #[.int .i64 a0_0, .int .i64 a0_1] 23 ?_; intro gb510 hg w6 hbox hb; have BK510 := Aside0.mk hbox; have GW510 := u3 hg HB; have GE510 := u3 hg HB; replace HB := u2 HB hb; clear hb hbox hg) | ((with_reducible refine gate_dst (N := 5) rfl ?_); refine bx 5 #[.int .i64 a1_0, .int .i64 a1_1] 23 ?_; intro gb511 hg w7 hbox hb; have BK511 := Aside0.mk hbox; have GW511 := u3 hg HB; have GE511 := u3 hg HB; have NB510_511 := u4 hg BK510; have NB511_510 := u5 hg BK510; replace BK510 := u1 BK510 hb; replace HB := u2 HB hb; clear hb hbox hg) | ((with_reducible refine gate_dst (N := 6) rfl ?_); refine bx 6 #[.int .i64 a2_0, .int .i64 a2_1] 23 ?_; intro gb512 hg w8 hbox hb; have BK512 := Aside0.mk hbox; have GW512 := u3 hg HB; have GE512 := u3 hg HB; have NB510_512 := u4 hg BK510; have NB512_510 := u5 hg BK510; have NB511_512 := u4 hg BK511; have NB512_511 := u5 hg BK511; replace BK510 := u1 BK510 hb; replace BK511 := u1 BK511 hb; replace HB := u2 HB hb; clear hb hbox hg) | ((with_reducible refine gate_dst (N := 7) rfl ?_); refine bx 7 #[.int .i64 a3_0, .int .i64 a3_1] 23 ?_; intro gb513 hg w9 hbox hb; have BK513 := Aside0.mk hbox; have GW513 := u3 hg HB; have GE513 := u3 hg HB; have NB510_513 := u4 hg BK510; have NB513_510 := u5 hg BK510; have NB511_513 := u4 hg BK511; have NB513_511 := u5 hg BK511; have NB512_513 := u4 hg BK512; have NB513_512 := u5 hg BK512; replace BK510 := u1 BK510 hb; replace BK511 := u1 BK511 hb; replace BK512 := u1 BK512 hb; replace HB := u2 HB hb; clear hb hbox hg))
 (try simp only [Act.put, List.setIfInBounds_toArray, List.set_cons_zero, List.set_cons_succ])
 go_cut [37] (fun v37 wc => ∃ (kq : Nat) (x37_4 : Bool), v37 = .bool x37_4 ∧ Aside0 (zelligeref08_Conflict.j0 kq x37_4 a0_0 a0_1 a1_0 a1_1 a2_0 a2_1 a3_0 a3_1 = some r) ∧ Aside0 (kq ≤ k) ∧ Aside0 (wc.heap[gb510]? = some (.cells #[.int .i64 a0_0, .int .i64 a0_1] 23 (0, 0))) ∧ Aside0 (wc.heap[gb511]? = some (.cells #[.int .i64 a1_0, .int .i64 a1_1] 23 (0, 0))) ∧ Aside0 (wc.heap[gb512]? = some (.cells #[.int .i64 a2_0, .int .i64 a2_1] 23 (0, 0))) ∧ Aside0 (wc.heap[gb513]? = some (.cells #[.int .i64 a3_0, .int .i64 a3_1] 23 (0, 0))) ∧ Aside0 (Below w.heap.size w wc))
 case first =>
  have H := HC5.out
  clear HC5
  replace H := Option.bind_eq_some_iff.mp H
  obtain ⟨t514, A100, H⟩ := H
  try dsimp only at H
  have A10 := Aside0.mk A100
  clear A100
  by_cases c11 : t514 = true
  ·subst c11
   rw [if_pos rfl] at H
   replace H := Option.bind_eq_some_iff.mp H
   obtain ⟨t515, A120, H⟩ := H
   try dsimp only at H
   have A12 := Aside0.mk A120
   clear A120
   by_cases c13 : t515 = 1
   ·rw [if_pos c13] at H
    have c13b0 : (t515 == 1) = true := beq_iff_eq.mpr c13
    have c13b1 : (t515 != 1) = false := bne_eq_false_iff_eq.mpr c13
    clear c13
    (first | rw [c13b0] | (simp only [i64_w, i32_w]; rw [c13b0]) | skip)
    by_cases c14 : (a3_0 == a0_0 && (a3_1 == a0_1)) = true
    ·rw [if_pos c14] at H
     have c14b0 : (a3_0 == a0_0 && (a3_1 == a0_1)) = true := c14
     (try (have c14b1 : decide (a3_0 = a0_0 && (a3_1 == a0_1)) = true := by simpa using c14))
     (try (have c14b2 : (a3_0 == a0_0 && (a3_1 == a0_1)) = true := by simpa using c14))
     clear c14
     have H' := Aside0.mk H
     clear H
     have hnb15 := NB510_511.out
     have hnc15 := NB511_510.out
     have hnb16 := NB510_512.out
     have hnc16 := NB512_510.out
     have hnb17 := NB510_513.out
     have hnc17 := NB513_510.out
     obtain ⟨hcz18_0, hcz18_1, hfz18_0, hfz18_1⟩ := p2 BK510
     have hnb19 := NB511_512.out
     have hnc19 := NB512_511.out
     have hnb20 := NB511_513.out
     have hnc20 := NB513_511.out
     obtain ⟨hcz21_0, hcz21_1, hfz21_0, hfz21_1⟩ := p2 BK511
     have hnb22 := NB512_513.out
     have hnc22 := NB513_512.out
     obtain ⟨hcz23_0, hcz23_1, hfz23_0, hfz23_1⟩ := p2 BK512
     obtain ⟨hcz24_0, hcz24_1, hfz24_0, hfz24_1⟩ := p2 BK513
     go_wp2_with (first | ((with_reducible refine gate_callee (f := 11) rfl ?_); refine gL (some 14) Try.func11 #[.agg #[.int .i64 a0_0, .int .i64 a0_1], .agg #[.int .i64 a1_0, .int .i64 a1_1], .agg #[.int .i64 a2_0, .int .i64 a2_1], .agg #[.int .i64 a3_0, .int .i64 a3_1]] rfl ?_; (with_reducible refine (zelligeref08_Can.calls a0_0 a0_1 a1_0 a1_1 a2_0 a2_1 a3_0 a3_1 true _ A10.out).mono ?_); rintro e w25 ⟨rfl, hb⟩; refine ⟨_, rfl, ?_⟩; replace BK510 := u1 BK510 hb; replace BK511 := u1 BK511 hb; replace BK512 := u1 BK512 hb; replace BK513 := u1 BK513 hb; replace HB := u2 HB hb; clear hb; obtain ⟨hcz26_0, hcz26_1, hfz26_0, hfz26_1⟩ := p2 BK510; obtain ⟨hcz27_0, hcz27_1, hfz27_0, hfz27_1⟩ := p2 BK511; obtain ⟨hcz28_0, hcz28_1, hfz28_0, hfz28_1⟩ := p2 BK512) | (go_at_call 12; (with_reducible refine (zelligeref07_Orient.calls a0_0 a0_1 a1_0 a1_1 a2_0 a2_1 t515 _ A12.out).mono ?_); rintro e w29 ⟨rfl, hb⟩; replace BK510 := u1 BK510 hb; replace BK511 := u1 BK511 hb; replace BK512 := u1 BK512 hb; replace BK513 := u1 BK513 hb; replace HB := u2 HB hb; clear hb; obtain ⟨hcz30_0, hcz30_1, hfz30_0, hfz30_1⟩ := p2 BK513; obtain ⟨hcz31_0, hcz31_1, hfz31_0, hfz31_1⟩ := p2 BK510))
     go_meet
     case rel => exact ⟨_, (true), (by first | rfl | (simp; done) | (simp [*]; done)), H', ⟨by first | omega | exact Nat.le_refl _⟩, ⟨bk BK510.out⟩, ⟨bk BK511.out⟩, ⟨bk BK512.out⟩, ⟨bk BK513.out⟩, ⟨bw HB.out⟩⟩
    ·rw [if_neg c14] at H
     have c14b0 : (a3_0 == a0_0 && (a3_1 == a0_1)) = false := by simpa using c14
     (try (have c14b1 : decide (a3_0 = a0_0 && (a3_1 == a0_1)) = false := by simpa using c14))
     (try (have c14b2 : (a3_0 == a0_0 && (a3_1 == a0_1)) = false := by simpa using c14))
     (try (have c14b3 : ¬ (a3_0 = a0_0 && (a3_1 == a0_1)) := by simpa using c14))
     clear c14
     by_cases c32 : (a3_0 == a1_0 && (a3_1 == a1_1)) = true
     ·rw [if_pos c32] at H
      have c32b0 : (a3_0 == a1_0 && (a3_1 == a1_1)) = true := c32
      (try (have c32b1 : decide (a3_0 = a1_0 && (a3_1 == a1_1)) = true := by simpa using c32))
      (try (have c32b2 : (a3_0 == a1_0 && (a3_1 == a1_1)) = true := by simpa using c32))
      clear c32
      have H' := Aside0.mk H
      clear H
      have hnb33 := NB510_511.out
      have hnc33 := NB511_510.out
      have hnb34 := NB510_512.out
      have hnc34 := NB512_510.out
      have hnb35 := NB510_513.out
      have hnc35 := NB513_510.out
      obtain ⟨hcz36_0, hcz36_1, hfz36_0, hfz36_1⟩ := p2 BK510
      have hnb37 := NB511_512.out
      have hnc37 := NB512_511.out
      have hnb38 := NB511_513.out
      have hnc38 := NB513_511.out
      obtain ⟨hcz39_0, hcz39_1, hfz39_0, hfz39_1⟩ := p2 BK511
      have hnb40 := NB512_513.out
      have hnc40 := NB513_512.out
      obtain ⟨hcz41_0, hcz41_1, hfz41_0, hfz41_1⟩ := p2 BK512
      obtain ⟨hcz42_0, hcz42_1, hfz42_0, hfz42_1⟩ := p2 BK513
      go_wp2_with (first | ((with_reducible refine gate_callee (f := 11) rfl ?_); refine gL (some 14) Try.func11 #[.agg #[.int .i64 a0_0, .int .i64 a0_1], .agg #[.int .i64 a1_0, .int .i64 a1_1], .agg #[.int .i64 a2_0, .int .i64 a2_1], .agg #[.int .i64 a3_0, .int .i64 a3_1]] rfl ?_; (with_reducible refine (zelligeref08_Can.calls a0_0 a0_1 a1_0 a1_1 a2_0 a2_1 a3_0 a3_1 true _ A10.out).mono ?_); rintro e w43 ⟨rfl, hb⟩; refine ⟨_, rfl, ?_⟩; replace BK510 := u1 BK510 hb; replace BK511 := u1 BK511 hb; replace BK512 := u1 BK512 hb; replace BK513 := u1 BK513 hb; replace HB := u2 HB hb; clear hb; obtain ⟨hcz44_0, hcz44_1, hfz44_0, hfz44_1⟩ := p2 BK510; obtain ⟨hcz45_0, hcz45_1, hfz45_0, hfz45_1⟩ := p2 BK511; obtain ⟨hcz46_0, hcz46_1, hfz46_0, hfz46_1⟩ := p2 BK512) | (go_at_call 12; (with_reducible refine (zelligeref07_Orient.calls a0_0 a0_1 a1_0 a1_1 a2_0 a2_1 t515 _ A12.out).mono ?_); rintro e w47 ⟨rfl, hb⟩; replace BK510 := u1 BK510 hb; replace BK511 := u1 BK511 hb; replace BK512 := u1 BK512 hb; replace BK513 := u1 BK513 hb; replace HB := u2 HB hb; clear hb; obtain ⟨hcz48_0, hcz48_1, hfz48_0, hfz48_1⟩ := p2 BK513; obtain ⟨hcz49_0, hcz49_1, hfz49_0, hfz49_1⟩ := p2 BK510; obtain ⟨hcz50_0, hcz50_1, hfz50_0, hfz50_1⟩ := p2 BK511))
      go_meet
      case rel => exact ⟨_, (true), (by first | rfl | (simp; done) | (simp [*]; done)), H', ⟨by first | omega | exact Nat.le_refl _⟩, ⟨bk BK510.out⟩, ⟨bk BK511.out⟩, ⟨bk BK512.out⟩, ⟨bk BK513.out⟩, ⟨bw HB.out⟩⟩
     ·rw [if_neg c32] at H
      have c32b0 : (a3_0 == a1_0 && (a3_1 == a1_1)) = false := by simpa using c32
      (try (have c32b1 : decide (a3_0 = a1_0 && (a3_1 == a1_1)) = false := by simpa using c32))
      (try (have c32b2 : (a3_0 == a1_0 && (a3_1 == a1_1)) = false := by simpa using c32))
      (try (have c32b3 : ¬ (a3_0 = a1_0 && (a3_1 == a1_1)) := by simpa using c32))
      clear c32
      have H' := Aside0.mk H
      clear H
      have hnb51 := NB510_511.out
      have hnc51 := NB511_510.out
      have hnb52 := NB510_512.out
      have hnc52 := NB512_510.out
      have hnb53 := NB510_513.out
      have hnc53 := NB513_510.out
      obtain ⟨hcz54_0, hcz54_1, hfz54_0, hfz54_1⟩ := p2 BK510
      have hnb55 := NB511_512.out
      have hnc55 := NB512_511.out
      have hnb56 := NB511_513.out
      have hnc56 := NB513_511.out
      obtain ⟨hcz57_0, hcz57_1, hfz57_0, hfz57_1⟩ := p2 BK511
      have hnb58 := NB512_513.out
      have hnc58 := NB513_512.out
      obtain ⟨hcz59_0, hcz59_1, hfz59_0, hfz59_1⟩ := p2 BK512
      obtain ⟨hcz60_0, hcz60_1, hfz60_0, hfz60_1⟩ := p2 BK513
      go_wp2_with (first | ((with_reducible refine gate_callee (f := 11) rfl ?_); refine gL (some 14) Try.func11 #[.agg #[.int .i64 a0_0, .int .i64 a0_1], .agg #[.int .i64 a1_0, .int .i64 a1_1], .agg #[.int .i64 a2_0, .int .i64 a2_1], .agg #[.int .i64 a3_0, .int .i64 a3_1]] rfl ?_; (with_reducible refine (zelligeref08_Can.calls a0_0 a0_1 a1_0 a1_1 a2_0 a2_1 a3_0 a3_1 true _ A10.out).mono ?_); rintro e w61 ⟨rfl, hb⟩; refine ⟨_, rfl, ?_⟩; replace BK510 := u1 BK510 hb; replace BK511 := u1 BK511 hb; replace BK512 := u1 BK512 hb; replace BK513 := u1 BK513 hb; replace HB := u2 HB hb; clear hb; obtain ⟨hcz62_0, hcz62_1, hfz62_0, hfz62_1⟩ := p2 BK510; obtain ⟨hcz63_0, hcz63_1, hfz63_0, hfz63_1⟩ := p2 BK511; obtain ⟨hcz64_0, hcz64_1, hfz64_0, hfz64_1⟩ := p2 BK512) | (go_at_call 12; (with_reducible refine (zelligeref07_Orient.calls a0_0 a0_1 a1_0 a1_1 a2_0 a2_1 t515 _ A12.out).mono ?_); rintro e w65 ⟨rfl, hb⟩; replace BK510 := u1 BK510 hb; replace BK511 := u1 BK511 hb; replace BK512 := u1 BK512 hb; replace BK513 := u1 BK513 hb; replace HB := u2 HB hb; clear hb; obtain ⟨hcz66_0, hcz66_1, hfz66_0, hfz66_1⟩ := p2 BK513; obtain ⟨hcz67_0, hcz67_1, hfz67_0, hfz67_1⟩ := p2 BK510; obtain ⟨hcz68_0, hcz68_1, hfz68_0, hfz68_1⟩ := p2 BK511; obtain ⟨hcz69_0, hcz69_1, hfz69_0, hfz69_1⟩ := p2 BK512))
      go_meet
      case rel => exact ⟨_, ((a3_0 == a2_0 && (a3_1 == a2_1))), (by first | rfl | (simp; done) | (simp [*]; done)), H', ⟨by first | omega | exact Nat.le_refl _⟩, ⟨bk BK510.out⟩, ⟨bk BK511.out⟩, ⟨bk BK512.out⟩, ⟨bk BK513.out⟩, ⟨bw HB.out⟩⟩
   ·rw [if_neg c13] at H
    have c13b0 : (t515 == 1) = false := beq_eq_false_iff_ne.mpr c13
    have c13b1 : (t515 != 1) = true := bne_iff_ne.mpr c13
    (first | rw [c13b0] | (simp only [i64_w, i32_w]; rw [c13b0]) | skip)
    have H' := Aside0.mk H
    clear H
    have hnb70 := NB510_511.out
    have hnc70 := NB511_510.out
    have hnb71 := NB510_512.out
    have hnc71 := NB512_510.out
    have hnb72 := NB510_513.out
    have hnc72 := NB513_510.out
    obtain ⟨hcz73_0, hcz73_1, hfz73_0, hfz73_1⟩ := p2 BK510
    have hnb74 := NB511_512.out
    have hnc74 := NB512_511.out
    have hnb75 := NB511_513.out
    have hnc75 := NB513_511.out
    obtain ⟨hcz76_0, hcz76_1, hfz76_0, hfz76_1⟩ := p2 BK511
    have hnb77 := NB512_513.out
    have hnc77 := NB513_512.out
    obtain ⟨hcz78_0, hcz78_1, hfz78_0, hfz78_1⟩ := p2 BK512
    obtain ⟨hcz79_0, hcz79_1, hfz79_0, hfz79_1⟩ := p2 BK513
    go_wp2_with (first | ((with_reducible refine gate_callee (f := 11) rfl ?_); refine gL (some 14) Try.func11 #[.agg #[.int .i64 a0_0, .int .i64 a0_1], .agg #[.int .i64 a1_0, .int .i64 a1_1], .agg #[.int .i64 a2_0, .int .i64 a2_1], .agg #[.int .i64 a3_0, .int .i64 a3_1]] rfl ?_; (with_reducible refine (zelligeref08_Can.calls a0_0 a0_1 a1_0 a1_1 a2_0 a2_1 a3_0 a3_1 true _ A10.out).mono ?_); rintro e w80 ⟨rfl, hb⟩; refine ⟨_, rfl, ?_⟩; replace BK510 := u1 BK510 hb; replace BK511 := u1 BK511 hb; replace BK512 := u1 BK512 hb; replace BK513 := u1 BK513 hb; replace HB := u2 HB hb; clear hb; obtain ⟨hcz81_0, hcz81_1, hfz81_0, hfz81_1⟩ := p2 BK510; obtain ⟨hcz82_0, hcz82_1, hfz82_0, hfz82_1⟩ := p2 BK511; obtain ⟨hcz83_0, hcz83_1, hfz83_0, hfz83_1⟩ := p2 BK512) | (go_at_call 12; (with_reducible refine (zelligeref07_Orient.calls a0_0 a0_1 a1_0 a1_1 a2_0 a2_1 t515 _ A12.out).mono ?_); rintro e w84 ⟨rfl, hb⟩; replace BK510 := u1 BK510 hb; replace BK511 := u1 BK511 hb; replace BK512 := u1 BK512 hb; replace BK513 := u1 BK513 hb; replace HB := u2 HB hb; clear hb))
    go_meet
    case rel => exact ⟨_, (true), (by first | rfl | (simp; done) | (simp [*]; done)), H', ⟨by first | omega | exact Nat.le_refl _⟩, ⟨bk BK510.out⟩, ⟨bk BK511.out⟩, ⟨bk BK512.out⟩, ⟨bk BK513.out⟩, ⟨bw HB.out⟩⟩
  ·replace c11 := Bool.eq_false_iff.mpr c11
   subst c11
   rw [if_neg (show ¬ (false = true) by decide)] at H
   have H' := Aside0.mk H
   clear H
   have hnb85 := NB510_511.out
   have hnc85 := NB511_510.out
   have hnb86 := NB510_512.out
   have hnc86 := NB512_510.out
   have hnb87 := NB510_513.out
   have hnc87 := NB513_510.out
   obtain ⟨hcz88_0, hcz88_1, hfz88_0, hfz88_1⟩ := p2 BK510
   have hnb89 := NB511_512.out
   have hnc89 := NB512_511.out
   have hnb90 := NB511_513.out
   have hnc90 := NB513_511.out
   obtain ⟨hcz91_0, hcz91_1, hfz91_0, hfz91_1⟩ := p2 BK511
   have hnb92 := NB512_513.out
   have hnc92 := NB513_512.out
   obtain ⟨hcz93_0, hcz93_1, hfz93_0, hfz93_1⟩ := p2 BK512
   obtain ⟨hcz94_0, hcz94_1, hfz94_0, hfz94_1⟩ := p2 BK513
   go_wp2_with (first | ((with_reducible refine gate_callee (f := 11) rfl ?_); refine gL (some 14) Try.func11 #[.agg #[.int .i64 a0_0, .int .i64 a0_1], .agg #[.int .i64 a1_0, .int .i64 a1_1], .agg #[.int .i64 a2_0, .int .i64 a2_1], .agg #[.int .i64 a3_0, .int .i64 a3_1]] rfl ?_; (with_reducible refine (zelligeref08_Can.calls a0_0 a0_1 a1_0 a1_1 a2_0 a2_1 a3_0 a3_1 false _ A10.out).mono ?_); rintro e w95 ⟨rfl, hb⟩; refine ⟨_, rfl, ?_⟩; replace BK510 := u1 BK510 hb; replace BK511 := u1 BK511 hb; replace BK512 := u1 BK512 hb; replace BK513 := u1 BK513 hb; replace HB := u2 HB hb; clear hb))
   go_meet
   case rel => exact ⟨_, (true), (by first | rfl | (simp; done) | (simp [*]; done)), H', ⟨by first | omega | exact Nat.le_refl _⟩, ⟨bk BK510.out⟩, ⟨bk BK511.out⟩, ⟨bk BK512.out⟩, ⟨bk BK513.out⟩, ⟨bw HB.out⟩⟩
 case rest =>
  clear HC5
  try clear c1
  try clear c2
  try clear p2
  try clear c3
  try clear c4
  try clear c5
  try clear c7
  try clear c8
  try clear c9
  try clear c11
  try clear c13
  try clear c13b0
  try clear c13b1
  try clear c14
  try clear c14b0
  try clear c14b1
  try clear c14b2
  try clear c15
  try clear c16
  try clear c17
  try clear c19
  try clear c20
  try clear c22
  try clear c32
  try clear c32b0
  try clear c32b1
  try clear c32b2
  try clear c33
  try clear c34
  try clear c35
  try clear c37
  try clear c38
  try clear c40
  try clear c51
  try clear c52
  try clear c53
  try clear c55
  try clear c56
  try clear c58
  try clear c70
  try clear c71
  try clear c72
  try clear c74
  try clear c75
  try clear c77
  try clear c85
  try clear c86
  try clear c87
  try clear c89
  try clear c90
  try clear c92
  try clear hcz18_0
  try clear hcz18_1
  try clear hcz21_0
  try clear hcz21_1
  try clear hcz23_0
  try clear hcz23_1
  try clear hcz24_0
  try clear hcz24_1
  try clear hcz26_0
  try clear hcz26_1
  try clear hcz27_0
  try clear hcz27_1
  try clear hcz28_0
  try clear hcz28_1
  try clear hcz30_0
  try clear hcz30_1
  try clear hcz31_0
  try clear hcz31_1
  try clear hcz36_0
  try clear hcz36_1
  try clear hcz39_0
  try clear hcz39_1
  try clear hcz41_0
  try clear hcz41_1
  try clear hcz42_0
  try clear hcz42_1
  try clear hcz44_0
  try clear hcz44_1
  try clear hcz45_0
  try clear hcz45_1
  try clear hcz46_0
  try clear hcz46_1
  try clear hcz48_0
  try clear hcz48_1
  try clear hcz49_0
  try clear hcz49_1
  try clear hcz50_0
  try clear hcz50_1
  try clear hcz54_0
  try clear hcz54_1
  try clear hcz57_0
  try clear hcz57_1
  try clear hcz59_0
  try clear hcz59_1
  try clear hcz60_0
  try clear hcz60_1
  try clear hcz62_0
  try clear hcz62_1
  try clear hcz63_0
  try clear hcz63_1
  try clear hcz64_0
  try clear hcz64_1
  try clear hcz66_0
  try clear hcz66_1
  try clear hcz67_0
  try clear hcz67_1
  try clear hcz68_0
  try clear hcz68_1
  try clear hcz69_0
  try clear hcz69_1
  try clear hcz73_0
  try clear hcz73_1
  try clear hcz76_0
  try clear hcz76_1
  try clear hcz78_0
  try clear hcz78_1
  try clear hcz79_0
  try clear hcz79_1
  try clear hcz81_0
  try clear hcz81_1
  try clear hcz82_0
  try clear hcz82_1
  try clear hcz83_0
  try clear hcz83_1
  try clear hcz88_0
  try clear hcz88_1
  try clear hcz91_0
  try clear hcz91_1
  try clear hcz93_0
  try clear hcz93_1
  try clear hcz94_0
  try clear hcz94_1
  try clear hfz18_0
  try clear hfz18_1
  try clear hfz21_0
  try clear hfz21_1
  try clear hfz23_0
  try clear hfz23_1
  try clear hfz24_0
  try clear hfz24_1
  try clear hfz26_0
  try clear hfz26_1
  try clear hfz27_0
  try clear hfz27_1
  try clear hfz28_0
  try clear hfz28_1
  try clear hfz30_0
  try clear hfz30_1
  try clear hfz31_0
  try clear hfz31_1
  try clear hfz36_0
  try clear hfz36_1
  try clear hfz39_0
  try clear hfz39_1
  try clear hfz41_0
  try clear hfz41_1
  try clear hfz42_0
  try clear hfz42_1
  try clear hfz44_0
  try clear hfz44_1
  try clear hfz45_0
  try clear hfz45_1
  try clear hfz46_0
  try clear hfz46_1
  try clear hfz48_0
  try clear hfz48_1
  try clear hfz49_0
  try clear hfz49_1
  try clear hfz50_0
  try clear hfz50_1
  try clear hfz54_0
  try clear hfz54_1
  try clear hfz57_0
  try clear hfz57_1
  try clear hfz59_0
  try clear hfz59_1
  try clear hfz60_0
  try clear hfz60_1
  try clear hfz62_0
  try clear hfz62_1
  try clear hfz63_0
  try clear hfz63_1
  try clear hfz64_0
  try clear hfz64_1
  try clear hfz66_0
  try clear hfz66_1
  try clear hfz67_0
  try clear hfz67_1
  try clear hfz68_0
  try clear hfz68_1
  try clear hfz69_0
  try clear hfz69_1
  try clear hfz73_0
  try clear hfz73_1
  try clear hfz76_0
  try clear hfz76_1
  try clear hfz78_0
  try clear hfz78_1
  try clear hfz79_0
  try clear hfz79_1
  try clear hfz81_0
  try clear hfz81_1
  try clear hfz82_0
  try clear hfz82_1
  try clear hfz83_0
  try clear hfz83_1
  try clear hfz88_0
  try clear hfz88_1
  try clear hfz91_0
  try clear hfz91_1
  try clear hfz93_0
  try clear hfz93_1
  try clear hfz94_0
  try clear hfz94_1
  obtain ⟨kq, x37_4, rfl, HA, HJ4, BK510, BK511, BK512, BK513, HB⟩ := hcut
  cases kq with
  | zero => exact absurd HA.out (by simp [zelligeref08_Conflict.j0])
  | succ kj4 =>
   have H := HA.out
   clear HA
   simp only [zelligeref08_Conflict.j0] at H
   by_cases c96 : x37_4 = true
   ·subst c96
    rw [if_pos rfl] at H
    obtain rfl := Option.some.inj H
    go_wp2
    go_ret
    exact ⟨by first | rfl | (simp [*, errW_none, errW_some] <;> rfl), bw HB.out⟩
   ·replace c96 := Bool.eq_false_iff.mpr c96
    subst c96
    rw [if_neg (show ¬ (false = true) by decide)] at H
    replace H := Option.bind_eq_some_iff.mp H
    obtain ⟨t516, A970, H⟩ := H
    try dsimp only at H
    have A97 := Aside0.mk A970
    clear A970
    by_cases c98 : t516 = 0
    ·rw [if_pos c98] at H
     have c98b0 : (t516 == 0) = true := beq_iff_eq.mpr c98
     have c98b1 : (t516 != 0) = false := bne_eq_false_iff_eq.mpr c98
     clear c98
     replace H := Option.bind_eq_some_iff.mp H
     obtain ⟨t517, A990, H⟩ := H
     try dsimp only at H
     have A99 := Aside0.mk A990
     clear A990
     by_cases c100 : t517 = true
     ·subst c100
      rw [if_pos rfl] at H
      obtain rfl := Option.some.inj H
      have hnb101 := NB510_511.out
      have hnc101 := NB511_510.out
      have hnb102 := NB510_512.out
      have hnc102 := NB512_510.out
      have hnb103 := NB510_513.out
      have hnc103 := NB513_510.out
      obtain ⟨_, _, _, _⟩ := p2 BK510
      have hnb105 := NB511_512.out
      have hnc105 := NB512_511.out
      have hnb106 := NB511_513.out
      have hnc106 := NB513_511.out
      obtain ⟨_, _, _, _⟩ := p2 BK511
      have hnb108 := NB512_513.out
      have hnc108 := NB513_512.out
      obtain ⟨_, _, _, _⟩ := p2 BK512
      obtain ⟨_, _, _, _⟩ := p2 BK513
      go_wp2_with (first | ((with_reducible refine gate_callee (f := 19) rfl ?_); refine gL (some 42) Try.func19 #[.agg #[.int .i64 a0_0, .int .i64 a0_1], .agg #[.int .i64 a1_0, .int .i64 a1_1], .agg #[.int .i64 a2_0, .int .i64 a2_1], .agg #[.int .i64 a3_0, .int .i64 a3_1]] rfl ?_; (with_reducible refine (zelligeref07_InCircle.calls a0_0 a0_1 a1_0 a1_1 a2_0 a2_1 a3_0 a3_1 t516 _ A97.out).mono ?_); rintro e w111 ⟨rfl, hb⟩; refine ⟨_, rfl, ?_⟩; replace BK510 := u1 BK510 hb; replace BK511 := u1 BK511 hb; replace BK512 := u1 BK512 hb; replace BK513 := u1 BK513 hb; replace HB := u2 HB hb; clear hb; obtain ⟨_, _, _, _⟩ := p2 BK513; obtain ⟨_, _, _, _⟩ := p2 BK510; obtain ⟨_, _, _, _⟩ := p2 BK511; obtain ⟨_, _, _, _⟩ := p2 BK512) | ((with_reducible refine gate_callee (f := 20) rfl ?_); refine gL (some 51) Try.func20 #[.agg #[.int .i64 a3_0, .int .i64 a3_1], .agg #[.int .i64 a0_0, .int .i64 a0_1], .agg #[.int .i64 a1_0, .int .i64 a1_1], .agg #[.int .i64 a2_0, .int .i64 a2_1]] rfl ?_; (with_reducible refine (zelligeref08_last.calls kj4 a3_0 a3_1 a0_0 a0_1 a1_0 a1_1 a2_0 a2_1 true _ A99.out).mono ?_); rintro e w116 ⟨rfl, hb⟩; refine ⟨_, rfl, ?_⟩; replace BK510 := u1 BK510 hb; replace BK511 := u1 BK511 hb; replace BK512 := u1 BK512 hb; replace BK513 := u1 BK513 hb; replace HB := u2 HB hb; clear hb))
      go_ret
      exact ⟨by first | rfl | (simp [*, errW_none, errW_some] <;> rfl), bw HB.out⟩
     ·replace c100 := Bool.eq_false_iff.mpr c100
      subst c100
      rw [if_neg (show ¬ (false = true) by decide)] at H
      replace H := Option.bind_eq_some_iff.mp H
      obtain ⟨t518, A1170, H⟩ := H
      try dsimp only at H
      have A117 := Aside0.mk A1170
      clear A1170
      by_cases c118 : t518 = true
      ·subst c118
       rw [if_pos rfl] at H
       replace H := Option.bind_eq_some_iff.mp H
       obtain ⟨t519, A1190, H⟩ := H
       try dsimp only at H
       have A119 := Aside0.mk A1190
       clear A1190
       obtain rfl := Option.some.inj H
       have hnb120 := NB510_511.out
       have hnc120 := NB511_510.out
       have hnb121 := NB510_512.out
       have hnc121 := NB512_510.out
       have hnb122 := NB510_513.out
       have hnc122 := NB513_510.out
       obtain ⟨_, _, _, _⟩ := p2 BK510
       have hnb124 := NB511_512.out
       have hnc124 := NB512_511.out
       have hnb125 := NB511_513.out
       have hnc125 := NB513_511.out
       obtain ⟨_, _, _, _⟩ := p2 BK511
       have hnb127 := NB512_513.out
       have hnc127 := NB513_512.out
       obtain ⟨_, _, _, _⟩ := p2 BK512
       obtain ⟨_, _, _, _⟩ := p2 BK513
       go_wp2_with (first | ((with_reducible refine gate_callee (f := 19) rfl ?_); refine gL (some 42) Try.func19 #[.agg #[.int .i64 a0_0, .int .i64 a0_1], .agg #[.int .i64 a1_0, .int .i64 a1_1], .agg #[.int .i64 a2_0, .int .i64 a2_1], .agg #[.int .i64 a3_0, .int .i64 a3_1]] rfl ?_; (with_reducible refine (zelligeref07_InCircle.calls a0_0 a0_1 a1_0 a1_1 a2_0 a2_1 a3_0 a3_1 t516 _ A97.out).mono ?_); rintro e w130 ⟨rfl, hb⟩; refine ⟨_, rfl, ?_⟩; replace BK510 := u1 BK510 hb; replace BK511 := u1 BK511 hb; replace BK512 := u1 BK512 hb; replace BK513 := u1 BK513 hb; replace HB := u2 HB hb; clear hb; obtain ⟨_, _, _, _⟩ := p2 BK513; obtain ⟨_, _, _, _⟩ := p2 BK510; obtain ⟨_, _, _, _⟩ := p2 BK511; obtain ⟨_, _, _, _⟩ := p2 BK512) | ((with_reducible refine gate_callee (f := 20) rfl ?_); refine gL (some 51) Try.func20 #[.agg #[.int .i64 a3_0, .int .i64 a3_1], .agg #[.int .i64 a0_0, .int .i64 a0_1], .agg #[.int .i64 a1_0, .int .i64 a1_1], .agg #[.int .i64 a2_0, .int .i64 a2_1]] rfl ?_; (with_reducible refine (zelligeref08_last.calls kj4 a3_0 a3_1 a0_0 a0_1 a1_0 a1_1 a2_0 a2_1 false _ A99.out).mono ?_); rintro e w135 ⟨rfl, hb⟩; refine ⟨_, rfl, ?_⟩; replace BK510 := u1 BK510 hb; replace BK511 := u1 BK511 hb; replace BK512 := u1 BK512 hb; replace BK513 := u1 BK513 hb; replace HB := u2 HB hb; clear hb; obtain ⟨_, _, _, _⟩ := p2 BK512; obtain ⟨_, _, _, _⟩ := p2 BK510; obtain ⟨_, _, _, _⟩ := p2 BK511; obtain ⟨_, _, _, _⟩ := p2 BK513) | ((with_reducible refine gate_callee (f := 20) rfl ?_); refine gL (some 56) Try.func20 #[.agg #[.int .i64 a2_0, .int .i64 a2_1], .agg #[.int .i64 a0_0, .int .i64 a0_1], .agg #[.int .i64 a1_0, .int .i64 a1_1], .agg #[.int .i64 a3_0, .int .i64 a3_1]] rfl ?_; (with_reducible refine (zelligeref08_last.calls kj4 a2_0 a2_1 a0_0 a0_1 a1_0 a1_1 a3_0 a3_1 true _ A117.out).mono ?_); rintro e w140 ⟨rfl, hb⟩; refine ⟨_, rfl, ?_⟩; replace BK510 := u1 BK510 hb; replace BK511 := u1 BK511 hb; replace BK512 := u1 BK512 hb; replace BK513 := u1 BK513 hb; replace HB := u2 HB hb; clear hb; obtain ⟨_, _, _, _⟩ := p2 BK510; obtain ⟨_, _, _, _⟩ := p2 BK511; obtain ⟨_, _, _, _⟩ := p2 BK513) | ((with_reducible refine gate_callee (f := 12) rfl ?_); refine gL (some 60) Try.func12 #[.agg #[.int .i64 a0_0, .int .i64 a0_1], .agg #[.int .i64 a1_0, .int .i64 a1_1], .agg #[.int .i64 a3_0, .int .i64 a3_1]] rfl ?_; (with_reducible refine (zelligeref07_Orient.calls a0_0 a0_1 a1_0 a1_1 a3_0 a3_1 t519 _ A119.out).mono ?_); rintro e w144 ⟨rfl, hb⟩; refine ⟨_, rfl, ?_⟩; replace BK510 := u1 BK510 hb; replace BK511 := u1 BK511 hb; replace BK512 := u1 BK512 hb; replace BK513 := u1 BK513 hb; replace HB := u2 HB hb; clear hb))
       go_ret
       exact ⟨by first | rfl | (simp [*, errW_none, errW_some] <;> rfl), bw HB.out⟩
      ·replace c118 := Bool.eq_false_iff.mpr c118
       subst c118
       rw [if_neg (show ¬ (false = true) by decide)] at H
       replace H := Option.bind_eq_some_iff.mp H
       obtain ⟨t520, A1450, H⟩ := H
       try dsimp only at H
       have A145 := Aside0.mk A1450
       clear A1450
       by_cases c146 : t520 = true
       ·subst c146
        rw [if_pos rfl] at H
        replace H := Option.bind_eq_some_iff.mp H
        obtain ⟨t521, A1470, H⟩ := H
        try dsimp only at H
        have A147 := Aside0.mk A1470
        clear A1470
        obtain rfl := Option.some.inj H
        have hnb148 := NB510_511.out
        have hnc148 := NB511_510.out
        have hnb149 := NB510_512.out
        have hnc149 := NB512_510.out
        have hnb150 := NB510_513.out
        have hnc150 := NB513_510.out
        obtain ⟨_, _, _, _⟩ := p2 BK510
        have hnb152 := NB511_512.out
        have hnc152 := NB512_511.out
        have hnb153 := NB511_513.out
        have hnc153 := NB513_511.out
        obtain ⟨_, _, _, _⟩ := p2 BK511
        have hnb155 := NB512_513.out
        have hnc155 := NB513_512.out
        obtain ⟨_, _, _, _⟩ := p2 BK512
        obtain ⟨_, _, _, _⟩ := p2 BK513
        go_wp2_with (first | ((with_reducible refine gate_callee (f := 19) rfl ?_); refine gL (some 42) Try.func19 #[.agg #[.int .i64 a0_0, .int .i64 a0_1], .agg #[.int .i64 a1_0, .int .i64 a1_1], .agg #[.int .i64 a2_0, .int .i64 a2_1], .agg #[.int .i64 a3_0, .int .i64 a3_1]] rfl ?_; (with_reducible refine (zelligeref07_InCircle.calls a0_0 a0_1 a1_0 a1_1 a2_0 a2_1 a3_0 a3_1 t516 _ A97.out).mono ?_); rintro e w158 ⟨rfl, hb⟩; refine ⟨_, rfl, ?_⟩; replace BK510 := u1 BK510 hb; replace BK511 := u1 BK511 hb; replace BK512 := u1 BK512 hb; replace BK513 := u1 BK513 hb; replace HB := u2 HB hb; clear hb; obtain ⟨_, _, _, _⟩ := p2 BK513; obtain ⟨_, _, _, _⟩ := p2 BK510; obtain ⟨_, _, _, _⟩ := p2 BK511; obtain ⟨_, _, _, _⟩ := p2 BK512) | ((with_reducible refine gate_callee (f := 20) rfl ?_); refine gL (some 51) Try.func20 #[.agg #[.int .i64 a3_0, .int .i64 a3_1], .agg #[.int .i64 a0_0, .int .i64 a0_1], .agg #[.int .i64 a1_0, .int .i64 a1_1], .agg #[.int .i64 a2_0, .int .i64 a2_1]] rfl ?_; (with_reducible refine (zelligeref08_last.calls kj4 a3_0 a3_1 a0_0 a0_1 a1_0 a1_1 a2_0 a2_1 false _ A99.out).mono ?_); rintro e w163 ⟨rfl, hb⟩; refine ⟨_, rfl, ?_⟩; replace BK510 := u1 BK510 hb; replace BK511 := u1 BK511 hb; replace BK512 := u1 BK512 hb; replace BK513 := u1 BK513 hb; replace HB := u2 HB hb; clear hb; obtain ⟨_, _, _, _⟩ := p2 BK512; obtain ⟨_, _, _, _⟩ := p2 BK510; obtain ⟨_, _, _, _⟩ := p2 BK511; obtain ⟨_, _, _, _⟩ := p2 BK513) | ((with_reducible refine gate_callee (f := 20) rfl ?_); refine gL (some 56) Try.func20 #[.agg #[.int .i64 a2_0, .int .i64 a2_1], .agg #[.int .i64 a0_0, .int .i64 a0_1], .agg #[.int .i64 a1_0, .int .i64 a1_1], .agg #[.int .i64 a3_0, .int .i64 a3_1]] rfl ?_; (with_reducible refine (zelligeref08_last.calls kj4 a2_0 a2_1 a0_0 a0_1 a1_0 a1_1 a3_0 a3_1 false _ A117.out).mono ?_); rintro e w168 ⟨rfl, hb⟩; refine ⟨_, rfl, ?_⟩; replace BK510 := u1 BK510 hb; replace BK511 := u1 BK511 hb; replace BK512 := u1 BK512 hb; replace BK513 := u1 BK513 hb; replace HB := u2 HB hb; clear hb; obtain ⟨_, _, _, _⟩ := p2 BK511; obtain ⟨_, _, _, _⟩ := p2 BK510; obtain ⟨_, _, _, _⟩ := p2 BK512; obtain ⟨_, _, _, _⟩ := p2 BK513) | ((with_reducible refine gate_callee (f := 20) rfl ?_); refine gL (some 66) Try.func20 #[.agg #[.int .i64 a1_0, .int .i64 a1_1], .agg #[.int .i64 a0_0, .int .i64 a0_1], .agg #[.int .i64 a2_0, .int .i64 a2_1], .agg #[.int .i64 a3_0, .int .i64 a3_1]] rfl ?_; (with_reducible refine (zelligeref08_last.calls kj4 a1_0 a1_1 a0_0 a0_1 a2_0 a2_1 a3_0 a3_1 true _ A145.out).mono ?_); rintro e w173 ⟨rfl, hb⟩; refine ⟨_, rfl, ?_⟩; replace BK510 := u1 BK510 hb; replace BK511 := u1 BK511 hb; replace BK512 := u1 BK512 hb; replace BK513 := u1 BK513 hb; replace HB := u2 HB hb; clear hb; obtain ⟨_, _, _, _⟩ := p2 BK510; obtain ⟨_, _, _, _⟩ := p2 BK513; obtain ⟨_, _, _, _⟩ := p2 BK512) | ((with_reducible refine gate_callee (f := 12) rfl ?_); refine gL (some 70) Try.func12 #[.agg #[.int .i64 a0_0, .int .i64 a0_1], .agg #[.int .i64 a3_0, .int .i64 a3_1], .agg #[.int .i64 a2_0, .int .i64 a2_1]] rfl ?_; (with_reducible refine (zelligeref07_Orient.calls a0_0 a0_1 a3_0 a3_1 a2_0 a2_1 t521 _ A147.out).mono ?_); rintro e w177 ⟨rfl, hb⟩; refine ⟨_, rfl, ?_⟩; replace BK510 := u1 BK510 hb; replace BK511 := u1 BK511 hb; replace BK512 := u1 BK512 hb; replace BK513 := u1 BK513 hb; replace HB := u2 HB hb; clear hb))
        go_ret
        exact ⟨by first | rfl | (simp [*, errW_none, errW_some] <;> rfl), bw HB.out⟩
       ·replace c146 := Bool.eq_false_iff.mpr c146
        subst c146
        rw [if_neg (show ¬ (false = true) by decide)] at H
        replace H := Option.bind_eq_some_iff.mp H
        obtain ⟨t522, A1780, H⟩ := H
        try dsimp only at H
        have A178 := Aside0.mk A1780
        clear A1780
        obtain rfl := Option.some.inj H
        have hnb179 := NB510_511.out
        have hnc179 := NB511_510.out
        have hnb180 := NB510_512.out
        have hnc180 := NB512_510.out
        have hnb181 := NB510_513.out
        have hnc181 := NB513_510.out
        obtain ⟨_, _, _, _⟩ := p2 BK510
        have hnb183 := NB511_512.out
        have hnc183 := NB512_511.out
        have hnb184 := NB511_513.out
        have hnc184 := NB513_511.out
        obtain ⟨_, _, _, _⟩ := p2 BK511
        have hnb186 := NB512_513.out
        have hnc186 := NB513_512.out
        obtain ⟨_, _, _, _⟩ := p2 BK512
        obtain ⟨_, _, _, _⟩ := p2 BK513
        go_wp2_with (first | ((with_reducible refine gate_callee (f := 19) rfl ?_); refine gL (some 42) Try.func19 #[.agg #[.int .i64 a0_0, .int .i64 a0_1], .agg #[.int .i64 a1_0, .int .i64 a1_1], .agg #[.int .i64 a2_0, .int .i64 a2_1], .agg #[.int .i64 a3_0, .int .i64 a3_1]] rfl ?_; (with_reducible refine (zelligeref07_InCircle.calls a0_0 a0_1 a1_0 a1_1 a2_0 a2_1 a3_0 a3_1 t516 _ A97.out).mono ?_); rintro e w189 ⟨rfl, hb⟩; refine ⟨_, rfl, ?_⟩; replace BK510 := u1 BK510 hb; replace BK511 := u1 BK511 hb; replace BK512 := u1 BK512 hb; replace BK513 := u1 BK513 hb; replace HB := u2 HB hb; clear hb; obtain ⟨_, _, _, _⟩ := p2 BK513; obtain ⟨_, _, _, _⟩ := p2 BK510; obtain ⟨_, _, _, _⟩ := p2 BK511; obtain ⟨_, _, _, _⟩ := p2 BK512) | ((with_reducible refine gate_callee (f := 20) rfl ?_); refine gL (some 51) Try.func20 #[.agg #[.int .i64 a3_0, .int .i64 a3_1], .agg #[.int .i64 a0_0, .int .i64 a0_1], .agg #[.int .i64 a1_0, .int .i64 a1_1], .agg #[.int .i64 a2_0, .int .i64 a2_1]] rfl ?_; (with_reducible refine (zelligeref08_last.calls kj4 a3_0 a3_1 a0_0 a0_1 a1_0 a1_1 a2_0 a2_1 false _ A99.out).mono ?_); rintro e w194 ⟨rfl, hb⟩; refine ⟨_, rfl, ?_⟩; replace BK510 := u1 BK510 hb; replace BK511 := u1 BK511 hb; replace BK512 := u1 BK512 hb; replace BK513 := u1 BK513 hb; replace HB := u2 HB hb; clear hb; obtain ⟨_, _, _, _⟩ := p2 BK512; obtain ⟨_, _, _, _⟩ := p2 BK510; obtain ⟨_, _, _, _⟩ := p2 BK511; obtain ⟨_, _, _, _⟩ := p2 BK513) | ((with_reducible refine gate_callee (f := 20) rfl ?_); refine gL (some 56) Try.func20 #[.agg #[.int .i64 a2_0, .int .i64 a2_1], .agg #[.int .i64 a0_0, .int .i64 a0_1], .agg #[.int .i64 a1_0, .int .i64 a1_1], .agg #[.int .i64 a3_0, .int .i64 a3_1]] rfl ?_; (with_reducible refine (zelligeref08_last.calls kj4 a2_0 a2_1 a0_0 a0_1 a1_0 a1_1 a3_0 a3_1 false _ A117.out).mono ?_); rintro e w199 ⟨rfl, hb⟩; refine ⟨_, rfl, ?_⟩; replace BK510 := u1 BK510 hb; replace BK511 := u1 BK511 hb; replace BK512 := u1 BK512 hb; replace BK513 := u1 BK513 hb; replace HB := u2 HB hb; clear hb; obtain ⟨_, _, _, _⟩ := p2 BK511; obtain ⟨_, _, _, _⟩ := p2 BK510; obtain ⟨_, _, _, _⟩ := p2 BK512; obtain ⟨_, _, _, _⟩ := p2 BK513) | ((with_reducible refine gate_callee (f := 20) rfl ?_); refine gL (some 66) Try.func20 #[.agg #[.int .i64 a1_0, .int .i64 a1_1], .agg #[.int .i64 a0_0, .int .i64 a0_1], .agg #[.int .i64 a2_0, .int .i64 a2_1], .agg #[.int .i64 a3_0, .int .i64 a3_1]] rfl ?_; (with_reducible refine (zelligeref08_last.calls kj4 a1_0 a1_1 a0_0 a0_1 a2_0 a2_1 a3_0 a3_1 false _ A145.out).mono ?_); rintro e w204 ⟨rfl, hb⟩; refine ⟨_, rfl, ?_⟩; replace BK510 := u1 BK510 hb; replace BK511 := u1 BK511 hb; replace BK512 := u1 BK512 hb; replace BK513 := u1 BK513 hb; replace HB := u2 HB hb; clear hb; obtain ⟨_, _, _, _⟩ := p2 BK513; obtain ⟨_, _, _, _⟩ := p2 BK511; obtain ⟨_, _, _, _⟩ := p2 BK512) | ((with_reducible refine gate_callee (f := 12) rfl ?_); refine gL (some 75) Try.func12 #[.agg #[.int .i64 a3_0, .int .i64 a3_1], .agg #[.int .i64 a1_0, .int .i64 a1_1], .agg #[.int .i64 a2_0, .int .i64 a2_1]] rfl ?_; (with_reducible refine (zelligeref07_Orient.calls a3_0 a3_1 a1_0 a1_1 a2_0 a2_1 t522 _ A178.out).mono ?_); rintro e w208 ⟨rfl, hb⟩; refine ⟨_, rfl, ?_⟩; replace BK510 := u1 BK510 hb; replace BK511 := u1 BK511 hb; replace BK512 := u1 BK512 hb; replace BK513 := u1 BK513 hb; replace HB := u2 HB hb; clear hb))
        go_ret
        exact ⟨by first | rfl | (simp [*, errW_none, errW_some] <;> rfl), bw HB.out⟩
    ·rw [if_neg c98] at H
     have c98b0 : (t516 == 0) = false := beq_eq_false_iff_ne.mpr c98
     have c98b1 : (t516 != 0) = true := bne_iff_ne.mpr c98
     obtain rfl := Option.some.inj H
     have hnb209 := NB510_511.out
     have hnc209 := NB511_510.out
     have hnb210 := NB510_512.out
     have hnc210 := NB512_510.out
     have hnb211 := NB510_513.out
     have hnc211 := NB513_510.out
     obtain ⟨_, _, _, _⟩ := p2 BK510
     have hnb213 := NB511_512.out
     have hnc213 := NB512_511.out
     have hnb214 := NB511_513.out
     have hnc214 := NB513_511.out
     obtain ⟨_, _, _, _⟩ := p2 BK511
     have hnb216 := NB512_513.out
     have hnc216 := NB513_512.out
     obtain ⟨_, _, _, _⟩ := p2 BK512
     obtain ⟨_, _, _, _⟩ := p2 BK513
     go_wp2_with (first | ((with_reducible refine gate_callee (f := 19) rfl ?_); refine gL (some 42) Try.func19 #[.agg #[.int .i64 a0_0, .int .i64 a0_1], .agg #[.int .i64 a1_0, .int .i64 a1_1], .agg #[.int .i64 a2_0, .int .i64 a2_1], .agg #[.int .i64 a3_0, .int .i64 a3_1]] rfl ?_; (with_reducible refine (zelligeref07_InCircle.calls a0_0 a0_1 a1_0 a1_1 a2_0 a2_1 a3_0 a3_1 t516 _ A97.out).mono ?_); rintro e w219 ⟨rfl, hb⟩; refine ⟨_, rfl, ?_⟩; replace BK510 := u1 BK510 hb; replace BK511 := u1 BK511 hb; replace BK512 := u1 BK512 hb; replace BK513 := u1 BK513 hb; replace HB := u2 HB hb; clear hb))
     go_ret
     exact ⟨by first | rfl | (simp [*, errW_none, errW_some] <;> rfl), bw HB.out⟩
end Go.Proofs.Ytlkngfidohiepaa.F
end
section
namespace Go.Proofs.Ytlkngfidohiepaa.Tl
open Go RowKit YtlkngfidohiepaaW.PrintWords Ytlkngfidohiepaa.F Ytlkngfidohiepaa.Wd Ytlkngfidohiepaa.Pm Ytlkngfidohiepaa.Pd Ytlkngfidohiepaa.Tm
set_option linter.unusedVariables false
set_option linter.unusedSimpArgs false
theorem rc_f {a b : Int} (h : I64 a ∧ I64 b) : zelligeref06_Can.f a b = some (decide (CoP a b)) := by
 unfold zelligeref06_Can.f
 rw [if_pos h]
theorem rc4_f {a0 a1 b0 b1 c0 c1 d0 d1 : Int} (ha : I64 a0 ∧ I64 a1) (hb : I64 b0 ∧ I64 b1) (hc : I64 c0 ∧ I64 c1) (hd : I64 d0 ∧ I64 d1) : zelligeref08_Can.f a0 a1 b0 b1 c0 c1 d0 d1 = some (decide (CoP a0 a1 ∧ CoP b0 b1 ∧ CoP c0 c1 ∧ CoP d0 d1)) := by
 unfold zelligeref08_Can.f
 rw [rc_f ha, rc_f hb, rc_f hc, rc_f hd, Option.bind_some, Option.bind_some, Option.bind_some, Option.bind_some]
 by_cases h1 : CoP a0 a1
 ·rw [if_pos (decide_eq_true h1)]
  by_cases h2 : CoP b0 b1
  ·rw [if_pos (decide_eq_true h2)]
   by_cases h3 : CoP c0 c1
   ·rw [if_pos (decide_eq_true h3)]
    congr 1
    rw [decide_eq_decide]
    exact ⟨fun q => ⟨h1, h2, h3, q⟩, fun q => q.2.2.2⟩
   ·rw [if_neg (by rw [decide_eq_true_eq]; exact h3), decide_eq_false (fun q => h3 q.2.2.1)]
  ·rw [if_neg (by rw [decide_eq_true_eq]; exact h2), decide_eq_false (fun q => h2 q.2.1)]
 ·rw [if_neg (by rw [decide_eq_true_eq]; exact h1), decide_eq_false (fun q => h1 q.1)]
theorem ro_f {a0 a1 b0 b1 c0 c1 : Int} (ha : CoP a0 a1) (hb : CoP b0 b1) (hc : CoP c0 c1) : zelligeref07_Orient.f a0 a1 b0 b1 c0 c1 = some (ar a0 a1 b0 b1 c0 c1).sign := by
 unfold zelligeref07_Orient.f
 rw [if_pos ⟨ha, hb, hc⟩]
theorem rcmp_f (a b c d : Int) (k : Nat) : zelligeref06_Cmp.f (k + 1) a b c d = some (ord a b c d) := by
 unfold zelligeref06_Cmp.f ord
 by_cases h1 : a < c
 ·rw [if_pos h1, if_pos h1, zelligeref06_Cmp.j0, if_pos rfl]
 ·rw [if_neg h1, if_neg h1]
  by_cases h2 : a = c
  ·rw [if_pos h2, zelligeref06_Cmp.j0, if_neg (show ¬ a > c by omega)]
   by_cases h3 : b < d
   ·rw [if_pos (decide_eq_true h3), if_pos h3]
   ·rw [if_neg (by rw [decide_eq_true_eq]; exact h3), if_neg h3, eq_b]
    by_cases h4 : b > d
    ·rw [if_pos h4, if_neg (by rw [decide_eq_true_eq]; omega)]
    ·rw [if_neg h4, if_pos (decide_eq_true (by omega))]
  ·rw [if_neg h2, zelligeref06_Cmp.j0, if_neg (by decide), eq_b, if_neg (by rw [decide_eq_true_eq]; omega), if_pos (by omega)]
theorem rlast_f {p0 p1 a0 a1 b0 b1 c0 c1 : Int} (hp : CoP p0 p1) (ha : CoP a0 a1) (hb : CoP b0 b1) (hc : CoP c0 c1) (k : Nat) :
  zelligeref08_last.f (k + 1) p0 p1 a0 a1 b0 b1 c0 c1 = some (decide (ky a0 a1 < ky p0 p1 ∧ ky b0 b1 < ky p0 p1 ∧ ky c0 c1 < ky p0 p1)) := by
 unfold zelligeref08_last.f
 rw [rcmp_f, rcmp_f, rcmp_f, Option.bind_some, Option.bind_some, Option.bind_some]
 have e1 := ord_ky hp ha; have e2 := ord_ky hp hb; have e3 := ord_ky hp hc
 by_cases h1 : ord p0 p1 a0 a1 > 0
 ·rw [if_pos h1]
  by_cases h2 : ord p0 p1 b0 b1 > 0
  ·rw [if_pos h2]
   congr 1
   rw [decide_eq_decide]
   exact ⟨fun q => ⟨e1.1 h1, e2.1 h2, e3.1 q⟩, fun q => e3.2 q.2.2⟩
  ·rw [if_neg h2, decide_eq_false (fun q => h2 (e2.2 q.2.1))]
 ·rw [if_neg h1, decide_eq_false (fun q => h1 (e1.2 q.1))]
theorem co_does {a0 a1 b0 b1 c0 c1 d0 d1 : Int} (ha : CoP a0 a1) (hb : CoP b0 b1) (hc : CoP c0 c1) (hd : CoP d0 d1) (g : 0 < ar a0 a1 b0 b1 c0 c1) (n1 : ¬ (d0 = a0 ∧ d1 = a1)) (n2 : ¬ (d0 = b0 ∧ d1 = b1)) (n3 : ¬ (d0 = c0 ∧ d1 = c1)) :
  coS a0 a1 b0 b1 c0 c1 d0 d1 = decide (does a0 a1 b0 b1 c0 c1 d0 d1) := by
 unfold coS tieS
 rw [decide_eq_true hd, Bool.true_and, decide_eq_decide]
 exact ⟨fun q => q.2.2.2.2.2, fun q => ⟨⟨ha, hb, hc⟩, g, n1, n2, n3, q⟩⟩
theorem rj0 {a0 a1 b0 b1 c0 c1 d0 d1 : Int} (ha : CoP a0 a1) (hb : CoP b0 b1) (hc : CoP c0 c1) (hd : CoP d0 d1) (g : 0 < ar a0 a1 b0 b1 c0 c1) (g1 : ¬ (d0 = a0 ∧ d1 = a1)) (g2 : ¬ (d0 = b0 ∧ d1 = b1)) (g3 : ¬ (d0 = c0 ∧ d1 = c1)) (k : Nat) :
  zelligeref08_Conflict.j0 (k + 2) false a0 a1 b0 b1 c0 c1 d0 d1 = some (decide (does a0 a1 b0 b1 c0 c1 d0 d1)) := by
 have nk1 := (not_congr (ky_eq (a0 := d0) (a1 := d1) (b0 := a0) (b1 := a1) hd.2 ha.2)).2 g1
 have nk2 := (not_congr (ky_eq (a0 := d0) (a1 := d1) (b0 := b0) (b1 := b1) hd.2 hb.2)).2 g2
 have nk3 := (not_congr (ky_eq (a0 := d0) (a1 := d1) (b0 := c0) (b1 := c1) hd.2 hc.2)).2 g3
 have L := left_ne g
 have nk4 := (not_congr (ky_eq (a0 := a0) (a1 := a1) (b0 := b0) (b1 := b1) ha.2 hb.2)).2 L.2.2
 have nk5 := (not_congr (ky_eq (a0 := c0) (a1 := c1) (b0 := a0) (b1 := a1) hc.2 ha.2)).2 L.1
 have nk6 := (not_congr (ky_eq (a0 := c0) (a1 := c1) (b0 := b0) (b1 := b1) hc.2 hb.2)).2 L.2.1
 have ic : zelligeref07_InCircle.f a0 a1 b0 b1 c0 c1 d0 d1 = some (dt a0 a1 b0 b1 c0 c1 d0 d1).sign := by unfold zelligeref07_InCircle.f; rw [if_pos ⟨ha, hb, hc, hd⟩]
 rw [zelligeref08_Conflict.j0, if_neg (by decide), ic, Option.bind_some, rlast_f hd ha hb hc, rlast_f hc ha hb hd, rlast_f hb ha hc hd, ro_f ha hb hd, ro_f ha hd hc, ro_f hd hb hc, Option.bind_some, Option.bind_some, Option.bind_some, Option.bind_some, Option.bind_some, Option.bind_some, one_b, one_b, one_b]
 clear ic L
 generalize hq : decide (does a0 a1 b0 b1 c0 c1 d0 d1) = q
 have D : q = true ↔ does a0 a1 b0 b1 c0 c1 d0 d1 := by rw [← hq, decide_eq_true_eq]
 clear hq
 unfold does at D
 clear g g1 g2 g3
 generalize ky a0 a1 = ka at *; generalize ky b0 b1 = kb at *; generalize ky c0 c1 = kc at *; generalize ky d0 d1 = kd at *
 generalize ar d0 d1 b0 b1 c0 c1 = u1 at *; generalize ar a0 a1 d0 d1 c0 c1 = u2 at *; generalize ar a0 a1 b0 b1 d0 d1 = u3 at *
 generalize dt a0 a1 b0 b1 c0 c1 d0 d1 = t at *
 by_cases z : t = 0
 ·subst z
  rw [if_pos (by rfl)]
  by_cases p1 : ka < kd ∧ kb < kd ∧ kc < kd
  ·rw [if_pos (decide_eq_true p1)]
   obtain ⟨m1, m2, m3⟩ := p1
   simp only [Int.lt_asymm m1, Int.lt_asymm m2, Int.lt_asymm m3, and_false, false_and, or_false, Int.lt_irrefl] at D
   cases q
   ·rfl
   ·exact (D.1 rfl).elim
  ·rw [if_neg (by rw [decide_eq_true_eq]; exact p1)]
   by_cases p2 : ka < kc ∧ kb < kc ∧ kd < kc
   ·rw [if_pos (decide_eq_true p2)]
    congr 1
    obtain ⟨m1, m2, m3⟩ := p2
    simp only [m1, m2, m3, Int.lt_asymm m1, Int.lt_asymm m2, Int.lt_asymm m3, Int.lt_irrefl, true_and, false_and, and_false, false_or, or_false] at D
    rw [Bool.eq_iff_iff, D, decide_eq_true_eq]
   ·rw [if_neg (by rw [decide_eq_true_eq]; exact p2)]
    by_cases p3 : ka < kb ∧ kc < kb ∧ kd < kb
    ·rw [if_pos (decide_eq_true p3)]
     congr 1
     obtain ⟨m1, m2, m3⟩ := p3
     simp only [m1, m2, m3, Int.lt_asymm m1, Int.lt_asymm m2, Int.lt_asymm m3, Int.lt_irrefl, true_and, false_and, and_false, false_or, or_false] at D
     rw [Bool.eq_iff_iff, D, decide_eq_true_eq]
    ·rw [if_neg (by rw [decide_eq_true_eq]; exact p3)]
     congr 1
     obtain ⟨m1, m2, m3⟩ : kb < ka ∧ kc < ka ∧ kd < ka := by clear D; omega
     simp only [m1, m2, m3, Int.lt_asymm m1, Int.lt_asymm m2, Int.lt_asymm m3, Int.lt_irrefl, true_and, false_and, and_false, false_or, or_false] at D
     rw [Bool.eq_iff_iff, D, decide_eq_true_eq]
 ·rw [if_neg (fun e => z (Int.sign_eq_zero_iff_zero.1 e))]
  congr 1
  rw [Bool.eq_iff_iff, D, decide_eq_true_eq]
  clear D nk1 nk2 nk3 nk4 nk5 nk6
  rcases sign_cases t with ⟨x, x'⟩ | ⟨x, x'⟩ | ⟨x, x'⟩ <;> rw [x'] <;> omega
theorem rConflict_f {a0 a1 b0 b1 c0 c1 d0 d1 : Int} (Ha : I64 a0 ∧ I64 a1) (Hb : I64 b0 ∧ I64 b1) (Hc : I64 c0 ∧ I64 c1) (Hd : I64 d0 ∧ I64 d1) (k : Nat) :
  zelligeref08_Conflict.f (k + 2) a0 a1 b0 b1 c0 c1 d0 d1 = some (coS a0 a1 b0 b1 c0 c1 d0 d1) := by
 unfold zelligeref08_Conflict.f
 have no : ∀ (h : coS a0 a1 b0 b1 c0 c1 d0 d1 = false), zelligeref08_Conflict.j0 (k + 2) true a0 a1 b0 b1 c0 c1 d0 d1 = some (coS a0 a1 b0 b1 c0 c1 d0 d1) := fun h => by rw [h, zelligeref08_Conflict.j0, if_pos rfl]
 have fa : ∀ (h : ¬ (CoP d0 d1 ∧ (CoP a0 a1 ∧ CoP b0 b1 ∧ CoP c0 c1) ∧ 0 < ar a0 a1 b0 b1 c0 c1 ∧ ¬ (d0 = a0 ∧ d1 = a1) ∧ ¬ (d0 = b0 ∧ d1 = b1) ∧ ¬ (d0 = c0 ∧ d1 = c1))), coS a0 a1 b0 b1 c0 c1 d0 d1 = false := fun h => by
  unfold coS tieS
  rw [← Bool.decide_and]
  exact decide_eq_false (fun q => h ⟨q.1, q.2.1, q.2.2.1, q.2.2.2.1, q.2.2.2.2.1, q.2.2.2.2.2.1⟩)
 rw [rc4_f Ha Hb Hc Hd, Option.bind_some, eq_b, eq_b, eq_b]
 by_cases hh : CoP a0 a1 ∧ CoP b0 b1 ∧ CoP c0 c1 ∧ CoP d0 d1
 ·rw [if_pos (decide_eq_true hh)]
  obtain ⟨ha, hb, hc, hd⟩ := hh
  rw [ro_f ha hb hc, Option.bind_some]
  by_cases g : 0 < ar a0 a1 b0 b1 c0 c1
  ·rw [if_pos ((sign_pos _).2 g)]
   by_cases g1 : d0 = a0 ∧ d1 = a1
   ·rw [if_pos (decide_eq_true g1)]; exact no (fa (fun q => q.2.2.2.1 g1))
   rw [if_neg (by rw [decide_eq_true_eq]; exact g1)]
   by_cases g2 : d0 = b0 ∧ d1 = b1
   ·rw [if_pos (decide_eq_true g2)]; exact no (fa (fun q => q.2.2.2.2.1 g2))
   rw [if_neg (by rw [decide_eq_true_eq]; exact g2)]
   by_cases g3 : d0 = c0 ∧ d1 = c1
   ·rw [decide_eq_true g3]; exact no (fa (fun q => q.2.2.2.2.2 g3))
   rw [decide_eq_false g3, rj0 ha hb hc hd g g1 g2 g3, co_does ha hb hc hd g g1 g2 g3]
  ·rw [if_neg (fun e => g ((sign_pos _).1 e))]
   exact no (fa (fun q => g q.2.2.1))
 ·rw [if_neg (by rw [decide_eq_true_eq]; exact hh)]
  exact no (fa (fun q => hh ⟨q.2.1.1, q.2.1.2.1, q.2.1.2.2, q.1⟩))
theorem i64_of {n : Int} (h : (Lit.int .i64 n).wf = true) : I64 n := by have := bounds_i64 h; omega
end Go.Proofs.Ytlkngfidohiepaa.Tl
end
section
namespace Go.Proofs.Ytlkngfidohiepaa.F
open RowKit YtlkngfidohiepaaW.PrintWords YtlkngfidohiepaaW.PrintLast YtlkngfidohiepaaW.PrintMore
set_option linter.unusedVariables false
set_option linter.unusedSimpArgs false
def zelligeref08_Left.f (a0_0 : Int) (a0_1 : Int) (a1_0 : Int) (a1_1 : Int) (a2_0 : Int) (a2_1 : Int) : Option (Bool) := (zelligeref06_Can.f a0_0 a0_1).bind fun t577 => (if t577 = true then ((zelligeref06_Can.f a1_0 a1_1).bind fun t578 => (if t578 = true then ((zelligeref06_Can.f a2_0 a2_1).bind fun t579 => (if t579 = true then ((zelligeref07_Orient.f a0_0 a0_1 a1_0 a1_1 a2_0 a2_1).bind fun t580 => (some (t580 == 1))) else (some false))) else (some false))) else (some false))
set_option maxHeartbeats 8000000 in
set_option maxRecDepth 100000 in
theorem zelligeref08_Left.calls (a0_0 : Int) (a0_1 : Int) (a1_0 : Int) (a1_1 : Int) (a2_0 : Int) (a2_1 : Int) (r : Bool) (w : World) (h : zelligeref08_Left.f a0_0 a0_1 a1_0 a1_1 a2_0 a2_1 = some r) :
  Calls Try.prog 15 #[.agg #[.int .i64 a0_0, .int .i64 a0_1], .agg #[.int .i64 a1_0, .int .i64 a1_1], .agg #[.int .i64 a2_0, .int .i64 a2_1]] w fun e w' => e = .returned (.bool r) ∧ Below w.heap.size w w' := by
 have hu23 := Try.underlying23
 have HB := Aside0.mk (Below.refl w.heap.size w)
 have H : ((zelligeref06_Can.f a0_0 a0_1).bind fun t577 => (if t577 = true then ((zelligeref06_Can.f a1_0 a1_1).bind fun t578 => (if t578 = true then ((zelligeref06_Can.f a2_0 a2_1).bind fun t579 => (if t579 = true then ((zelligeref07_Orient.f a0_0 a0_1 a1_0 a1_1 a2_0 a2_1).bind fun t580 => (some (t580 == 1))) else (some false))) else (some false))) else (some false))) = some r := h
 clear h
 replace H := Option.bind_eq_some_iff.mp H
 obtain ⟨t577, A40, H⟩ := H
 try dsimp only at H
 have A4 := Aside0.mk A40
 clear A40
 by_cases c5 : t577 = true
 ·subst c5
  rw [if_pos rfl] at H
  replace H := Option.bind_eq_some_iff.mp H
  obtain ⟨t578, A60, H⟩ := H
  try dsimp only at H
  have A6 := Aside0.mk A60
  clear A60
  by_cases c7 : t578 = true
  ·subst c7
   rw [if_pos rfl] at H
   replace H := Option.bind_eq_some_iff.mp H
   obtain ⟨t579, A80, H⟩ := H
   try dsimp only at H
   have A8 := Aside0.mk A80
   clear A80
   by_cases c9 : t579 = true
   ·subst c9
    rw [if_pos rfl] at H
    replace H := Option.bind_eq_some_iff.mp H
    obtain ⟨t580, A100, H⟩ := H
    try dsimp only at H
    have A10 := Aside0.mk A100
    clear A100
    obtain rfl := Option.some.inj H
    go_enter Try.func15, Try.ntmps15
    go_wp2_with (first | ((with_reducible refine gate_dst (N := 3) rfl ?_); refine bx 3 #[.int .i64 a0_0, .int .i64 a0_1] 23 ?_; intro gb574 hg w11 hbox hb; have BK574 := Aside0.mk hbox; have GW574 := u3 hg HB; have GE574 := u3 hg HB; replace HB := u2 HB hb; clear hb hbox hg) | ((with_reducible refine gate_dst (N := 4) rfl ?_); refine bx 4 #[.int .i64 a1_0, .int .i64 a1_1] 23 ?_; intro gb575 hg w12 hbox hb; have BK575 := Aside0.mk hbox; have GW575 := u3 hg HB; have GE575 := u3 hg HB; have NB574_575 := u4 hg BK574; have NB575_574 := u5 hg BK574; replace BK574 := u1 BK574 hb; replace HB := u2 HB hb; clear hb hbox hg) | ((with_reducible refine gate_dst (N := 5) rfl ?_); refine bx 5 #[.int .i64 a2_0, .int .i64 a2_1] 23 ?_; intro gb576 hg w13 hbox hb; have BK576 := Aside0.mk hbox; have GW576 := u3 hg HB; have GE576 := u3 hg HB; have NB574_576 := u4 hg BK574; have NB576_574 := u5 hg BK574; have NB575_576 := u4 hg BK575; have NB576_575 := u5 hg BK575; replace BK574 := u1 BK574 hb; replace BK575 := u1 BK575 hb; replace HB := u2 HB hb; clear hb hbox hg; have hnb14 := NB574_575.out; have hnc14 := NB575_574.out; have hnb15 := NB574_576.out; have hnc15 := NB576_574.out; obtain ⟨_, _, _, _⟩ := p2 BK574) | ((with_reducible refine gate_callee (f := 13) rfl ?_); refine gL (some 8) Try.func13 #[.agg #[.int .i64 a0_0, .int .i64 a0_1]] rfl ?_; (with_reducible refine (zelligeref06_Can.calls a0_0 a0_1 true _ A4.out).mono ?_); rintro e w17 ⟨rfl, hb⟩; refine ⟨_, rfl, ?_⟩; replace BK574 := u1 BK574 hb; replace BK575 := u1 BK575 hb; replace BK576 := u1 BK576 hb; replace HB := u2 HB hb; clear hb; have hnb18 := NB575_576.out; have hnc18 := NB576_575.out; obtain ⟨_, _, _, _⟩ := p2 BK575) | (go_at_call 13; (with_reducible refine (zelligeref06_Can.calls a1_0 a1_1 true _ A6.out).mono ?_); rintro e w20 ⟨rfl, hb⟩; replace BK574 := u1 BK574 hb; replace BK575 := u1 BK575 hb; replace BK576 := u1 BK576 hb; replace HB := u2 HB hb; clear hb; obtain ⟨_, _, _, _⟩ := p2 BK576) | (go_at_call 13; (with_reducible refine (zelligeref06_Can.calls a2_0 a2_1 true _ A8.out).mono ?_); rintro e w22 ⟨rfl, hb⟩; replace BK574 := u1 BK574 hb; replace BK575 := u1 BK575 hb; replace BK576 := u1 BK576 hb; replace HB := u2 HB hb; clear hb; obtain ⟨_, _, _, _⟩ := p2 BK574; obtain ⟨_, _, _, _⟩ := p2 BK575; obtain ⟨_, _, _, _⟩ := p2 BK576) | (go_at_call 12; (with_reducible refine (zelligeref07_Orient.calls a0_0 a0_1 a1_0 a1_1 a2_0 a2_1 t580 _ A10.out).mono ?_); rintro e w26 ⟨rfl, hb⟩; replace BK574 := u1 BK574 hb; replace BK575 := u1 BK575 hb; replace BK576 := u1 BK576 hb; replace HB := u2 HB hb; clear hb))
    go_ret
    exact ⟨by first | rfl | (simp [*, errW_none, errW_some] <;> rfl), bw HB.out⟩
   ·replace c9 := Bool.eq_false_iff.mpr c9
    subst c9
    rw [if_neg (show ¬ (false = true) by decide)] at H
    obtain rfl := Option.some.inj H
    go_enter Try.func15, Try.ntmps15
    go_wp2_with (first | ((with_reducible refine gate_dst (N := 3) rfl ?_); refine bx 3 #[.int .i64 a0_0, .int .i64 a0_1] 23 ?_; intro gb574 hg w27 hbox hb; have BK574 := Aside0.mk hbox; have GW574 := u3 hg HB; have GE574 := u3 hg HB; replace HB := u2 HB hb; clear hb hbox hg) | ((with_reducible refine gate_dst (N := 4) rfl ?_); refine bx 4 #[.int .i64 a1_0, .int .i64 a1_1] 23 ?_; intro gb575 hg w28 hbox hb; have BK575 := Aside0.mk hbox; have GW575 := u3 hg HB; have GE575 := u3 hg HB; have NB574_575 := u4 hg BK574; have NB575_574 := u5 hg BK574; replace BK574 := u1 BK574 hb; replace HB := u2 HB hb; clear hb hbox hg) | ((with_reducible refine gate_dst (N := 5) rfl ?_); refine bx 5 #[.int .i64 a2_0, .int .i64 a2_1] 23 ?_; intro gb576 hg w29 hbox hb; have BK576 := Aside0.mk hbox; have GW576 := u3 hg HB; have GE576 := u3 hg HB; have NB574_576 := u4 hg BK574; have NB576_574 := u5 hg BK574; have NB575_576 := u4 hg BK575; have NB576_575 := u5 hg BK575; replace BK574 := u1 BK574 hb; replace BK575 := u1 BK575 hb; replace HB := u2 HB hb; clear hb hbox hg; have hnb30 := NB574_575.out; have hnc30 := NB575_574.out; have hnb31 := NB574_576.out; have hnc31 := NB576_574.out; obtain ⟨_, _, _, _⟩ := p2 BK574) | ((with_reducible refine gate_callee (f := 13) rfl ?_); refine gL (some 8) Try.func13 #[.agg #[.int .i64 a0_0, .int .i64 a0_1]] rfl ?_; (with_reducible refine (zelligeref06_Can.calls a0_0 a0_1 true _ A4.out).mono ?_); rintro e w33 ⟨rfl, hb⟩; refine ⟨_, rfl, ?_⟩; replace BK574 := u1 BK574 hb; replace BK575 := u1 BK575 hb; replace BK576 := u1 BK576 hb; replace HB := u2 HB hb; clear hb; have hnb34 := NB575_576.out; have hnc34 := NB576_575.out; obtain ⟨_, _, _, _⟩ := p2 BK575) | (go_at_call 13; (with_reducible refine (zelligeref06_Can.calls a1_0 a1_1 true _ A6.out).mono ?_); rintro e w36 ⟨rfl, hb⟩; replace BK574 := u1 BK574 hb; replace BK575 := u1 BK575 hb; replace BK576 := u1 BK576 hb; replace HB := u2 HB hb; clear hb; obtain ⟨_, _, _, _⟩ := p2 BK576) | (go_at_call 13; (with_reducible refine (zelligeref06_Can.calls a2_0 a2_1 false _ A8.out).mono ?_); rintro e w38 ⟨rfl, hb⟩; replace BK574 := u1 BK574 hb; replace BK575 := u1 BK575 hb; replace BK576 := u1 BK576 hb; replace HB := u2 HB hb; clear hb))
    go_ret
    exact ⟨by first | rfl | (simp [*, errW_none, errW_some] <;> rfl), bw HB.out⟩
  ·replace c7 := Bool.eq_false_iff.mpr c7
   subst c7
   rw [if_neg (show ¬ (false = true) by decide)] at H
   obtain rfl := Option.some.inj H
   go_enter Try.func15, Try.ntmps15
   go_wp2_with (first | ((with_reducible refine gate_dst (N := 3) rfl ?_); refine bx 3 #[.int .i64 a0_0, .int .i64 a0_1] 23 ?_; intro gb574 hg w39 hbox hb; have BK574 := Aside0.mk hbox; have GW574 := u3 hg HB; have GE574 := u3 hg HB; replace HB := u2 HB hb; clear hb hbox hg) | ((with_reducible refine gate_dst (N := 4) rfl ?_); refine bx 4 #[.int .i64 a1_0, .int .i64 a1_1] 23 ?_; intro gb575 hg w40 hbox hb; have BK575 := Aside0.mk hbox; have GW575 := u3 hg HB; have GE575 := u3 hg HB; have NB574_575 := u4 hg BK574; have NB575_574 := u5 hg BK574; replace BK574 := u1 BK574 hb; replace HB := u2 HB hb; clear hb hbox hg) | ((with_reducible refine gate_dst (N := 5) rfl ?_); refine bx 5 #[.int .i64 a2_0, .int .i64 a2_1] 23 ?_; intro gb576 hg w41 hbox hb; have BK576 := Aside0.mk hbox; have GW576 := u3 hg HB; have GE576 := u3 hg HB; have NB574_576 := u4 hg BK574; have NB576_574 := u5 hg BK574; have NB575_576 := u4 hg BK575; have NB576_575 := u5 hg BK575; replace BK574 := u1 BK574 hb; replace BK575 := u1 BK575 hb; replace HB := u2 HB hb; clear hb hbox hg; have hnb42 := NB574_575.out; have hnc42 := NB575_574.out; have hnb43 := NB574_576.out; have hnc43 := NB576_574.out; obtain ⟨_, _, _, _⟩ := p2 BK574) | ((with_reducible refine gate_callee (f := 13) rfl ?_); refine gL (some 8) Try.func13 #[.agg #[.int .i64 a0_0, .int .i64 a0_1]] rfl ?_; (with_reducible refine (zelligeref06_Can.calls a0_0 a0_1 true _ A4.out).mono ?_); rintro e w45 ⟨rfl, hb⟩; refine ⟨_, rfl, ?_⟩; replace BK574 := u1 BK574 hb; replace BK575 := u1 BK575 hb; replace BK576 := u1 BK576 hb; replace HB := u2 HB hb; clear hb; have hnb46 := NB575_576.out; have hnc46 := NB576_575.out; obtain ⟨_, _, _, _⟩ := p2 BK575) | (go_at_call 13; (with_reducible refine (zelligeref06_Can.calls a1_0 a1_1 false _ A6.out).mono ?_); rintro e w48 ⟨rfl, hb⟩; replace BK574 := u1 BK574 hb; replace BK575 := u1 BK575 hb; replace BK576 := u1 BK576 hb; replace HB := u2 HB hb; clear hb))
   go_ret
   exact ⟨by first | rfl | (simp [*, errW_none, errW_some] <;> rfl), bw HB.out⟩
 ·replace c5 := Bool.eq_false_iff.mpr c5
  subst c5
  rw [if_neg (show ¬ (false = true) by decide)] at H
  obtain rfl := Option.some.inj H
  go_enter Try.func15, Try.ntmps15
  go_wp2_with (first | ((with_reducible refine gate_dst (N := 3) rfl ?_); refine bx 3 #[.int .i64 a0_0, .int .i64 a0_1] 23 ?_; intro gb574 hg w49 hbox hb; have BK574 := Aside0.mk hbox; have GW574 := u3 hg HB; have GE574 := u3 hg HB; replace HB := u2 HB hb; clear hb hbox hg) | ((with_reducible refine gate_dst (N := 4) rfl ?_); refine bx 4 #[.int .i64 a1_0, .int .i64 a1_1] 23 ?_; intro gb575 hg w50 hbox hb; have BK575 := Aside0.mk hbox; have GW575 := u3 hg HB; have GE575 := u3 hg HB; have NB574_575 := u4 hg BK574; have NB575_574 := u5 hg BK574; replace BK574 := u1 BK574 hb; replace HB := u2 HB hb; clear hb hbox hg) | ((with_reducible refine gate_dst (N := 5) rfl ?_); refine bx 5 #[.int .i64 a2_0, .int .i64 a2_1] 23 ?_; intro gb576 hg w51 hbox hb; have BK576 := Aside0.mk hbox; have GW576 := u3 hg HB; have GE576 := u3 hg HB; have NB574_576 := u4 hg BK574; have NB576_574 := u5 hg BK574; have NB575_576 := u4 hg BK575; have NB576_575 := u5 hg BK575; replace BK574 := u1 BK574 hb; replace BK575 := u1 BK575 hb; replace HB := u2 HB hb; clear hb hbox hg; have hnb52 := NB574_575.out; have hnc52 := NB575_574.out; have hnb53 := NB574_576.out; have hnc53 := NB576_574.out; obtain ⟨_, _, _, _⟩ := p2 BK574) | ((with_reducible refine gate_callee (f := 13) rfl ?_); refine gL (some 8) Try.func13 #[.agg #[.int .i64 a0_0, .int .i64 a0_1]] rfl ?_; (with_reducible refine (zelligeref06_Can.calls a0_0 a0_1 false _ A4.out).mono ?_); rintro e w55 ⟨rfl, hb⟩; refine ⟨_, rfl, ?_⟩; replace BK574 := u1 BK574 hb; replace BK575 := u1 BK575 hb; replace BK576 := u1 BK576 hb; replace HB := u2 HB hb; clear hb))
  go_ret
  exact ⟨by first | rfl | (simp [*, errW_none, errW_some] <;> rfl), bw HB.out⟩
end Go.Proofs.Ytlkngfidohiepaa.F
end
section
namespace Go.Proofs.Ytlkngfidohiepaa.F
open RowKit YtlkngfidohiepaaW.PrintWords YtlkngfidohiepaaW.PrintLast YtlkngfidohiepaaW.PrintMore
set_option linter.unusedVariables false
set_option linter.unusedSimpArgs false
mutual
def zelligeref08_Best.l0 : Nat → List (S23) → Int → Int → Int → Int → Int → Option (Int)
 | 0, _, _, _, _, _, _ => none
 | k + 1, x2, x7, x582000, x582001, x583000, x583001 => if x7 < (x2.length : Int) then (if 0 ≤ x7 then ((zelligeref08_Left.f x582000 x582001 x583000 x583001 ((rd_T23 x2 x7).f0) ((rd_T23 x2 x7).f1)).bind fun t584 => (zelligeref08_Best.l1 k x2 x7 t584 0 x582000 x582001 x583000 x583001)) else (none)) else (some (-1))
def zelligeref08_Best.l1 : Nat → List (S23) → Int → Bool → Int → Int → Int → Int → Int → Option (Int)
 | 0, _, _, _, _, _, _, _, _ => none
 | k + 1, x2, x7, x8, x9, x582000, x582001, x583000, x583001 => if x9 < (x2.length : Int) then (zelligeref08_Best.j2 k x2 x7 x8 x9 x8 x582000 x582001 x583000 x583001) else (zelligeref08_Best.j2 k x2 x7 x8 x9 false x582000 x582001 x583000 x583001)
def zelligeref08_Best.j2 : Nat → List (S23) → Int → Bool → Int → Bool → Int → Int → Int → Int → Option (Int)
 | 0, _, _, _, _, _, _, _, _, _ => none
 | k + 1, x2, x7, x8, x9, x29, x582000, x582001, x583000, x583001 => if x29 = true then (if 0 ≤ x9 then (if x9 < (x2.length : Int) then ((zelligeref08_Left.f x582000 x582001 x583000 x583001 ((rd_T23 x2 x9).f0) ((rd_T23 x2 x9).f1)).bind fun t586 => (if t586 = true then (if 0 ≤ x7 then (if x7 < (x2.length : Int) then ((zelligeref08_Conflict.f k x582000 x582001 x583000 x583001 ((rd_T23 x2 x7).f0) ((rd_T23 x2 x7).f1) ((rd_T23 x2 x9).f0) ((rd_T23 x2 x9).f1)).bind fun t589 => (zelligeref08_Best.l1 k x2 x7 (!t589) (wrap64 (x9 + 1)) x582000 x582001 x583000 x583001)) else (none)) else (none)) else (zelligeref08_Best.l1 k x2 x7 true (wrap64 (x9 + 1)) x582000 x582001 x583000 x583001))) else (none)) else (none)) else (if x8 = true then (some x7) else (zelligeref08_Best.l0 k x2 (wrap64 (x7 + 1)) x582000 x582001 x583000 x583001))
end
def zelligeref08_Best.f (k : Nat) (a0_0 : Int) (a0_1 : Int) (a1_0 : Int) (a1_1 : Int) (l2 : List (S23)) : Option (Int) := zelligeref08_Best.l0 k l2 0 a0_0 a0_1 a1_0 a1_1
theorem zelligeref08_Best.mono_l : ∀ k, (∀ y0 y1 y2 y3 y4 y5, LeO (zelligeref08_Best.l0 k y0 y1 y2 y3 y4 y5) (zelligeref08_Best.l0 (k + 1) y0 y1 y2 y3 y4 y5)) ∧ (∀ y0 y1 y2 y3 y4 y5 y6 y7, LeO (zelligeref08_Best.l1 k y0 y1 y2 y3 y4 y5 y6 y7) (zelligeref08_Best.l1 (k + 1) y0 y1 y2 y3 y4 y5 y6 y7)) ∧ (∀ y0 y1 y2 y3 y4 y5 y6 y7 y8, LeO (zelligeref08_Best.j2 k y0 y1 y2 y3 y4 y5 y6 y7 y8) (zelligeref08_Best.j2 (k + 1) y0 y1 y2 y3 y4 y5 y6 y7 y8))
 | 0 => ⟨fun _ _ _ _ _ _ r h => by simp [zelligeref08_Best.l0] at h, fun _ _ _ _ _ _ _ _ r h => by simp [zelligeref08_Best.l1] at h, fun _ _ _ _ _ _ _ _ _ r h => by simp [zelligeref08_Best.j2] at h⟩
 | k + 1 => by
  obtain ⟨ih0, ih1, ih2⟩ := zelligeref08_Best.mono_l k
  refine ⟨?_, ?_, ?_⟩
  ·intro y0 y1 y2 y3 y4 y5
   unfold zelligeref08_Best.l0
   repeat' first
   | (with_reducible exact ih0 _ _ _ _ _ _)
   | (with_reducible exact ih1 _ _ _ _ _ _ _ _)
   | (with_reducible exact ih2 _ _ _ _ _ _ _ _ _)
   | (with_reducible exact zelligeref08_Conflict.mono _ _ _ _ _ _ _ _ _)
   | (with_reducible exact LeO.refl _)
   | (with_reducible exact LeO.none _)
   | (with_reducible refine LeO.ite ?_ ?_)
   | (with_reducible refine LeO.bind ?_ (fun _ => ?_))
   | exact ih0 _ _ _ _ _ _
   | exact ih1 _ _ _ _ _ _ _ _
   | exact ih2 _ _ _ _ _ _ _ _ _
   | exact zelligeref08_Conflict.mono _ _ _ _ _ _ _ _ _
   | exact LeO.none _
   | refine LeO.ite ?_ ?_
   | refine LeO.bind ?_ (fun _ => ?_)
  ·intro y0 y1 y2 y3 y4 y5 y6 y7
   unfold zelligeref08_Best.l1
   repeat' first
   | (with_reducible exact ih0 _ _ _ _ _ _)
   | (with_reducible exact ih1 _ _ _ _ _ _ _ _)
   | (with_reducible exact ih2 _ _ _ _ _ _ _ _ _)
   | (with_reducible exact zelligeref08_Conflict.mono _ _ _ _ _ _ _ _ _)
   | (with_reducible exact LeO.refl _)
   | (with_reducible exact LeO.none _)
   | (with_reducible refine LeO.ite ?_ ?_)
   | (with_reducible refine LeO.bind ?_ (fun _ => ?_))
   | exact ih0 _ _ _ _ _ _
   | exact ih1 _ _ _ _ _ _ _ _
   | exact ih2 _ _ _ _ _ _ _ _ _
   | exact zelligeref08_Conflict.mono _ _ _ _ _ _ _ _ _
   | exact LeO.none _
   | refine LeO.ite ?_ ?_
   | refine LeO.bind ?_ (fun _ => ?_)
  ·intro y0 y1 y2 y3 y4 y5 y6 y7 y8
   unfold zelligeref08_Best.j2
   repeat' first
   | (with_reducible exact ih0 _ _ _ _ _ _)
   | (with_reducible exact ih1 _ _ _ _ _ _ _ _)
   | (with_reducible exact ih2 _ _ _ _ _ _ _ _ _)
   | (with_reducible exact zelligeref08_Conflict.mono _ _ _ _ _ _ _ _ _)
   | (with_reducible exact LeO.refl _)
   | (with_reducible exact LeO.none _)
   | (with_reducible refine LeO.ite ?_ ?_)
   | (with_reducible refine LeO.bind ?_ (fun _ => ?_))
   | exact ih0 _ _ _ _ _ _
   | exact ih1 _ _ _ _ _ _ _ _
   | exact ih2 _ _ _ _ _ _ _ _ _
   | exact zelligeref08_Conflict.mono _ _ _ _ _ _ _ _ _
   | exact LeO.none _
   | refine LeO.ite ?_ ?_
   | refine LeO.bind ?_ (fun _ => ?_)
theorem zelligeref08_Best.mono : ∀ a0 a1 a2 a3 a4 k, LeO (zelligeref08_Best.f k a0 a1 a2 a3 a4) (zelligeref08_Best.f (k + 1) a0 a1 a2 a3 a4) := by
 intro a0 a1 a2 a3 a4 k
 obtain ⟨ih0, ih1, ih2⟩ := zelligeref08_Best.mono_l k
 unfold zelligeref08_Best.f
 repeat' first
   | (with_reducible exact ih0 _ _ _ _ _ _)
   | (with_reducible exact ih1 _ _ _ _ _ _ _ _)
   | (with_reducible exact ih2 _ _ _ _ _ _ _ _ _)
   | (with_reducible exact zelligeref08_Conflict.mono _ _ _ _ _ _ _ _ _)
   | (with_reducible exact LeO.refl _)
   | (with_reducible exact LeO.none _)
   | (with_reducible refine LeO.ite ?_ ?_)
   | (with_reducible refine LeO.bind ?_ (fun _ => ?_))
   | exact ih0 _ _ _ _ _ _
   | exact ih1 _ _ _ _ _ _ _ _
   | exact ih2 _ _ _ _ _ _ _ _ _
   | exact zelligeref08_Conflict.mono _ _ _ _ _ _ _ _ _
   | exact LeO.none _
   | refine LeO.ite ?_ ?_
   | refine LeO.bind ?_ (fun _ => ?_)
def zelligeref08_Best.T4 : Bool × List (List Nat × List Nat) := (true, [([], []), ([], []), ([], []), ([], []), ([2, 3], [2, 3]), ([4], [4]), ([0, 1, 5], [0, 1, 5]), ([6, 6, 0, 1, 2, 3, 4, 5, 6], [6])])
def zelligeref08_Best.B4 : List Nat := [0, 0, 0, 0, 12, 28, 63, 127]
theorem zelligeref08_Best.tab4 : rtab .any (opsOf Try.f16 4) = zelligeref08_Best.T4 := by kernel_rfl
theorem zelligeref08_Best.bits4 : waitsOk zelligeref08_Best.T4.2 zelligeref08_Best.B4 = true := by kernel_rfl
def zelligeref08_Best.T8 : Bool × List (List Nat × List Nat) := (true, [([], []), ([], []), ([], []), ([], []), ([2, 3], [2, 3]), ([4], [4]), ([0, 1, 5], [0, 1, 5]), ([6], [6]), ([7, 6], [7]), ([8], [8]), ([8], [8]), ([8], [8]), ([8], [8]), ([11, 12, 8], [8, 11, 12]), ([13, 8], [8, 13]), ([8], [8]), ([8], [8]), ([15, 16, 8], [8, 15, 16]), ([17, 8], [8, 17]), ([9, 10, 14, 18, 8, 8], [8, 9, 10, 14, 18]), ([19, 8], [8, 19]), ([8, 20], [8, 20]), ([21, 19, 0, 1, 2, 3, 4, 5, 6, 7, 8, 9, 10, 11, 12, 13, 14, 15, 16, 17, 18, 19, 20, 21], [21])])
def zelligeref08_Best.B8 : List Nat := [0, 0, 0, 0, 12, 28, 63, 127, 255, 511, 511, 511, 511, 6655, 14847, 511, 511, 98815, 229887, 524287, 1048575, 2097151, 4194303]
theorem zelligeref08_Best.tab8 : rtab .any (opsOf Try.f16 8) = zelligeref08_Best.T8 := by kernel_rfl
theorem zelligeref08_Best.bits8 : waitsOk zelligeref08_Best.T8.2 zelligeref08_Best.B8 = true := by kernel_rfl
set_option maxHeartbeats 8000000 in
set_option maxRecDepth 100000 in
theorem zelligeref08_Best.calls (k : Nat) (a0_0 : Int) (a0_1 : Int) (a1_0 : Int) (a1_1 : Int) (A2 : Option Addr) (c2 : Nat) (l2 : List (S23)) (r : Int) (w : World) (hr2 : Kd.C k23 w A2 l2.length l2) (hc2 : l2.length ≤ c2) (h : zelligeref08_Best.f k a0_0 a0_1 a1_0 a1_1 l2 = some r) :
  Calls Try.prog 16 #[.agg #[.int .i64 a0_0, .int .i64 a0_1], .agg #[.int .i64 a1_0, .int .i64 a1_1], .slice A2 l2.length c2] w fun e w' => e = .returned (.int .i64 r) ∧ Below w.heap.size w w' := by
 have hu23 := Try.underlying23
 have HR2 := Aside0.mk hr2
 have HC2 := Aside0.mk hc2
 clear hr2 hc2
 have HB := Aside0.mk (Below.refl w.heap.size w)
 have H : (zelligeref08_Best.l0 k l2 0 a0_0 a0_1 a1_0 a1_1) = some r := h
 clear h
 have H' := Aside0.mk H
 clear H
 go_enter Try.func16, Try.ntmps16
 go_wp2_with (first | ((with_reducible refine gate_dst (N := 3) rfl ?_); refine bx 3 #[.int .i64 a0_0, .int .i64 a0_1] 23 ?_; intro gb581 hg w4 hbox hb; have BK581 := Aside0.mk hbox; have GW581 := u3 hg HB; have GE581 := u3 hg HB; replace HB := u2 HB hb; clear hb hbox hg) | ((with_reducible refine gate_dst (N := 4) rfl ?_); refine bx 4 #[.int .i64 a1_0, .int .i64 a1_1] 23 ?_; intro gb582 hg w5 hbox hb; have BK582 := Aside0.mk hbox; have GW582 := u3 hg HB; have GE582 := u3 hg HB; have NB581_582 := u4 hg BK581; have NB582_581 := u5 hg BK581; replace BK581 := u1 BK581 hb; replace HB := u2 HB hb; clear hb hbox hg))
 go_loopg [7] k (fun kq v7 w' => ∃ (x7_1 : Int), v7 = .int .i64 x7_1 ∧ Aside0 (zelligeref08_Best.l0 kq l2 x7_1 a0_0 a0_1 a1_0 a1_1 = some r) ∧ Aside0 (kq ≤ k) ∧ Aside0 (w'.heap[gb581]? = some (.cells #[.int .i64 a0_0, .int .i64 a0_1] 23 (0, 0))) ∧ Aside0 (w'.heap[gb582]? = some (.cells #[.int .i64 a1_0, .int .i64 a1_1] 23 (0, 0))) ∧ Aside0 (Below w.heap.size w w'))
 case atStart => exact ⟨(0), (by first | rfl | (simp; done) | (simp [*]; done)), H', ⟨Nat.le_refl _⟩, ⟨bk BK581.out⟩, ⟨bk BK582.out⟩, ⟨bw HB.out⟩⟩
 case round =>
  clear H'
  try clear c1
  try clear c2
  try clear p2
  obtain ⟨x7_1, rfl, HA, HK1, BK581, BK582, HB⟩ := hrel
  cases gk with
  | zero => exact absurd HA.out (by simp [zelligeref08_Best.l0])
  | succ k1 =>
   have H := HA.out
   clear HA
   simp only [zelligeref08_Best.l0] at H
   by_cases c6 : x7_1 < (l2.length : Int)
   ·rw [if_pos c6] at H
    have c6b0 : decide (x7_1 < (l2.length : Int)) = true := decide_eq_true c6
    clear c6
    by_cases c7 : 0 ≤ x7_1
    ·rw [if_pos c7] at H
     have c7b0 : decide (0 ≤ x7_1) = true := decide_eq_true c7
     clear c7
     replace H := Option.bind_eq_some_iff.mp H
     obtain ⟨t584, A80, H⟩ := H
     try dsimp only at H
     have A8 := Aside0.mk A80
     clear A80
     have H' := Aside0.mk H
     clear H
     try go_wp2
     have n0_ := Aside0.mk (blk_drew BK581.out)
     have n1_ := Aside0.mk (blk_drew BK582.out)
     have n2_ := Aside0.mk (below_drew1 HB.out)
     clear BK581
     clear BK582
     clear HB
     have BK581 := n0_
     have BK582 := n1_
     have HB := n2_
     clear n0_ n1_ n2_
     have p583 : 0 ≤ (x7_1 : Int) := dt_
     have q583 : x7_1 < (l2.length : Int) := dt_
     obtain ⟨ad583, e583, hx583_0, hx583_1⟩ := at_T23 HR2.out x7_1 p583 q583
     have hw583_1 := hx583_1
     have hw583_0 := hx583_0
     cases e583
     replace hx583_0 := (HB.out.cell (World.block_lt_of_cell? w _ hx583_0)).trans hx583_0
     replace hx583_1 := (HB.out.cell (World.block_lt_of_cell? w _ hx583_1)).trans hx583_1
     replace p583 := eq_true p583
     replace q583 := eq_true q583
     refine start_ (n := 8) (S := fun w' => w'.cell? ⟨gb581, 0, none⟩ = some (.int .i64 a0_0) ∧ w'.cell? ⟨gb581, 1, none⟩ = some (.int .i64 a0_1) ∧ w'.cell? ⟨gb582, 0, none⟩ = some (.int .i64 a1_0) ∧ w'.cell? ⟨gb582, 1, none⟩ = some (.int .i64 a1_1) ∧ w'.cell? (ad583.add ((x7_1).toNat * 2)) = some (.int .i64 ((rd_T23 l2 x7_1).f0)) ∧ w'.cell? ⟨(ad583.add ((x7_1).toNat * 2)).block, (ad583.add ((x7_1).toNat * 2)).off + 1, none⟩ = some (.int .i64 ((rd_T23 l2 x7_1).f1))) (ds := []) #[F_,F_,F_,F_,F_,F_,F_,F_] (by kernel_rfl) rfl rfl ⟨(blk_cell BK581.out 0).trans rfl, (blk_cell BK581.out 1).trans rfl, (blk_cell BK582.out 0).trans rfl, (blk_cell BK582.out 1).trans rfl, ((HB.out.cell (World.block_lt_of_cell? w _ hw583_0)).trans hw583_0), ((HB.out.cell (World.block_lt_of_cell? w _ hw583_1)).trans hw583_1)⟩ (fun hHeld => ?_); refine with_tabW zelligeref08_Best.tab4 zelligeref08_Best.bits4 (fun HT_ HW_ => ?_)
     generalize wr.drew = w9 at BK581 BK582 HB hx583_0 hx583_1 hHeld ⊢
     refine pA (i := 2) (N := some 18) (v := ?_) (a' := ?_) #[F_,F_,T_,F_,F_,F_,F_,F_] rfl rfl HT_ (Or.inl ⟨by rfl, ?_⟩) ?_ ?_
     rotate_left
     ·intro w'
      go_simp
      with_reducible rfl
     rotate_left
     ·simp only [Act.put, s1, s2, s3, i64_w, i32_w]
      rfl
     refine pA (i := 3) (N := some 19) (v := ?_) (a' := ?_) #[F_,F_,T_,T_,F_,F_,F_,F_] rfl rfl HT_ (Or.inl ⟨by rfl, ?_⟩) ?_ ?_
     rotate_left
     ·intro w'
      go_simp
      with_reducible rfl
     rotate_left
     ·simp only [Act.put, s1, s2, s3, i64_w, i32_w]
      rfl
     refine pA (i := 4) (N := some 20) (v := ?_) (a' := ?_) #[F_,F_,T_,T_,T_,F_,F_,F_] rfl rfl HT_ (Or.inl ⟨by rfl, ?_⟩) ?_ ?_
     rotate_left
     ·intro w'
      go_simp
      with_reducible rfl
     rotate_left
     ·simp only [Act.put, s1, s2, s3, i64_w, i32_w]
      rfl
     refine tA (i := 0) (N := some 16) (v := ?_) (a' := ?_) #[T_,F_,T_,T_,T_,F_,F_,F_] rfl rfl HT_ HW_ (Or.inl ⟨by rfl, ?_⟩) hHeld ?_ ?_
     rotate_left
     ·rintro w' ⟨s0, s1, s2, s3, s4, s5⟩
      go_simp
      with_reducible rfl
     rotate_left
     ·simp only [Act.put, s1, s2, s3, i64_w, i32_w]
      rfl
     refine tA (i := 1) (N := some 17) (v := ?_) (a' := ?_) #[T_,T_,T_,T_,T_,F_,F_,F_] rfl rfl HT_ HW_ (Or.inl ⟨by rfl, ?_⟩) hHeld ?_ ?_
     rotate_left
     ·rintro w' ⟨s0, s1, s2, s3, s4, s5⟩
      go_simp
      with_reducible rfl
     rotate_left
     ·simp only [Act.put, s1, s2, s3, i64_w, i32_w]
      rfl
     refine tA (i := 5) (N := some 21) (v := ?_) (a' := ?_) #[T_,T_,T_,T_,T_,T_,F_,F_] rfl rfl HT_ HW_ (Or.inl ⟨by rfl, ?_⟩) hHeld ?_ ?_
     rotate_left
     ·rintro w' ⟨s0, s1, s2, s3, s4, s5⟩
      go_simp
      with_reducible rfl
     rotate_left
     ·simp only [Act.put, s1, s2, s3, i64_w, i32_w]
      rfl
     refine one_ (i := 6) (N := some 22) #[T_,T_,T_,T_,T_,T_,T_,F_] rfl rfl (one_of HT_.out (by kernel_rfl)) (by decide) (fun K hK => ?_)
     refine goes_ Try.func15 (by kernel_rfl) rfl #[.agg #[.int .i64 a0_0, .int .i64 a0_1], .agg #[.int .i64 a1_0, .int .i64 a1_1], .agg #[.int .i64 ((rd_T23 l2 x7_1).f0), .int .i64 ((rd_T23 l2 x7_1).f1)]] (by rfl) rfl rfl (by (try simp only [List.map_toArray, List.map_cons, List.map_nil]); first | done | rfl | (simp only [List.length_drop, List.length_take]; rfl)) ?_
     with_reducible refine (zelligeref08_Left.calls a0_0 a0_1 a1_0 a1_1 ((rd_T23 l2 x7_1).f0) ((rd_T23 l2 x7_1).f1) t584 _ A8.out).mono ?_
     rintro e w10 ⟨rfl, hb⟩
     refine ⟨_, rfl, ?_⟩
     have n0_ := u1 BK581 hb
     have n1_ := u1 BK582 hb
     have n2_ := Aside0.mk (below_step (bw HB.out) hb)
     clear BK581
     clear BK582
     clear HB
     have BK581 := n0_
     have BK582 := n1_
     have HB := n2_
     clear n0_ n1_ n2_
     (try clear hb)
     (try clear hb2)
     (try clear hk)
     (try clear hi)
     refine hK.out _ _ ⟨(blk_cell BK581.out 0).trans rfl, (blk_cell BK581.out 1).trans rfl, (blk_cell BK582.out 0).trans rfl, (blk_cell BK582.out 1).trans rfl, ((HB.out.cell (World.block_lt_of_cell? w _ hw583_0)).trans hw583_0), ((HB.out.cell (World.block_lt_of_cell? w _ hw583_1)).trans hw583_1)⟩ (fun hHeld => ?_)
     clear hK K
     refine norm_ (a' := ?_) ?_ ?_
     rotate_left
     ·show Act.put _ (some 22) _ = _
      simp only [Act.put, s1, s2, s3, i64_w, i32_w]
      rfl
     refine pA (i := 7) (N := some 8) (v := ?_) (a' := ?_) #[T_,T_,T_,T_,T_,T_,T_,T_] rfl rfl HT_ (Or.inl ⟨by rfl, ?_⟩) ?_ ?_
     rotate_left
     ·intro w'
      go_simp
      with_reducible rfl
     rotate_left
     ·simp only [Act.put, s1, s2, s3, i64_w, i32_w]
      rfl
     refine done_ (done_of HT_.out (by kernel_rfl)) ?_
     try go_wp2
     go_loopg [8, 9] k1 (fun kq v8 v9 w' => ∃ (x8_2 : Bool) (x9_2 : Int), v8 = .bool x8_2 ∧ v9 = .int .i64 x9_2 ∧ Aside0 (zelligeref08_Best.l1 kq l2 x7_1 x8_2 x9_2 a0_0 a0_1 a1_0 a1_1 = some r) ∧ Aside0 (kq ≤ k1) ∧ Aside0 (w'.heap[gb581]? = some (.cells #[.int .i64 a0_0, .int .i64 a0_1] 23 (0, 0))) ∧ Aside0 (w'.heap[gb582]? = some (.cells #[.int .i64 a1_0, .int .i64 a1_1] 23 (0, 0))) ∧ Aside0 (Below w.heap.size w w'))
     case atStart => exact ⟨(t584), (0), (by first | rfl | (simp; done) | (simp [*]; done)), (by first | rfl | (simp; done) | (simp [*]; done)), H', ⟨Nat.le_refl _⟩, ⟨bk BK581.out⟩, ⟨bk BK582.out⟩, ⟨bw HB.out⟩⟩
     case round =>
      clear H'
      try clear c1
      try clear c2
      try clear p2
      try clear p5
      try clear q5
      try clear hx5
      try clear c6
      try clear c6b0
      try clear c7
      try clear c7b0
      try clear hx583_0
      try clear hx583_1
      try clear p2
      try clear p583
      try clear q583
      obtain ⟨x8_2, x9_2, rfl, rfl, HA, HK2, BK581, BK582, HB⟩ := hrel
      cases gk with
      | zero => exact absurd HA.out (by simp [zelligeref08_Best.l1])
      | succ k2 =>
       have H := HA.out
       clear HA
       simp only [zelligeref08_Best.l1] at H
       have HC11 := Aside0.mk H
       clear H
       go_upto_region 6 with (fail)
       go_cut [29] (fun v29 wc => ∃ (kq : Nat) (x29_10 : Bool), v29 = .bool x29_10 ∧ Aside0 (zelligeref08_Best.j2 kq l2 x7_1 x8_2 x9_2 x29_10 a0_0 a0_1 a1_0 a1_1 = some r) ∧ Aside0 (kq ≤ k2) ∧ Aside0 (wc.heap[gb581]? = some (.cells #[.int .i64 a0_0, .int .i64 a0_1] 23 (0, 0))) ∧ Aside0 (wc.heap[gb582]? = some (.cells #[.int .i64 a1_0, .int .i64 a1_1] 23 (0, 0))) ∧ Aside0 (Below w.heap.size w wc))
       case first =>
        have H := HC11.out
        clear HC11
        by_cases c12 : x9_2 < (l2.length : Int)
        ·rw [if_pos c12] at H
         have c12b0 : decide (x9_2 < (l2.length : Int)) = true := decide_eq_true c12
         clear c12
         (first | rw [c12b0] | (simp only [i64_w, i32_w]; rw [c12b0]) | skip)
         have H' := Aside0.mk H
         clear H
         go_wp2
         go_meet
         case rel => exact ⟨_, (x8_2), (by first | rfl | (simp; done) | (simp [*]; done)), H', ⟨by have := HK1.out; have := HK2.out; first | omega | exact Nat.le_refl _⟩, ⟨bk BK581.out⟩, ⟨bk BK582.out⟩, ⟨bw HB.out⟩⟩
        ·rw [if_neg c12] at H
         have c12b0 : decide (x9_2 < (l2.length : Int)) = false := decide_eq_false c12
         clear c12
         (first | rw [c12b0] | (simp only [i64_w, i32_w]; rw [c12b0]) | skip)
         have H' := Aside0.mk H
         clear H
         go_wp2
         go_meet
         case rel => exact ⟨_, (false), (by first | rfl | (simp; done) | (simp [*]; done)), H', ⟨by have := HK1.out; have := HK2.out; first | omega | exact Nat.le_refl _⟩, ⟨bk BK581.out⟩, ⟨bk BK582.out⟩, ⟨bw HB.out⟩⟩
       case rest =>
        clear HC11
        try clear c1
        try clear c2
        try clear p2
        try clear p5
        try clear q5
        try clear hx5
        try clear c6
        try clear c6b0
        try clear c7
        try clear c7b0
        try clear c12
        try clear c12b0
        try clear hx583_0
        try clear hx583_1
        try clear p2
        try clear p5
        try clear p583
        try clear q5
        try clear q583
        obtain ⟨kq, x29_10, rfl, HA, HJ10, BK581, BK582, HB⟩ := hcut
        cases kq with
        | zero => exact absurd HA.out (by simp [zelligeref08_Best.j2])
        | succ kj10 =>
         have H := HA.out
         clear HA
         simp only [zelligeref08_Best.j2] at H
         by_cases c13 : x29_10 = true
         ·subst c13
          rw [if_pos rfl] at H
          by_cases c14 : 0 ≤ x9_2
          ·rw [if_pos c14] at H
           have c14b0 : decide (0 ≤ x9_2) = true := decide_eq_true c14
           clear c14
           by_cases c15 : x9_2 < (l2.length : Int)
           ·rw [if_pos c15] at H
            have c15b0 : decide (x9_2 < (l2.length : Int)) = true := decide_eq_true c15
            clear c15
            replace H := Option.bind_eq_some_iff.mp H
            obtain ⟨t586, A160, H⟩ := H
            try dsimp only at H
            have A16 := Aside0.mk A160
            clear A160
            by_cases c17 : t586 = true
            ·subst c17
             rw [if_pos rfl] at H
             by_cases c18 : 0 ≤ x7_1
             ·rw [if_pos c18] at H
              have c18b0 : decide (0 ≤ x7_1) = true := decide_eq_true c18
              clear c18
              by_cases c19 : x7_1 < (l2.length : Int)
              ·rw [if_pos c19] at H
               have c19b0 : decide (x7_1 < (l2.length : Int)) = true := decide_eq_true c19
               clear c19
               replace H := Option.bind_eq_some_iff.mp H
               obtain ⟨t589, A200, H⟩ := H
               try dsimp only at H
               have A20 := Aside0.mk A200
               clear A200
               have H' := Aside0.mk H
               clear H
               try go_wp2
               have n0_ := Aside0.mk (blk_drew BK581.out)
               have n1_ := Aside0.mk (blk_drew BK582.out)
               have n2_ := Aside0.mk (below_drew1 HB.out)
               clear BK581
               clear BK582
               clear HB
               have BK581 := n0_
               have BK582 := n1_
               have HB := n2_
               clear n0_ n1_ n2_
               have p585 : 0 ≤ (x9_2 : Int) := dt_
               have q585 : x9_2 < (l2.length : Int) := dt_
               obtain ⟨ad585, e585, hx585_0, hx585_1⟩ := at_T23 HR2.out x9_2 p585 q585
               have hw585_1 := hx585_1
               have hw585_0 := hx585_0
               obtain rfl : ad583 = ad585 := (by injection e585)
               replace hx585_0 := (HB.out.cell (World.block_lt_of_cell? w _ hx585_0)).trans hx585_0
               replace hx585_1 := (HB.out.cell (World.block_lt_of_cell? w _ hx585_1)).trans hx585_1
               replace p585 := eq_true p585
               replace q585 := eq_true q585
               have p587 : 0 ≤ (x7_1 : Int) := dt_
               have q587 : x7_1 < (l2.length : Int) := dt_
               obtain ⟨ad587, e587, hx587_0, hx587_1⟩ := at_T23 HR2.out x7_1 p587 q587
               have hw587_1 := hx587_1
               have hw587_0 := hx587_0
               obtain rfl : ad583 = ad587 := (by injection e587)
               replace hx587_0 := (HB.out.cell (World.block_lt_of_cell? w _ hx587_0)).trans hx587_0
               replace hx587_1 := (HB.out.cell (World.block_lt_of_cell? w _ hx587_1)).trans hx587_1
               replace p587 := eq_true p587
               replace q587 := eq_true q587
               have p588 : 0 ≤ (x9_2 : Int) := dt_
               have q588 : x9_2 < (l2.length : Int) := dt_
               obtain ⟨ad588, e588, hx588_0, hx588_1⟩ := at_T23 HR2.out x9_2 p588 q588
               have hw588_1 := hx588_1
               have hw588_0 := hx588_0
               obtain rfl : ad583 = ad588 := (by injection e588)
               replace hx588_0 := (HB.out.cell (World.block_lt_of_cell? w _ hx588_0)).trans hx588_0
               replace hx588_1 := (HB.out.cell (World.block_lt_of_cell? w _ hx588_1)).trans hx588_1
               replace p588 := eq_true p588
               replace q588 := eq_true q588
               refine start_ (n := 23) (S := fun w' => w'.cell? ⟨gb581, 0, none⟩ = some (.int .i64 a0_0) ∧ w'.cell? ⟨gb581, 1, none⟩ = some (.int .i64 a0_1) ∧ w'.cell? ⟨gb582, 0, none⟩ = some (.int .i64 a1_0) ∧ w'.cell? ⟨gb582, 1, none⟩ = some (.int .i64 a1_1) ∧ w'.cell? (ad583.add ((x9_2).toNat * 2)) = some (.int .i64 ((rd_T23 l2 x9_2).f0)) ∧ w'.cell? ⟨(ad583.add ((x9_2).toNat * 2)).block, (ad583.add ((x9_2).toNat * 2)).off + 1, none⟩ = some (.int .i64 ((rd_T23 l2 x9_2).f1)) ∧ w'.cell? (ad583.add ((x7_1).toNat * 2)) = some (.int .i64 ((rd_T23 l2 x7_1).f0)) ∧ w'.cell? ⟨(ad583.add ((x7_1).toNat * 2)).block, (ad583.add ((x7_1).toNat * 2)).off + 1, none⟩ = some (.int .i64 ((rd_T23 l2 x7_1).f1)) ∧ w'.cell? (ad583.add ((x9_2).toNat * 2)) = some (.int .i64 ((rd_T23 l2 x9_2).f0)) ∧ w'.cell? ⟨(ad583.add ((x9_2).toNat * 2)).block, (ad583.add ((x9_2).toNat * 2)).off + 1, none⟩ = some (.int .i64 ((rd_T23 l2 x9_2).f1))) (ds := []) #[F_,F_,F_,F_,F_,F_,F_,F_,F_,F_,F_,F_,F_,F_,F_,F_,F_,F_,F_,F_,F_,F_,F_] (by kernel_rfl) rfl rfl ⟨(blk_cell BK581.out 0).trans rfl, (blk_cell BK581.out 1).trans rfl, (blk_cell BK582.out 0).trans rfl, (blk_cell BK582.out 1).trans rfl, ((HB.out.cell (World.block_lt_of_cell? w _ hw585_0)).trans hw585_0), ((HB.out.cell (World.block_lt_of_cell? w _ hw585_1)).trans hw585_1), ((HB.out.cell (World.block_lt_of_cell? w _ hw587_0)).trans hw587_0), ((HB.out.cell (World.block_lt_of_cell? w _ hw587_1)).trans hw587_1), ((HB.out.cell (World.block_lt_of_cell? w _ hw588_0)).trans hw588_0), ((HB.out.cell (World.block_lt_of_cell? w _ hw588_1)).trans hw588_1)⟩ (fun hHeld => ?_); refine with_tabW zelligeref08_Best.tab8 zelligeref08_Best.bits8 (fun HT_ HW_ => ?_)
               generalize wc.drew = w21 at BK581 BK582 HB hx585_0 hx585_1 hx587_0 hx587_1 hx588_0 hx588_1 hHeld ⊢
               refine pA (i := 2) (N := some 34) (v := ?_) (a' := ?_) #[F_,F_,T_,F_,F_,F_,F_,F_,F_,F_,F_,F_,F_,F_,F_,F_,F_,F_,F_,F_,F_,F_,F_] rfl rfl HT_ (Or.inl ⟨by rfl, ?_⟩) ?_ ?_
               rotate_left
               ·intro w'
                go_simp
                with_reducible rfl
               rotate_left
               ·simp only [Act.put, s1, s2, s3, i64_w, i32_w]
                rfl
               refine pA (i := 3) (N := some 35) (v := ?_) (a' := ?_) #[F_,F_,T_,T_,F_,F_,F_,F_,F_,F_,F_,F_,F_,F_,F_,F_,F_,F_,F_,F_,F_,F_,F_] rfl rfl HT_ (Or.inl ⟨by rfl, ?_⟩) ?_ ?_
               rotate_left
               ·intro w'
                go_simp
                with_reducible rfl
               rotate_left
               ·simp only [Act.put, s1, s2, s3, i64_w, i32_w]
                rfl
               refine pA (i := 4) (N := some 36) (v := ?_) (a' := ?_) #[F_,F_,T_,T_,T_,F_,F_,F_,F_,F_,F_,F_,F_,F_,F_,F_,F_,F_,F_,F_,F_,F_,F_] rfl rfl HT_ (Or.inl ⟨by rfl, ?_⟩) ?_ ?_
               rotate_left
               ·intro w'
                go_simp
                with_reducible rfl
               rotate_left
               ·simp only [Act.put, s1, s2, s3, i64_w, i32_w]
                rfl
               refine tA (i := 0) (N := some 32) (v := ?_) (a' := ?_) #[T_,F_,T_,T_,T_,F_,F_,F_,F_,F_,F_,F_,F_,F_,F_,F_,F_,F_,F_,F_,F_,F_,F_] rfl rfl HT_ HW_ (Or.inl ⟨by rfl, ?_⟩) hHeld ?_ ?_
               rotate_left
               ·rintro w' ⟨s0, s1, s2, s3, s4, s5, s6, s7, s8, s9⟩
                go_simp
                with_reducible rfl
               rotate_left
               ·simp only [Act.put, s1, s2, s3, i64_w, i32_w]
                rfl
               refine tA (i := 1) (N := some 33) (v := ?_) (a' := ?_) #[T_,T_,T_,T_,T_,F_,F_,F_,F_,F_,F_,F_,F_,F_,F_,F_,F_,F_,F_,F_,F_,F_,F_] rfl rfl HT_ HW_ (Or.inl ⟨by rfl, ?_⟩) hHeld ?_ ?_
               rotate_left
               ·rintro w' ⟨s0, s1, s2, s3, s4, s5, s6, s7, s8, s9⟩
                go_simp
                with_reducible rfl
               rotate_left
               ·simp only [Act.put, s1, s2, s3, i64_w, i32_w]
                rfl
               refine tA (i := 5) (N := some 37) (v := ?_) (a' := ?_) #[T_,T_,T_,T_,T_,T_,F_,F_,F_,F_,F_,F_,F_,F_,F_,F_,F_,F_,F_,F_,F_,F_,F_] rfl rfl HT_ HW_ (Or.inl ⟨by rfl, ?_⟩) hHeld ?_ ?_
               rotate_left
               ·rintro w' ⟨s0, s1, s2, s3, s4, s5, s6, s7, s8, s9⟩
                go_simp
                with_reducible rfl
               rotate_left
               ·simp only [Act.put, s1, s2, s3, i64_w, i32_w]
                rfl
               refine one_ (i := 6) (N := some 38) #[T_,T_,T_,T_,T_,T_,T_,F_,F_,F_,F_,F_,F_,F_,F_,F_,F_,F_,F_,F_,F_,F_,F_] rfl rfl (one_of HT_.out (by kernel_rfl)) (by decide) (fun K hK => ?_)
               refine goes_ Try.func15 (by kernel_rfl) rfl #[.agg #[.int .i64 a0_0, .int .i64 a0_1], .agg #[.int .i64 a1_0, .int .i64 a1_1], .agg #[.int .i64 ((rd_T23 l2 x9_2).f0), .int .i64 ((rd_T23 l2 x9_2).f1)]] (by rfl) rfl rfl (by (try simp only [List.map_toArray, List.map_cons, List.map_nil]); first | done | rfl | (simp only [List.length_drop, List.length_take]; rfl)) ?_
               with_reducible refine (zelligeref08_Left.calls a0_0 a0_1 a1_0 a1_1 ((rd_T23 l2 x9_2).f0) ((rd_T23 l2 x9_2).f1) true _ A16.out).mono ?_
               rintro e w22 ⟨rfl, hb⟩
               refine ⟨_, rfl, ?_⟩
               have n0_ := u1 BK581 hb
               have n1_ := u1 BK582 hb
               have n2_ := Aside0.mk (below_step (bw HB.out) hb)
               clear BK581
               clear BK582
               clear HB
               have BK581 := n0_
               have BK582 := n1_
               have HB := n2_
               clear n0_ n1_ n2_
               (try clear hb)
               (try clear hb2)
               (try clear hk)
               (try clear hi)
               refine hK.out _ _ ⟨(blk_cell BK581.out 0).trans rfl, (blk_cell BK581.out 1).trans rfl, (blk_cell BK582.out 0).trans rfl, (blk_cell BK582.out 1).trans rfl, ((HB.out.cell (World.block_lt_of_cell? w _ hw585_0)).trans hw585_0), ((HB.out.cell (World.block_lt_of_cell? w _ hw585_1)).trans hw585_1), ((HB.out.cell (World.block_lt_of_cell? w _ hw587_0)).trans hw587_0), ((HB.out.cell (World.block_lt_of_cell? w _ hw587_1)).trans hw587_1), ((HB.out.cell (World.block_lt_of_cell? w _ hw588_0)).trans hw588_0), ((HB.out.cell (World.block_lt_of_cell? w _ hw588_1)).trans hw588_1)⟩ (fun hHeld => ?_)
               clear hK K
               refine norm_ (a' := ?_) ?_ ?_
               rotate_left
               ·show Act.put _ (some 38) _ = _
                simp only [Act.put, s1, s2, s3, i64_w, i32_w]
                rfl
               refine pA (i := 7) (N := some 39) (v := ?_) (a' := ?_) #[T_,T_,T_,T_,T_,T_,T_,T_,F_,F_,F_,F_,F_,F_,F_,F_,F_,F_,F_,F_,F_,F_,F_] rfl rfl HT_ (Or.inl ⟨by rfl, ?_⟩) ?_ ?_
               rotate_left
               ·intro w'
                go_simp
                with_reducible rfl
               rotate_left
               ·simp only [Act.put, s1, s2, s3, i64_w, i32_w]
                rfl
               refine pA (i := 8) (N := some 40) (v := ?_) (a' := ?_) #[T_,T_,T_,T_,T_,T_,T_,T_,T_,F_,F_,F_,F_,F_,F_,F_,F_,F_,F_,F_,F_,F_,F_] rfl rfl HT_ (Or.inl ⟨by rfl, ?_⟩) ?_ ?_
               rotate_left
               ·intro w'
                go_simp
                with_reducible rfl
               rotate_left
               ·simp only [Act.put, s1, s2, s3, i64_w, i32_w]
                rfl
               refine pA (i := 11) (N := some 43) (v := ?_) (a' := ?_) #[T_,T_,T_,T_,T_,T_,T_,T_,T_,F_,F_,T_,F_,F_,F_,F_,F_,F_,F_,F_,F_,F_,F_] rfl rfl HT_ (Or.inl ⟨by rfl, ?_⟩) ?_ ?_
               rotate_left
               ·intro w'
                go_simp
                with_reducible rfl
               rotate_left
               ·simp only [Act.put, s1, s2, s3, i64_w, i32_w]
                rfl
               refine pA (i := 12) (N := some 44) (v := ?_) (a' := ?_) #[T_,T_,T_,T_,T_,T_,T_,T_,T_,F_,F_,T_,T_,F_,F_,F_,F_,F_,F_,F_,F_,F_,F_] rfl rfl HT_ (Or.inl ⟨by rfl, ?_⟩) ?_ ?_
               rotate_left
               ·intro w'
                go_simp
                with_reducible rfl
               rotate_left
               ·simp only [Act.put, s1, s2, s3, i64_w, i32_w]
                rfl
               refine pA (i := 13) (N := some 45) (v := ?_) (a' := ?_) #[T_,T_,T_,T_,T_,T_,T_,T_,T_,F_,F_,T_,T_,T_,F_,F_,F_,F_,F_,F_,F_,F_,F_] rfl rfl HT_ (Or.inl ⟨by rfl, ?_⟩) ?_ ?_
               rotate_left
               ·intro w'
                go_simp
                with_reducible rfl
               rotate_left
               ·simp only [Act.put, s1, s2, s3, i64_w, i32_w]
                rfl
               refine pA (i := 15) (N := some 47) (v := ?_) (a' := ?_) #[T_,T_,T_,T_,T_,T_,T_,T_,T_,F_,F_,T_,T_,T_,F_,T_,F_,F_,F_,F_,F_,F_,F_] rfl rfl HT_ (Or.inl ⟨by rfl, ?_⟩) ?_ ?_
               rotate_left
               ·intro w'
                go_simp
                with_reducible rfl
               rotate_left
               ·simp only [Act.put, s1, s2, s3, i64_w, i32_w]
                rfl
               refine pA (i := 16) (N := some 48) (v := ?_) (a' := ?_) #[T_,T_,T_,T_,T_,T_,T_,T_,T_,F_,F_,T_,T_,T_,F_,T_,T_,F_,F_,F_,F_,F_,F_] rfl rfl HT_ (Or.inl ⟨by rfl, ?_⟩) ?_ ?_
               rotate_left
               ·intro w'
                go_simp
                with_reducible rfl
               rotate_left
               ·simp only [Act.put, s1, s2, s3, i64_w, i32_w]
                rfl
               refine pA (i := 17) (N := some 49) (v := ?_) (a' := ?_) #[T_,T_,T_,T_,T_,T_,T_,T_,T_,F_,F_,T_,T_,T_,F_,T_,T_,T_,F_,F_,F_,F_,F_] rfl rfl HT_ (Or.inl ⟨by rfl, ?_⟩) ?_ ?_
               rotate_left
               ·intro w'
                go_simp
                with_reducible rfl
               rotate_left
               ·simp only [Act.put, s1, s2, s3, i64_w, i32_w]
                rfl
               refine tA (i := 9) (N := some 41) (v := ?_) (a' := ?_) #[T_,T_,T_,T_,T_,T_,T_,T_,T_,T_,F_,T_,T_,T_,F_,T_,T_,T_,F_,F_,F_,F_,F_] rfl rfl HT_ HW_ (Or.inl ⟨by rfl, ?_⟩) hHeld ?_ ?_
               rotate_left
               ·rintro w' ⟨s0, s1, s2, s3, s4, s5, s6, s7, s8, s9⟩
                go_simp
                with_reducible rfl
               rotate_left
               ·simp only [Act.put, s1, s2, s3, i64_w, i32_w]
                rfl
               refine tA (i := 10) (N := some 42) (v := ?_) (a' := ?_) #[T_,T_,T_,T_,T_,T_,T_,T_,T_,T_,T_,T_,T_,T_,F_,T_,T_,T_,F_,F_,F_,F_,F_] rfl rfl HT_ HW_ (Or.inl ⟨by rfl, ?_⟩) hHeld ?_ ?_
               rotate_left
               ·rintro w' ⟨s0, s1, s2, s3, s4, s5, s6, s7, s8, s9⟩
                go_simp
                with_reducible rfl
               rotate_left
               ·simp only [Act.put, s1, s2, s3, i64_w, i32_w]
                rfl
               refine tA (i := 14) (N := some 46) (v := ?_) (a' := ?_) #[T_,T_,T_,T_,T_,T_,T_,T_,T_,T_,T_,T_,T_,T_,T_,T_,T_,T_,F_,F_,F_,F_,F_] rfl rfl HT_ HW_ (Or.inl ⟨by rfl, ?_⟩) hHeld ?_ ?_
               rotate_left
               ·rintro w' ⟨s0, s1, s2, s3, s4, s5, s6, s7, s8, s9⟩
                go_simp
                with_reducible rfl
               rotate_left
               ·simp only [Act.put, s1, s2, s3, i64_w, i32_w]
                rfl
               refine tA (i := 18) (N := some 50) (v := ?_) (a' := ?_) #[T_,T_,T_,T_,T_,T_,T_,T_,T_,T_,T_,T_,T_,T_,T_,T_,T_,T_,T_,F_,F_,F_,F_] rfl rfl HT_ HW_ (Or.inl ⟨by rfl, ?_⟩) hHeld ?_ ?_
               rotate_left
               ·rintro w' ⟨s0, s1, s2, s3, s4, s5, s6, s7, s8, s9⟩
                go_simp
                with_reducible rfl
               rotate_left
               ·simp only [Act.put, s1, s2, s3, i64_w, i32_w]
                rfl
               refine one_ (i := 19) (N := some 51) #[T_,T_,T_,T_,T_,T_,T_,T_,T_,T_,T_,T_,T_,T_,T_,T_,T_,T_,T_,T_,F_,F_,F_] rfl rfl (one_of HT_.out (by kernel_rfl)) (by decide) (fun K hK => ?_)
               refine goes_ Try.func9 (by kernel_rfl) rfl #[.agg #[.int .i64 a0_0, .int .i64 a0_1], .agg #[.int .i64 a1_0, .int .i64 a1_1], .agg #[.int .i64 ((rd_T23 l2 x7_1).f0), .int .i64 ((rd_T23 l2 x7_1).f1)], .agg #[.int .i64 ((rd_T23 l2 x9_2).f0), .int .i64 ((rd_T23 l2 x9_2).f1)]] (by rfl) rfl rfl (by (try simp only [List.map_toArray, List.map_cons, List.map_nil]); first | done | rfl | (simp only [List.length_drop, List.length_take]; rfl)) ?_
               with_reducible refine (zelligeref08_Conflict.calls kj10 a0_0 a0_1 a1_0 a1_1 ((rd_T23 l2 x7_1).f0) ((rd_T23 l2 x7_1).f1) ((rd_T23 l2 x9_2).f0) ((rd_T23 l2 x9_2).f1) t589 _ A20.out).mono ?_
               rintro e w23 ⟨rfl, hb⟩
               refine ⟨_, rfl, ?_⟩
               have n0_ := u1 BK581 hb
               have n1_ := u1 BK582 hb
               have n2_ := Aside0.mk (below_step (bw HB.out) hb)
               clear BK581
               clear BK582
               clear HB
               have BK581 := n0_
               have BK582 := n1_
               have HB := n2_
               clear n0_ n1_ n2_
               (try clear hb)
               (try clear hb2)
               (try clear hk)
               (try clear hi)
               refine hK.out _ _ ⟨(blk_cell BK581.out 0).trans rfl, (blk_cell BK581.out 1).trans rfl, (blk_cell BK582.out 0).trans rfl, (blk_cell BK582.out 1).trans rfl, ((HB.out.cell (World.block_lt_of_cell? w _ hw585_0)).trans hw585_0), ((HB.out.cell (World.block_lt_of_cell? w _ hw585_1)).trans hw585_1), ((HB.out.cell (World.block_lt_of_cell? w _ hw587_0)).trans hw587_0), ((HB.out.cell (World.block_lt_of_cell? w _ hw587_1)).trans hw587_1), ((HB.out.cell (World.block_lt_of_cell? w _ hw588_0)).trans hw588_0), ((HB.out.cell (World.block_lt_of_cell? w _ hw588_1)).trans hw588_1)⟩ (fun hHeld => ?_)
               clear hK K
               refine norm_ (a' := ?_) ?_ ?_
               rotate_left
               ·show Act.put _ (some 51) _ = _
                simp only [Act.put, s1, s2, s3, i64_w, i32_w]
                rfl
               refine pA (i := 20) (N := some 52) (v := ?_) (a' := ?_) #[T_,T_,T_,T_,T_,T_,T_,T_,T_,T_,T_,T_,T_,T_,T_,T_,T_,T_,T_,T_,T_,F_,F_] rfl rfl HT_ (Or.inl ⟨by rfl, ?_⟩) ?_ ?_
               rotate_left
               ·intro w'
                go_simp
                with_reducible rfl
               rotate_left
               ·simp only [Act.put, s1, s2, s3, i64_w, i32_w]
                rfl
               refine pA (i := 21) (N := some 53) (v := ?_) (a' := ?_) #[T_,T_,T_,T_,T_,T_,T_,T_,T_,T_,T_,T_,T_,T_,T_,T_,T_,T_,T_,T_,T_,T_,F_] rfl rfl HT_ (Or.inl ⟨by rfl, ?_⟩) ?_ ?_
               rotate_left
               ·intro w'
                go_simp
                with_reducible rfl
               rotate_left
               ·simp only [Act.put, s1, s2, s3, i64_w, i32_w]
                rfl
               refine pA (i := 22) (N := some 8) (v := ?_) (a' := ?_) #[T_,T_,T_,T_,T_,T_,T_,T_,T_,T_,T_,T_,T_,T_,T_,T_,T_,T_,T_,T_,T_,T_,T_] rfl rfl HT_ (Or.inl ⟨by rfl, ?_⟩) ?_ ?_
               rotate_left
               ·intro w'
                go_simp
                with_reducible rfl
               rotate_left
               ·simp only [Act.put, s1, s2, s3, i64_w, i32_w]
                rfl
               refine done_ (done_of HT_.out (by kernel_rfl)) ?_
               try go_wp2
               go_roundg kj10
               case measure => have := HK1.out; have := HK2.out; have := HJ10.out; omega
               case rel => exact ⟨(!t589), (wrap64 (x9_2 + 1)), (by first | rfl | (simp; done) | (simp [*]; done)), (by first | rfl | (simp; done) | (simp [*]; done)), H', ⟨by have := HK1.out; have := HK2.out; have := HJ10.out; omega⟩, ⟨bk BK581.out⟩, ⟨bk BK582.out⟩, ⟨bw HB.out⟩⟩
              ·rw [if_neg c19] at H
               exact absurd H (by simp)
             ·rw [if_neg c18] at H
              exact absurd H (by simp)
            ·replace c17 := Bool.eq_false_iff.mpr c17
             subst c17
             rw [if_neg (show ¬ (false = true) by decide)] at H
             have H' := Aside0.mk H
             clear H
             try go_wp2
             have n0_ := Aside0.mk (blk_drew BK581.out)
             have n1_ := Aside0.mk (blk_drew BK582.out)
             have n2_ := Aside0.mk (below_drew1 HB.out)
             clear BK581
             clear BK582
             clear HB
             have BK581 := n0_
             have BK582 := n1_
             have HB := n2_
             clear n0_ n1_ n2_
             have p585 : 0 ≤ (x9_2 : Int) := dt_
             have q585 : x9_2 < (l2.length : Int) := dt_
             obtain ⟨ad585, e585, hx585_0, hx585_1⟩ := at_T23 HR2.out x9_2 p585 q585
             have hw585_1 := hx585_1
             have hw585_0 := hx585_0
             obtain rfl : ad583 = ad585 := (by injection e585)
             replace hx585_0 := (HB.out.cell (World.block_lt_of_cell? w _ hx585_0)).trans hx585_0
             replace hx585_1 := (HB.out.cell (World.block_lt_of_cell? w _ hx585_1)).trans hx585_1
             replace p585 := eq_true p585
             replace q585 := eq_true q585
             refine start_ (n := 23) (S := fun w' => w'.cell? ⟨gb581, 0, none⟩ = some (.int .i64 a0_0) ∧ w'.cell? ⟨gb581, 1, none⟩ = some (.int .i64 a0_1) ∧ w'.cell? ⟨gb582, 0, none⟩ = some (.int .i64 a1_0) ∧ w'.cell? ⟨gb582, 1, none⟩ = some (.int .i64 a1_1) ∧ w'.cell? (ad583.add ((x9_2).toNat * 2)) = some (.int .i64 ((rd_T23 l2 x9_2).f0)) ∧ w'.cell? ⟨(ad583.add ((x9_2).toNat * 2)).block, (ad583.add ((x9_2).toNat * 2)).off + 1, none⟩ = some (.int .i64 ((rd_T23 l2 x9_2).f1))) (ds := []) #[F_,F_,F_,F_,F_,F_,F_,F_,F_,F_,F_,F_,F_,F_,F_,F_,F_,F_,F_,F_,F_,F_,F_] (by kernel_rfl) rfl rfl ⟨(blk_cell BK581.out 0).trans rfl, (blk_cell BK581.out 1).trans rfl, (blk_cell BK582.out 0).trans rfl, (blk_cell BK582.out 1).trans rfl, ((HB.out.cell (World.block_lt_of_cell? w _ hw585_0)).trans hw585_0), ((HB.out.cell (World.block_lt_of_cell? w _ hw585_1)).trans hw585_1)⟩ (fun hHeld => ?_); refine with_tabW zelligeref08_Best.tab8 zelligeref08_Best.bits8 (fun HT_ HW_ => ?_)
             generalize wc.drew = w24 at BK581 BK582 HB hx585_0 hx585_1 hHeld ⊢
             refine pA (i := 2) (N := some 34) (v := ?_) (a' := ?_) #[F_,F_,T_,F_,F_,F_,F_,F_,F_,F_,F_,F_,F_,F_,F_,F_,F_,F_,F_,F_,F_,F_,F_] rfl rfl HT_ (Or.inl ⟨by rfl, ?_⟩) ?_ ?_
             rotate_left
             ·intro w'
              go_simp
              with_reducible rfl
             rotate_left
             ·simp only [Act.put, s1, s2, s3, i64_w, i32_w]
              rfl
             refine pA (i := 3) (N := some 35) (v := ?_) (a' := ?_) #[F_,F_,T_,T_,F_,F_,F_,F_,F_,F_,F_,F_,F_,F_,F_,F_,F_,F_,F_,F_,F_,F_,F_] rfl rfl HT_ (Or.inl ⟨by rfl, ?_⟩) ?_ ?_
             rotate_left
             ·intro w'
              go_simp
              with_reducible rfl
             rotate_left
             ·simp only [Act.put, s1, s2, s3, i64_w, i32_w]
              rfl
             refine pA (i := 4) (N := some 36) (v := ?_) (a' := ?_) #[F_,F_,T_,T_,T_,F_,F_,F_,F_,F_,F_,F_,F_,F_,F_,F_,F_,F_,F_,F_,F_,F_,F_] rfl rfl HT_ (Or.inl ⟨by rfl, ?_⟩) ?_ ?_
             rotate_left
             ·intro w'
              go_simp
              with_reducible rfl
             rotate_left
             ·simp only [Act.put, s1, s2, s3, i64_w, i32_w]
              rfl
             refine tA (i := 0) (N := some 32) (v := ?_) (a' := ?_) #[T_,F_,T_,T_,T_,F_,F_,F_,F_,F_,F_,F_,F_,F_,F_,F_,F_,F_,F_,F_,F_,F_,F_] rfl rfl HT_ HW_ (Or.inl ⟨by rfl, ?_⟩) hHeld ?_ ?_
             rotate_left
             ·rintro w' ⟨s0, s1, s2, s3, s4, s5⟩
              go_simp
              with_reducible rfl
             rotate_left
             ·simp only [Act.put, s1, s2, s3, i64_w, i32_w]
              rfl
             refine tA (i := 1) (N := some 33) (v := ?_) (a' := ?_) #[T_,T_,T_,T_,T_,F_,F_,F_,F_,F_,F_,F_,F_,F_,F_,F_,F_,F_,F_,F_,F_,F_,F_] rfl rfl HT_ HW_ (Or.inl ⟨by rfl, ?_⟩) hHeld ?_ ?_
             rotate_left
             ·rintro w' ⟨s0, s1, s2, s3, s4, s5⟩
              go_simp
              with_reducible rfl
             rotate_left
             ·simp only [Act.put, s1, s2, s3, i64_w, i32_w]
              rfl
             refine tA (i := 5) (N := some 37) (v := ?_) (a' := ?_) #[T_,T_,T_,T_,T_,T_,F_,F_,F_,F_,F_,F_,F_,F_,F_,F_,F_,F_,F_,F_,F_,F_,F_] rfl rfl HT_ HW_ (Or.inl ⟨by rfl, ?_⟩) hHeld ?_ ?_
             rotate_left
             ·rintro w' ⟨s0, s1, s2, s3, s4, s5⟩
              go_simp
              with_reducible rfl
             rotate_left
             ·simp only [Act.put, s1, s2, s3, i64_w, i32_w]
              rfl
             refine one_ (i := 6) (N := some 38) #[T_,T_,T_,T_,T_,T_,T_,F_,F_,F_,F_,F_,F_,F_,F_,F_,F_,F_,F_,F_,F_,F_,F_] rfl rfl (one_of HT_.out (by kernel_rfl)) (by decide) (fun K hK => ?_)
             refine goes_ Try.func15 (by kernel_rfl) rfl #[.agg #[.int .i64 a0_0, .int .i64 a0_1], .agg #[.int .i64 a1_0, .int .i64 a1_1], .agg #[.int .i64 ((rd_T23 l2 x9_2).f0), .int .i64 ((rd_T23 l2 x9_2).f1)]] (by rfl) rfl rfl (by (try simp only [List.map_toArray, List.map_cons, List.map_nil]); first | done | rfl | (simp only [List.length_drop, List.length_take]; rfl)) ?_
             with_reducible refine (zelligeref08_Left.calls a0_0 a0_1 a1_0 a1_1 ((rd_T23 l2 x9_2).f0) ((rd_T23 l2 x9_2).f1) false _ A16.out).mono ?_
             rintro e w25 ⟨rfl, hb⟩
             refine ⟨_, rfl, ?_⟩
             have n0_ := u1 BK581 hb
             have n1_ := u1 BK582 hb
             have n2_ := Aside0.mk (below_step (bw HB.out) hb)
             clear BK581
             clear BK582
             clear HB
             have BK581 := n0_
             have BK582 := n1_
             have HB := n2_
             clear n0_ n1_ n2_
             (try clear hb)
             (try clear hb2)
             (try clear hk)
             (try clear hi)
             refine hK.out _ _ ⟨(blk_cell BK581.out 0).trans rfl, (blk_cell BK581.out 1).trans rfl, (blk_cell BK582.out 0).trans rfl, (blk_cell BK582.out 1).trans rfl, ((HB.out.cell (World.block_lt_of_cell? w _ hw585_0)).trans hw585_0), ((HB.out.cell (World.block_lt_of_cell? w _ hw585_1)).trans hw585_1)⟩ (fun hHeld => ?_)
             clear hK K
             refine norm_ (a' := ?_) ?_ ?_
             rotate_left
             ·show Act.put _ (some 38) _ = _
              simp only [Act.put, s1, s2, s3, i64_w, i32_w]
              rfl
             refine pA (i := 7) (N := some 39) (v := ?_) (a' := ?_) #[T_,T_,T_,T_,T_,T_,T_,T_,F_,F_,F_,F_,F_,F_,F_,F_,F_,F_,F_,F_,F_,F_,F_] rfl rfl HT_ (Or.inl ⟨by rfl, ?_⟩) ?_ ?_
             rotate_left
             ·intro w'
              go_simp
              with_reducible rfl
             rotate_left
             ·simp only [Act.put, s1, s2, s3, i64_w, i32_w]
              rfl
             refine pA (i := 8) (N := some 40) (v := ?_) (a' := ?_) #[T_,T_,T_,T_,T_,T_,T_,T_,T_,F_,F_,F_,F_,F_,F_,F_,F_,F_,F_,F_,F_,F_,F_] rfl rfl HT_ (Or.inl ⟨by rfl, ?_⟩) ?_ ?_
             rotate_left
             ·intro w'
              go_simp
              with_reducible rfl
             rotate_left
             ·simp only [Act.put, s1, s2, s3, i64_w, i32_w]
              rfl
             refine pA (i := 9) (N := some 41) (v := undef) (a' := ?_) #[T_,T_,T_,T_,T_,T_,T_,T_,T_,T_,F_,F_,F_,F_,F_,F_,F_,F_,F_,F_,F_,F_,F_] rfl rfl HT_ (Or.inr ⟨by rfl, rfl⟩) ?_ ?_
             rotate_left
             ·simp only [Act.put, s1, s2, s3, i64_w, i32_w]
              rfl
             refine pA (i := 10) (N := some 42) (v := undef) (a' := ?_) #[T_,T_,T_,T_,T_,T_,T_,T_,T_,T_,T_,F_,F_,F_,F_,F_,F_,F_,F_,F_,F_,F_,F_] rfl rfl HT_ (Or.inr ⟨by rfl, rfl⟩) ?_ ?_
             rotate_left
             ·simp only [Act.put, s1, s2, s3, i64_w, i32_w]
              rfl
             refine pA (i := 11) (N := some 43) (v := undef) (a' := ?_) #[T_,T_,T_,T_,T_,T_,T_,T_,T_,T_,T_,T_,F_,F_,F_,F_,F_,F_,F_,F_,F_,F_,F_] rfl rfl HT_ (Or.inr ⟨by rfl, rfl⟩) ?_ ?_
             rotate_left
             ·simp only [Act.put, s1, s2, s3, i64_w, i32_w]
              rfl
             refine pA (i := 12) (N := some 44) (v := undef) (a' := ?_) #[T_,T_,T_,T_,T_,T_,T_,T_,T_,T_,T_,T_,T_,F_,F_,F_,F_,F_,F_,F_,F_,F_,F_] rfl rfl HT_ (Or.inr ⟨by rfl, rfl⟩) ?_ ?_
             rotate_left
             ·simp only [Act.put, s1, s2, s3, i64_w, i32_w]
              rfl
             refine pA (i := 13) (N := some 45) (v := undef) (a' := ?_) #[T_,T_,T_,T_,T_,T_,T_,T_,T_,T_,T_,T_,T_,T_,F_,F_,F_,F_,F_,F_,F_,F_,F_] rfl rfl HT_ (Or.inr ⟨by rfl, rfl⟩) ?_ ?_
             rotate_left
             ·simp only [Act.put, s1, s2, s3, i64_w, i32_w]
              rfl
             refine pA (i := 14) (N := some 46) (v := undef) (a' := ?_) #[T_,T_,T_,T_,T_,T_,T_,T_,T_,T_,T_,T_,T_,T_,T_,F_,F_,F_,F_,F_,F_,F_,F_] rfl rfl HT_ (Or.inr ⟨by rfl, rfl⟩) ?_ ?_
             rotate_left
             ·simp only [Act.put, s1, s2, s3, i64_w, i32_w]
              rfl
             refine pA (i := 15) (N := some 47) (v := undef) (a' := ?_) #[T_,T_,T_,T_,T_,T_,T_,T_,T_,T_,T_,T_,T_,T_,T_,T_,F_,F_,F_,F_,F_,F_,F_] rfl rfl HT_ (Or.inr ⟨by rfl, rfl⟩) ?_ ?_
             rotate_left
             ·simp only [Act.put, s1, s2, s3, i64_w, i32_w]
              rfl
             refine pA (i := 16) (N := some 48) (v := undef) (a' := ?_) #[T_,T_,T_,T_,T_,T_,T_,T_,T_,T_,T_,T_,T_,T_,T_,T_,T_,F_,F_,F_,F_,F_,F_] rfl rfl HT_ (Or.inr ⟨by rfl, rfl⟩) ?_ ?_
             rotate_left
             ·simp only [Act.put, s1, s2, s3, i64_w, i32_w]
              rfl
             refine pA (i := 17) (N := some 49) (v := undef) (a' := ?_) #[T_,T_,T_,T_,T_,T_,T_,T_,T_,T_,T_,T_,T_,T_,T_,T_,T_,T_,F_,F_,F_,F_,F_] rfl rfl HT_ (Or.inr ⟨by rfl, rfl⟩) ?_ ?_
             rotate_left
             ·simp only [Act.put, s1, s2, s3, i64_w, i32_w]
              rfl
             refine pA (i := 18) (N := some 50) (v := undef) (a' := ?_) #[T_,T_,T_,T_,T_,T_,T_,T_,T_,T_,T_,T_,T_,T_,T_,T_,T_,T_,T_,F_,F_,F_,F_] rfl rfl HT_ (Or.inr ⟨by rfl, rfl⟩) ?_ ?_
             rotate_left
             ·simp only [Act.put, s1, s2, s3, i64_w, i32_w]
              rfl
             refine pA (i := 19) (N := some 51) (v := undef) (a' := ?_) #[T_,T_,T_,T_,T_,T_,T_,T_,T_,T_,T_,T_,T_,T_,T_,T_,T_,T_,T_,T_,F_,F_,F_] rfl rfl HT_ (Or.inr ⟨by rfl, rfl⟩) ?_ ?_
             rotate_left
             ·simp only [Act.put, s1, s2, s3, i64_w, i32_w]
              rfl
             refine pA (i := 20) (N := some 52) (v := undef) (a' := ?_) #[T_,T_,T_,T_,T_,T_,T_,T_,T_,T_,T_,T_,T_,T_,T_,T_,T_,T_,T_,T_,T_,F_,F_] rfl rfl HT_ (Or.inr ⟨by rfl, rfl⟩) ?_ ?_
             rotate_left
             ·simp only [Act.put, s1, s2, s3, i64_w, i32_w]
              rfl
             refine pA (i := 21) (N := some 53) (v := ?_) (a' := ?_) #[T_,T_,T_,T_,T_,T_,T_,T_,T_,T_,T_,T_,T_,T_,T_,T_,T_,T_,T_,T_,T_,T_,F_] rfl rfl HT_ (Or.inl ⟨by rfl, ?_⟩) ?_ ?_
             rotate_left
             ·intro w'
              go_simp
              with_reducible rfl
             rotate_left
             ·simp only [Act.put, s1, s2, s3, i64_w, i32_w]
              rfl
             refine pA (i := 22) (N := some 8) (v := ?_) (a' := ?_) #[T_,T_,T_,T_,T_,T_,T_,T_,T_,T_,T_,T_,T_,T_,T_,T_,T_,T_,T_,T_,T_,T_,T_] rfl rfl HT_ (Or.inl ⟨by rfl, ?_⟩) ?_ ?_
             rotate_left
             ·intro w'
              go_simp
              with_reducible rfl
             rotate_left
             ·simp only [Act.put, s1, s2, s3, i64_w, i32_w]
              rfl
             refine done_ (done_of HT_.out (by kernel_rfl)) ?_
             try go_wp2
             go_roundg kj10
             case measure => have := HK1.out; have := HK2.out; have := HJ10.out; omega
             case rel => exact ⟨(true), (wrap64 (x9_2 + 1)), (by first | rfl | (simp; done) | (simp [*]; done)), (by first | rfl | (simp; done) | (simp [*]; done)), H', ⟨by have := HK1.out; have := HK2.out; have := HJ10.out; omega⟩, ⟨bk BK581.out⟩, ⟨bk BK582.out⟩, ⟨bw HB.out⟩⟩
           ·rw [if_neg c15] at H
            exact absurd H (by simp)
          ·rw [if_neg c14] at H
           exact absurd H (by simp)
         ·replace c13 := Bool.eq_false_iff.mpr c13
          subst c13
          rw [if_neg (show ¬ (false = true) by decide)] at H
          by_cases c26 : x8_2 = true
          ·subst c26
           rw [if_pos rfl] at H
           obtain rfl := Option.some.inj H
           go_wp2
           go_ret
           exact ⟨by first | rfl | (simp [*, errW_none, errW_some] <;> rfl), bw HB.out⟩
          ·replace c26 := Bool.eq_false_iff.mpr c26
           subst c26
           rw [if_neg (show ¬ (false = true) by decide)] at H
           have H' := Aside0.mk H
           clear H
           go_wp2
           go_roundg kj10
           case measure => have := HK1.out; have := HK2.out; have := HJ10.out; omega
           case rel => exact ⟨(wrap64 (x7_1 + 1)), (by first | rfl | (simp; done) | (simp [*]; done)), H', ⟨by have := HK1.out; have := HK2.out; have := HJ10.out; omega⟩, ⟨bk BK581.out⟩, ⟨bk BK582.out⟩, ⟨bw HB.out⟩⟩
    ·rw [if_neg c7] at H
     exact absurd H (by simp)
   ·rw [if_neg c6] at H
    have c6b0 : decide (x7_1 < (l2.length : Int)) = false := decide_eq_false c6
    clear c6
    obtain rfl := Option.some.inj H
    go_wp2
    go_ret
    exact ⟨by first | rfl | (simp [*, errW_none, errW_some] <;> rfl), bw HB.out⟩
end Go.Proofs.Ytlkngfidohiepaa.F
end
