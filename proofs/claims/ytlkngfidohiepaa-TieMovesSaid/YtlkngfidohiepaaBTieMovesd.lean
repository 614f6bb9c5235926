/- TieMoves: own texts in one (part 4 of 4): contracts of the functions that the law reaches. -/
import Derived.Test.YtlkngfidohiepaaBTieMovesc

section
namespace Go.Proofs.Ytlkngfidohiepaa.F
open RowKit YtlkngfidohiepaaW.PrintWords YtlkngfidohiepaaW.PrintLast YtlkngfidohiepaaW.PrintMore
set_option linter.unusedVariables false
set_option linter.unusedSimpArgs false
def zelligeref04_Long.f (k : Nat) (a0 : Int) : Option (Int × List Int) := if a0 = 0 then (some (0, ([] : List Int))) else (if a0 < 0 then ((zelligeref03_Of.f k (([(IntKind.u64.wrap (-(IntKind.u64.wrap (a0)))) % 4294967296, ((IntKind.u64.wrap (-(IntKind.u64.wrap (a0)))) / 4294967296) % 4294967296] : List Int))).bind fun t287 => (some ((-1), t287))) else ((zelligeref03_Of.f k (([(IntKind.u64.wrap (a0)) % 4294967296, ((IntKind.u64.wrap (a0)) / 4294967296) % 4294967296] : List Int))).bind fun t293 => (some (1, t293))))
theorem zelligeref04_Long.mono : ∀ a0 k, LeO (zelligeref04_Long.f k a0) (zelligeref04_Long.f (k + 1) a0) := by
 intro a0 k
 unfold zelligeref04_Long.f
 repeat' first
   | (with_reducible exact zelligeref03_Of.mono _ _)
   | (with_reducible exact LeO.refl _)
   | (with_reducible exact LeO.none _)
   | (with_reducible refine LeO.ite ?_ ?_)
   | (with_reducible refine LeO.bind ?_ (fun _ => ?_))
   | exact zelligeref03_Of.mono _ _
   | exact LeO.none _
   | refine LeO.ite ?_ ?_
   | refine LeO.bind ?_ (fun _ => ?_)
set_option maxHeartbeats 8000000 in
set_option maxRecDepth 100000 in
theorem zelligeref04_Long.calls (k : Nat) (a0 : Int) (r1 : Int) (r2 : List Int) (w : World) (h : zelligeref04_Long.f k a0 = some (r1, r2)) :
  Calls Try.prog 25 #[.int .i64 a0] w fun e w' => ∃ v1_ : Value, e = .returned (.agg #[.int .i64 r1, v1_]) ∧ Kd.R (Kd.int .i64) 3 w' w.heap.size (fun _ => True) v1_ r2 ∧ Below w.heap.size w w' := by
 have hu42 := Try.underlying42
 have HB := Aside0.mk (Below.refl w.heap.size w)
 have H : (if a0 = 0 then (some (0, ([] : List Int))) else (if a0 < 0 then ((zelligeref03_Of.f k (([(IntKind.u64.wrap (-(IntKind.u64.wrap (a0)))) % 4294967296, ((IntKind.u64.wrap (-(IntKind.u64.wrap (a0)))) / 4294967296) % 4294967296] : List Int))).bind fun t287 => (some ((-1), t287))) else ((zelligeref03_Of.f k (([(IntKind.u64.wrap (a0)) % 4294967296, ((IntKind.u64.wrap (a0)) / 4294967296) % 4294967296] : List Int))).bind fun t293 => (some (1, t293))))) = some (r1, r2) := h
 clear h
 by_cases c2 : a0 = 0
 ·rw [if_pos c2] at H
  have c2b0 : (a0 == 0) = true := beq_iff_eq.mpr c2
  have c2b1 : (a0 != 0) = false := bne_eq_false_iff_eq.mpr c2
  clear c2
  simp only [Option.some.injEq, Prod.mk.injEq] at H
  obtain ⟨rfl, rfl⟩ := H
  go_enter Try.func25, Try.ntmps25
  go_wp2_with (first | ((with_reducible refine gate_dst (N := 2) rfl ?_); refine bx 2 #[.int .i64 0, .slice none 0 0] 42 ?_; intro gb283 hg w3 hbox hb; have BK283 := Aside0.mk hbox; have GW283 := u3 hg HB; have GE283 := u3 hg HB; replace HB := u2 HB hb; clear hb hbox hg; obtain ⟨_, _, _, _⟩ := p2 BK283))
  refine bodyPost_ret (results_cell_row rfl _ _ gb283 42 #[.int .i64 0, .slice none 0 0] (0, 0) _ rfl (by (with_reducible repeat (first | refine blk_drewN ?_ _ | refine blk_drew ?_ | refine blk_alloc ?_ _)); refine blk_put (cs := #[.int .i64 0, .slice none 0 0]) ?_ 1 _ rfl; refine blk_put (cs := #[.int .i64 0, .slice none 0 0]) ?_ 0 _ rfl; (with_reducible repeat (first | refine blk_drewN ?_ _ | refine blk_drew ?_ | refine blk_alloc ?_ _)); exact BK283.out) Try.underlying42 rfl (by kernel_rfl)) rfl ?_
  exact ⟨_, by first | rfl | (simp [*, errW_none, errW_some] <;> rfl), by first | exact Kd.R_nil _ _ _ _ _ | exact Kd.N_nil _ _ _ _ _ | exact Kd.V_nil _ _ _ _ _ | exact Kd.Q_nil _ _ _ _ _ | exact Kd.S_nil _ _ _ _ _, by repeat (first | (with_reducible first | exact HB.out | apply below_alloc | apply pw_below_drewN | apply below_drew1 | refine below_set ?_ GE283.out) | exact HB.out)⟩
 ·rw [if_neg c2] at H
  have c2b0 : (a0 == 0) = false := beq_eq_false_iff_ne.mpr c2
  have c2b1 : (a0 != 0) = true := bne_iff_ne.mpr c2
  by_cases c5 : a0 < 0
  ·rw [if_pos c5] at H
   have c5b0 : decide (a0 < 0) = true := decide_eq_true c5
   clear c5
   obtain ⟨y284, hy284⟩ : ∃ y_ : List Int, y_ = (([(IntKind.u64.wrap (-(IntKind.u64.wrap (a0)))) % 4294967296, ((IntKind.u64.wrap (-(IntKind.u64.wrap (a0)))) / 4294967296) % 4294967296] : List Int)) := ⟨_, rfl⟩
   replace H : ((zelligeref03_Of.f k y284).bind fun t287 => (some ((-1), t287))) = some (r1, r2) := by first | (rw [hy284]; with_reducible exact H) | (have H2_ := (Option.bind_some _ _).symm.trans H; rw [hy284]; with_reducible exact H2_) | (have H2_ := (Option.bind_some _ _).symm.trans H; with_reducible exact H2_) | with_reducible exact H | (rw [hy284]; exact H) | exact H
   have Ny284 := Aside0.mk hy284
   clear hy284
   replace H := Option.bind_eq_some_iff.mp H
   obtain ⟨t287, A60, H⟩ := H
   try dsimp only at H
   have A6 := Aside0.mk A60
   clear A60
   simp only [Option.some.injEq, Prod.mk.injEq] at H
   obtain ⟨rfl, rfl⟩ := H
   go_enter Try.func25, Try.ntmps25
   go_wp2_with (first | ((with_reducible refine gate_dst (N := 2) rfl ?_); refine bx 2 #[.int .i64 0, .slice none 0 0] 42 ?_; intro gb283 hg w7 hbox hb; have BK283 := Aside0.mk hbox; have GW283 := u3 hg HB; have GE283 := u3 hg HB; replace HB := u2 HB hb; clear hb hbox hg) | ((with_reducible refine gate_dst (N := 21) rfl ?_); refine Kd.R_lit (Kd.int .u32) _ 54 ?hg (N := 21) ?hd (xs := ([(IntKind.u64.wrap (-(IntKind.u64.wrap (a0)))) % 4294967296, ((IntKind.u64.wrap (-(IntKind.u64.wrap (a0)))) / 4294967296) % 4294967296] : List Int)) (inner := [.int .u32 ((IntKind.u64.wrap (-(IntKind.u64.wrap (a0)))) % 4294967296), .int .u32 (((IntKind.u64.wrap (-(IntKind.u64.wrap (a0)))) / 4294967296) % 4294967296)]) (ok := fun _ => True) (okp := fun _ => True) ?hr ?hp (fun _ hk => hk) trivial (Below.refl _ _) (Nat.le_refl _) (by simp) ?_; (case hd => rfl); (case hg => rfl); (case hr => first | (go_simp; done) | (go_simp; rfl)); (case hp => exact (Reps.one (show Kd.M (Kd.int .u32) _ _ _ ((IntKind.u64.wrap (-(IntKind.u64.wrap (a0)))) % 4294967296) [.int .u32 ((IntKind.u64.wrap (-(IntKind.u64.wrap (a0)))) % 4294967296)] from rfl) (Reps.one (show Kd.M (Kd.int .u32) _ _ _ (((IntKind.u64.wrap (-(IntKind.u64.wrap (a0)))) / 4294967296) % 4294967296) [.int .u32 (((IntKind.u64.wrap (-(IntKind.u64.wrap (a0)))) / 4294967296) % 4294967296)] from rfl) (Reps.none _ _)))); intro v285 w8 ho9 hb hg_ hnew_; clear hg_ hnew_; (first | rw [← Ny284.out] at ho9 | (simp only [Int.reduceToNat] at ho9; rw [← Ny284.out] at ho9)); have n0_ := Aside0.mk (Kd.R_lower ho9 (below_size (bw HB.out))); have n1_ := u1 BK283 hb; have n2_ := u2 HB hb; clear BK283; clear HB; have HO286 := n0_; have BK283 := n1_; have HB := n2_; clear n0_ n1_ n2_; clear hb ho9; obtain ⟨Ao10, co10, eo10⟩ := Kd.R_slice HO286.out; subst eo10) | ((with_reducible refine gate_callee (f := 38) rfl ?_); refine gL (some 22) Try.func38 #[.slice Ao10 y284.length co10] rfl ?_; (with_reducible refine (zelligeref03_Of.calls k _ _ y284 t287 _ ?side1 ?side2 A6.out).mono ?_); (case side1 => repeat (first | exact (Kd.R_reads' HO286.out).2.2 | (with_reducible refine Kd.C_alloc ?_ _) | (with_reducible refine Kd.C_drewN ?_ _) | (with_reducible refine Kd.C_drew ?_))); (case side2 => exact (Kd.R_reads' HO286.out).2.1); rintro e w11 ⟨v288, rfl, ho0, hb⟩; refine ⟨_, rfl, ?_⟩; have n0_ := Aside0.mk (Kd.R_below (by (with_reducible repeat (first | apply Kd.R_alloc | apply Kd.R_drewN | apply Kd.R_drew)); exact HO286.out) hb); have n1_ := Aside0.mk (Kd.R_lower ho0 (below_size (bw HB.out))); have n2_ := u1 BK283 hb; have n3_ := u2 HB hb; clear HO286; clear BK283; clear HB; have HO286 := n0_; have HO289 := n1_; have BK283 := n2_; have HB := n3_; clear n0_ n1_ n2_ n3_; (try clear hb); (try clear hb2); (try clear hk); (try clear hi); (try clear ho0); obtain ⟨Ao12, co12, eo12⟩ := Kd.R_slice HO289.out; subst eo12; obtain ⟨_, _, _, _⟩ := p2 BK283))
   refine bodyPost_ret (results_cell_row rfl _ _ gb283 42 #[.int .i64 (-1), .slice Ao12 t287.length co12] (0, 0) _ rfl (by (with_reducible repeat (first | refine blk_drewN ?_ _ | refine blk_drew ?_ | refine blk_alloc ?_ _)); refine blk_put (cs := #[.int .i64 (-1), .slice none 0 0]) ?_ 1 _ rfl; refine blk_put (cs := #[.int .i64 0, .slice none 0 0]) ?_ 0 _ rfl; (with_reducible repeat (first | refine blk_drewN ?_ _ | refine blk_drew ?_ | refine blk_alloc ?_ _)); exact BK283.out) Try.underlying42 rfl (by kernel_rfl)) rfl ?_
   exact ⟨_, by first | rfl | (simp [*, errW_none, errW_some] <;> rfl), by (with_reducible repeat (first | apply Kd.R_alloc | apply Kd.R_drewN | apply Kd.R_drew)); exact Kd.R_mono (Kd.R_far (p := ⟨gb283, 1, none⟩) (Kd.R_far (p := ⟨gb283, 0, none⟩) (Kd.R_types HO289.out BK283.out (by decide)) (fun _ hk => hk.2) (.int .i64 (-1))) (fun _ hk => hk.2) (.slice Ao12 t287.length co12)) (fun _ hk => trivial), by repeat (first | (with_reducible first | exact HB.out | apply below_alloc | apply pw_below_drewN | apply below_drew1 | refine below_set ?_ GE283.out) | exact HB.out)⟩
  ·rw [if_neg c5] at H
   have c5b0 : decide (a0 < 0) = false := decide_eq_false c5
   clear c5
   obtain ⟨y290, hy290⟩ : ∃ y_ : List Int, y_ = (([(IntKind.u64.wrap (a0)) % 4294967296, ((IntKind.u64.wrap (a0)) / 4294967296) % 4294967296] : List Int)) := ⟨_, rfl⟩
   replace H : ((zelligeref03_Of.f k y290).bind fun t293 => (some (1, t293))) = some (r1, r2) := by first | (rw [hy290]; with_reducible exact H) | (have H2_ := (Option.bind_some _ _).symm.trans H; rw [hy290]; with_reducible exact H2_) | (have H2_ := (Option.bind_some _ _).symm.trans H; with_reducible exact H2_) | with_reducible exact H | (rw [hy290]; exact H) | exact H
   have Ny290 := Aside0.mk hy290
   clear hy290
   replace H := Option.bind_eq_some_iff.mp H
   obtain ⟨t293, A140, H⟩ := H
   try dsimp only at H
   have A14 := Aside0.mk A140
   clear A140
   simp only [Option.some.injEq, Prod.mk.injEq] at H
   obtain ⟨rfl, rfl⟩ := H
   go_enter Try.func25, Try.ntmps25
   go_wp2_with (first | ((with_reducible refine gate_dst (N := 2) rfl ?_); refine bx 2 #[.int .i64 0, .slice none 0 0] 42 ?_; intro gb283 hg w15 hbox hb; have BK283 := Aside0.mk hbox; have GW283 := u3 hg HB; have GE283 := u3 hg HB; replace HB := u2 HB hb; clear hb hbox hg) | ((with_reducible refine gate_dst (N := 21) rfl ?_); refine Kd.R_lit (Kd.int .u32) _ 54 ?hg (N := 21) ?hd (xs := ([(IntKind.u64.wrap (a0)) % 4294967296, ((IntKind.u64.wrap (a0)) / 4294967296) % 4294967296] : List Int)) (inner := [.int .u32 ((IntKind.u64.wrap (a0)) % 4294967296), .int .u32 (((IntKind.u64.wrap (a0)) / 4294967296) % 4294967296)]) (ok := fun _ => True) (okp := fun _ => True) ?hr ?hp (fun _ hk => hk) trivial (Below.refl _ _) (Nat.le_refl _) (by simp) ?_; (case hd => rfl); (case hg => rfl); (case hr => first | (go_simp; done) | (go_simp; rfl)); (case hp => exact (Reps.one (show Kd.M (Kd.int .u32) _ _ _ ((IntKind.u64.wrap (a0)) % 4294967296) [.int .u32 ((IntKind.u64.wrap (a0)) % 4294967296)] from rfl) (Reps.one (show Kd.M (Kd.int .u32) _ _ _ (((IntKind.u64.wrap (a0)) / 4294967296) % 4294967296) [.int .u32 (((IntKind.u64.wrap (a0)) / 4294967296) % 4294967296)] from rfl) (Reps.none _ _)))); intro v291 w16 ho17 hb hg_ hnew_; clear hg_ hnew_; (first | rw [← Ny290.out] at ho17 | (simp only [Int.reduceToNat] at ho17; rw [← Ny290.out] at ho17)); have n0_ := Aside0.mk (Kd.R_lower ho17 (below_size (bw HB.out))); have n1_ := u1 BK283 hb; have n2_ := u2 HB hb; clear BK283; clear HB; have HO292 := n0_; have BK283 := n1_; have HB := n2_; clear n0_ n1_ n2_; clear hb ho17; obtain ⟨Ao18, co18, eo18⟩ := Kd.R_slice HO292.out; subst eo18) | ((with_reducible refine gate_callee (f := 38) rfl ?_); refine gL (some 22) Try.func38 #[.slice Ao18 y290.length co18] rfl ?_; (with_reducible refine (zelligeref03_Of.calls k _ _ y290 t293 _ ?side1 ?side2 A14.out).mono ?_); (case side1 => repeat (first | exact (Kd.R_reads' HO292.out).2.2 | (with_reducible refine Kd.C_alloc ?_ _) | (with_reducible refine Kd.C_drewN ?_ _) | (with_reducible refine Kd.C_drew ?_))); (case side2 => exact (Kd.R_reads' HO292.out).2.1); rintro e w19 ⟨v294, rfl, ho0, hb⟩; refine ⟨_, rfl, ?_⟩; have n0_ := Aside0.mk (Kd.R_below (by (with_reducible repeat (first | apply Kd.R_alloc | apply Kd.R_drewN | apply Kd.R_drew)); exact HO292.out) hb); have n1_ := Aside0.mk (Kd.R_lower ho0 (below_size (bw HB.out))); have n2_ := u1 BK283 hb; have n3_ := u2 HB hb; clear HO292; clear BK283; clear HB; have HO292 := n0_; have HO295 := n1_; have BK283 := n2_; have HB := n3_; clear n0_ n1_ n2_ n3_; (try clear hb); (try clear hb2); (try clear hk); (try clear hi); (try clear ho0); obtain ⟨Ao20, co20, eo20⟩ := Kd.R_slice HO295.out; subst eo20; obtain ⟨_, _, _, _⟩ := p2 BK283))
   refine bodyPost_ret (results_cell_row rfl _ _ gb283 42 #[.int .i64 1, .slice Ao20 t293.length co20] (0, 0) _ rfl (by (with_reducible repeat (first | refine blk_drewN ?_ _ | refine blk_drew ?_ | refine blk_alloc ?_ _)); refine blk_put (cs := #[.int .i64 1, .slice none 0 0]) ?_ 1 _ rfl; refine blk_put (cs := #[.int .i64 0, .slice none 0 0]) ?_ 0 _ rfl; (with_reducible repeat (first | refine blk_drewN ?_ _ | refine blk_drew ?_ | refine blk_alloc ?_ _)); exact BK283.out) Try.underlying42 rfl (by kernel_rfl)) rfl ?_
   exact ⟨_, by first | rfl | (simp [*, errW_none, errW_some] <;> rfl), by (with_reducible repeat (first | apply Kd.R_alloc | apply Kd.R_drewN | apply Kd.R_drew)); exact Kd.R_mono (Kd.R_far (p := ⟨gb283, 1, none⟩) (Kd.R_far (p := ⟨gb283, 0, none⟩) (Kd.R_types HO295.out BK283.out (by decide)) (fun _ hk => hk.2) (.int .i64 1)) (fun _ hk => hk.2) (.slice Ao20 t293.length co20)) (fun _ hk => trivial), by repeat (first | (with_reducible first | exact HB.out | apply below_alloc | apply pw_below_drewN | apply below_drew1 | refine below_set ?_ GE283.out) | exact HB.out)⟩
end Go.Proofs.Ytlkngfidohiepaa.F
end
section
namespace Go.Proofs.Ytlkngfidohiepaa.F
end Go.Proofs.Ytlkngfidohiepaa.F
end
section
namespace Go.Proofs.Ytlkngfidohiepaa.F
end Go.Proofs.Ytlkngfidohiepaa.F
end
section
namespace Go.Proofs.Ytlkngfidohiepaa.Whole
open Go RowKit YtlkngfidohiepaaW.PrintWords YtlkngfidohiepaaW.PrintLast YtlkngfidohiepaaW.PrintMore Ytlkngfidohiepaa.F
set_option linter.unusedVariables false
structure RV (w : World) (v : Value) (xs : List Int) : Prop where
 mk :: (out : ∃ A c, v = .slice A xs.length c ∧ xs.length ≤ c ∧ Kd.C (Kd.int .i64) w A xs.length xs ∧ (xs = [] ∨ ∃ (a : Addr) (cells : Array Value), A = some a ∧ w.heap[a.block]? = some (.cells cells 3 (0, 0))))
theorem RV.nil (w : World) : RV w (.slice none 0 0) [] := ⟨none, 0, rfl, Nat.le_refl _, ⟨rfl, by decide, fun h => absurd h (by decide)⟩, .inl rfl⟩
theorem RV.below {w w' : World} {v : Value} {xs : List Int} (h : RV w v xs) (hb : Below w.heap.size w w') : RV w' v xs := by
 obtain ⟨A, c, rfl, hc, hC, ht⟩ := h
 refine ⟨A, c, rfl, hc, Kd.C_below hC hb, ?_⟩
 rcases ht with ht | ⟨a, cells, e, ht⟩
 ·exact .inl ht
 ·exact .inr ⟨a, cells, e, blk_below ht hb⟩
theorem RV.drewN {w : World} {v : Value} {xs : List Int} (h : RV w v xs) (n : Nat) : RV (w.drewN n) v xs := by
 obtain ⟨A, c, rfl, hc, hC, ht⟩ := h
 exact ⟨A, c, rfl, hc, Kd.C_drewN hC n, ht⟩
theorem RV.drew {w : World} {v : Value} {xs : List Int} (h : RV w v xs) : RV w.drew v xs := by
 obtain ⟨A, c, rfl, hc, hC, ht⟩ := h
 exact ⟨A, c, rfl, hc, Kd.C_drew hC, ht⟩
theorem RV.of_R {w : World} {base : Nat} {ok : Nat → Prop} {v : Value} {xs : List Int} (h : Kd.R (Kd.int .i64) 3 w base ok v xs) : RV w v xs := by
 obtain ⟨A, c, rfl, hc, hC⟩ := Kd.R_reads h
 refine ⟨A, c, rfl, hc, hC, ?_⟩
 rcases List.eq_nil_or_concat xs with rfl | ⟨l, x, rfl⟩
 ·exact .inl rfl
 ·obtain ⟨g, cap, e, _, _, cells, hg⟩ := Kd.R_form h (by simp)
  simp only [Value.slice.injEq] at e
  exact .inr ⟨_, cells, e.1, hg⟩
theorem RV.store {w : World} {v : Value} {xs : List Int} (h : RV w v xs) {g t : Nat} {cs : Array Value} (hg : w.heap[g]? = some (.cells cs t (0, 0))) (ht : t ≠ 3) (i : Nat) (u : Value) : RV (w.setCell ⟨g, i, none⟩ u) v xs := by
 obtain ⟨A, c, rfl, hc, hC, hty⟩ := h
 have far : ∀ (a : Addr) (cells : Array Value), w.heap[a.block]? = some (.cells cells 3 (0, 0)) → a.block ≠ g := by
  rintro a cells ha rfl
  rw [hg] at ha
  injection ha with ha
  injection ha with _ ha
  exact ht ha
 refine ⟨A, c, rfl, hc, ?_, ?_⟩
 ·rcases hty with rfl | ⟨a, cells, rfl, ha⟩
  ·exact ⟨hC.1, hC.2.1, fun h => absurd h (by simp)⟩
  ·refine ⟨hC.1, hC.2.1, fun hp => ?_⟩
   obtain ⟨ad, e, hr⟩ := hC.2.2 hp
   injection e with e
   subst e
   refine ⟨_, rfl, fun j p hj => ?_⟩
   obtain ⟨cc, h1, h2, h3⟩ := hr j p hj
   refine ⟨cc, h1, h2, fun i' u' hu => ?_⟩
   rw [World.cell?_setCell_far, h3 i' u' hu]
   rw [add_block]
   exact (far _ _ ha).symm
 ·rcases hty with rfl | ⟨a, cells, rfl, ha⟩
  ·exact .inl rfl
  ·exact .inr ⟨a, cells, rfl, (Below.heap_setCell w ⟨g, i, none⟩ u a.block (far _ _ ha)).trans ha⟩
theorem RV.form {w : World} {v : Value} {xs : List Int} (h : RV w v xs) : ∃ A c, v = .slice A xs.length c ∧ xs.length ≤ c ∧ Kd.C (Kd.int .i64) w A xs.length xs := by
 obtain ⟨A, c, e, hc, hC, _⟩ := h
 exact ⟨A, c, e, hc, hC⟩
theorem RV.reads {w : World} {A : Option Addr} {n c : Nat} {xs : List Int} (h : RV w (.slice A n c) xs) : n = xs.length ∧ n ≤ c ∧ Kd.C (Kd.int .i64) w A xs.length xs := by
 obtain ⟨A', c', e, hc, hC, _⟩ := h
 simp only [Value.slice.injEq] at e
 obtain ⟨rfl, rfl, rfl⟩ := e
 exact ⟨rfl, hc, hC⟩
theorem two_new (w : World) (o0 o1 : Obj) : ((w.alloc o0).alloc o1).heap[w.heap.size]? = some o0 ∧ ((w.alloc o0).alloc o1).heap[w.heap.size + 1]? = some o1 ∧ Below w.heap.size w ((w.alloc o0).alloc o1) ∧ ((w.alloc o0).alloc o1).heap.size = w.heap.size + 2 := by
 have e1 : (w.alloc o0).heap.size = w.heap.size + 1 := by simp
 refine ⟨blk_alloc (blk_new _ _) _, ?_, ((Below.refl _ _).alloc (Nat.le_refl _) _).alloc (by simp) _, by simp⟩
 rw [← e1]; exact blk_new _ _
theorem three_new (w : World) (o0 o1 o2 : Obj) : (((w.alloc o0).alloc o1).alloc o2).heap[w.heap.size]? = some o0 ∧ (((w.alloc o0).alloc o1).alloc o2).heap[w.heap.size + 1]? = some o1 ∧ (((w.alloc o0).alloc o1).alloc o2).heap[w.heap.size + 1 + 1]? = some o2 ∧
  Below w.heap.size w (((w.alloc o0).alloc o1).alloc o2) ∧ (((w.alloc o0).alloc o1).alloc o2).heap.size = w.heap.size + 3 := by
 have e1 : (w.alloc o0).heap.size = w.heap.size + 1 := by simp
 have e2 : ((w.alloc o0).alloc o1).heap.size = w.heap.size + 1 + 1 := by simp
 refine ⟨blk_alloc (blk_alloc (blk_new _ _) _) _, ?_, ?_, (((Below.refl _ _).alloc (Nat.le_refl _) _).alloc (by simp) _).alloc (by simp; omega) _, by simp⟩
 ·rw [← e1]; exact blk_alloc (blk_new _ _) _
 ·rw [← e2]; exact blk_new _ _
theorem far2 {w : World} {b o c : Nat} {u v x : Value} (h : w.cell? ⟨b, o, none⟩ = some x) (hne : b ≠ c) : ((w.setCell ⟨c, 0, none⟩ u).setCell ⟨c, 1, none⟩ v).cell? ⟨b, o, none⟩ = some x := by
 rw [World.cell?_setCell_far, World.cell?_setCell_far, h]
 ·exact hne.symm
 ·exact hne.symm
theorem below_set2 {w W : World} (h : Below w.heap.size w W) {g : Nat} (hg : w.heap.size ≤ g) (i j : Nat) (u v : Value) : Below w.heap.size w ((W.setCell ⟨g, i, none⟩ u).setCell ⟨g, j, none⟩ v) := below_set (below_set h hg) hg
theorem make1_zero (s : Int) (A : Option Addr) (c : Nat) (w : World) :
  Calls Try.prog 49 #[.int .i64 s, .slice A 0 c] w fun e w' => e = .returned (.agg #[.int .i64 0, .slice none 0 0]) ∧ Below w.heap.size w w' := by
 go_enter Try.func49, Try.ntmps49
 go_wp2
 exact bodyPost_ret (v := .agg #[.int .i64 0, .slice none 0 0]) (by simp [results, Try.results49, go_sem]) rfl ⟨rfl, (Below.refl _ _).alloc (Nat.le_refl _) _⟩
theorem make1_pos (s : Int) (A : Option Addr) (n c : Nat) (hn : ((n : Int) == 0) = false) (w : World) :
  Calls Try.prog 49 #[.int .i64 s, .slice A n c] w fun e w' => e = .returned (.agg #[.int .i64 s, .slice A n c]) ∧ Below w.heap.size w w' := by
 go_enter Try.func49, Try.ntmps49
 go_wp2
 exact bodyPost_ret (v := .agg #[.int .i64 s, .slice A n c]) (by simp [results, Try.results49, go_sem]) rfl ⟨rfl, (Below.refl _ _).alloc (Nat.le_refl _) _⟩
theorem make1_any {xs : List Int} (s s' : Int) (hz : Aside0 ((if xs = [] then 0 else s) = s')) (v : Value) (w : World) (h : RV w v xs) :
  Calls Try.prog 49 #[.int .i64 s, v] w fun e w' => ∃ u, e = .returned (.agg #[.int .i64 s', u]) ∧ RV w' u xs ∧ Below w.heap.size w w' := by
 obtain ⟨A, c, rfl, hc, hC⟩ := h.form
 obtain rfl := hz.out
 by_cases h0 : xs = []
 ·subst h0
  exact (make1_zero s A c w).mono fun e w' ⟨he, hb⟩ => ⟨_, he, RV.nil _, hb⟩
 ·refine (make1_pos s A xs.length c ?_ w).mono fun e w' ⟨he, hb⟩ => ⟨_, ?_, h.below hb, hb⟩
  ·have := List.length_pos_iff.2 h0
   exact beq_eq_false_iff_ne.2 (by omega)
  ·rw [if_neg h0]; exact he
theorem neg_any (s : Int) (A : Option Addr) (n c : Nat) (w : World) :
  Calls Try.prog 51 #[.agg #[.int .i64 s, .slice A n c]] w fun e w' => e = .returned (.agg #[.int .i64 (wrap64 (0 - s)), .slice A n c]) ∧ Below w.heap.size w w' := by
 go_enter Try.func51, Try.ntmps51
 go_wp2
 exact bodyPost_ret (v := .agg #[.int .i64 (wrap64 (0 - s)), .slice A n c]) (by simp [results, Try.results51, go_sem]) rfl ⟨rfl, ((Below.refl _ _).alloc (Nat.le_refl _) _).alloc (by simp) _⟩
theorem add_left (t : Int) (A B : Option Addr) (n c m d : Nat) (w : World) :
  Calls Try.prog 35 #[.agg #[.int .i64 0, .slice A n c], .agg #[.int .i64 t, .slice B m d]] w fun e w' => e = .returned (.agg #[.int .i64 t, .slice B m d]) ∧ Below w.heap.size w w' := by
 go_enter Try.func35, Try.ntmps35
 go_wp2
 exact bodyPost_ret (v := .agg #[.int .i64 t, .slice B m d]) (by simp [results, Try.results35, go_sem]) rfl ⟨rfl, (((Below.refl _ _).alloc (Nat.le_refl _) _).alloc (by simp) _).alloc (by simp; omega) _⟩
theorem add_right (s : Int) (hs : (s == 0) = false) (A B : Option Addr) (n c m d : Nat) (w : World) :
  Calls Try.prog 35 #[.agg #[.int .i64 s, .slice A n c], .agg #[.int .i64 0, .slice B m d]] w fun e w' => e = .returned (.agg #[.int .i64 s, .slice A n c]) ∧ Below w.heap.size w w' := by
 go_enter Try.func35, Try.ntmps35
 go_wp2
 exact bodyPost_ret (v := .agg #[.int .i64 s, .slice A n c]) (by simp [results, Try.results35, go_sem]) rfl ⟨rfl, (((Below.refl _ _).alloc (Nat.le_refl _) _).alloc (by simp) _).alloc (by simp; omega) _⟩
set_option maxHeartbeats 1000000 in
theorem add_same (s : Int) (hs : (s == 0) = false) (A B : Option Addr) (n c m d : Nat) (xs ys zs : List Int) (k : Nat) (w : World) (hA : RV w (.slice A n c) xs) (hB : RV w (.slice B m d) ys) (H : Aside0 (zelligeref03_Add.f k xs ys = some zs)) :
  Calls Try.prog 35 #[.agg #[.int .i64 s, .slice A n c], .agg #[.int .i64 s, .slice B m d]] w fun e w' => ∃ v, e = .returned (.agg #[.int .i64 s, v]) ∧ RV w' v zs ∧ Below w.heap.size w w' := by
 obtain ⟨qa, qc, hA'⟩ := hA.reads
 obtain ⟨qb, qd, hB'⟩ := hB.reads
 subst qa qb
 have HA := Aside0.mk (fun (W : World) (hb : Below w.heap.size w W) => hA.below hb)
 have HB := Aside0.mk (fun (W : World) (hb : Below w.heap.size w W) => hB.below hb)
 clear hA hB hA' hB'
 go_enter Try.func35, Try.ntmps35
 go_wp2_with fail
 obtain ⟨n0, n1, n2, bw, nw⟩ := three_new w (.cells #[.int .i64 s, .slice A xs.length c] 42) (.cells #[.int .i64 s, .slice B ys.length d] 42) (.cells #[.int .i64 0, .slice none 0 0] 42)
 generalize (((w.alloc (.cells #[.int .i64 s, .slice A xs.length c] 42)).alloc (.cells #[.int .i64 s, .slice B ys.length d] 42)).alloc (.cells #[.int .i64 0, .slice none 0 0] 42)) = W at n0 n1 n2 bw nw ⊢
 have N2 := Aside0.mk n2
 have BW := Aside0.mk bw
 have c0 : W.cell? ⟨w.heap.size, 0, none⟩ = some (.int .i64 s) := (blk_cell n0 0).trans rfl
 have c1 : W.cell? ⟨w.heap.size, 1, none⟩ = some (.slice A xs.length c) := (blk_cell n0 1).trans rfl
 have k0 : W.cell? ⟨w.heap.size + 1, 0, none⟩ = some (.int .i64 s) := (blk_cell n1 0).trans rfl
 have c2 : W.cell? ⟨w.heap.size + 1, 1, none⟩ = some (.slice B ys.length d) := (blk_cell n1 1).trans rfl
 clear n0 n1 n2 bw nw
 go_region_held3 (fun w' => w'.cell? ⟨w.heap.size, 0, none⟩ = some (.int .i64 s) ∧ w'.cell? ⟨w.heap.size, 1, none⟩ = some (.slice A xs.length c) ∧ w'.cell? ⟨w.heap.size + 1, 1, none⟩ = some (.slice B ys.length d)) (first | exact ⟨c0, c1, c2⟩ | exact ⟨d0, d1, d2⟩ | exact ⟨far2 d0 (by omega), far2 d1 (by omega), far2 d2 (by omega)⟩)
  (first | (go_at_call 52; refine (zelligeref03_Add.calls k A c xs B d ys zs _ ?s1 ?s2 ?s3 ?s4 H.out).mono ?_; (case s1 => exact (HA.out _ (below_drew BW.out)).reads.2.2); (case s2 => exact qc); (case s3 => exact (HB.out _ (below_drew BW.out)).reads.2.2); (case s4 => exact qd); rintro e w1 ⟨v, rfl, hR, hb⟩; have HR := Aside0.mk (RV.of_R hR); clear hR; obtain ⟨A2, cc2, rfl, hl2, hC2⟩ := HR.out.form; clear hC2; have d0 := pw_cell_below (w := W.drew) hb c0; have d1 := pw_cell_below (w := W.drew) hb c1; have d2 := pw_cell_below (w := W.drew) hb c2; have m2 := blk_below (w := W.drew) N2.out hb; have d3 : w1.cell? ⟨w.heap.size + 1 + 1, 0, none⟩ = some (.int .i64 0) := (blk_cell m2 0).trans rfl; have d4 : w1.cell? ⟨w.heap.size + 1 + 1, 1, none⟩ = some (.slice none 0 0) := (blk_cell m2 1).trans rfl; have g3 := blk_frozen m2 0; have g4 := blk_frozen m2 1; have M2 := Aside0.mk m2; have Hb := Aside0.mk hb; clear hb m2))
 go_wp2
 refine bodyPost_ret (results_cell_row rfl _ _ (w.heap.size + 1 + 1) 42 #[.int .i64 s, .slice A2 zs.length cc2] (0, 0) _ rfl (blk_put (cs := #[.int .i64 s, .slice none 0 0]) (blk_put (cs := #[.int .i64 0, .slice none 0 0]) M2.out 0 _ rfl) 1 _ rfl) Try.underlying42 rfl (by kernel_rfl)) rfl ?_
 exact ⟨_, rfl, (HR.out.store M2.out (by decide) 0 _).store (blk_put (cs := #[.int .i64 0, .slice none 0 0]) M2.out 0 _ rfl) (by decide) 1 _, below_set2 (below_then (below_drew BW.out) BW.out.size Hb.out) (by omega) _ _ _ _⟩
set_option maxHeartbeats 2000000 in
theorem add_ge (s t : Int) (hs : (s == 0) = false) (ht : (t == 0) = false) (hst : (s == t) = false) (A B : Option Addr) (n c m d : Nat) (xs ys zs : List Int) (cv : Int) (hc : decide (cv < 0) = false) (hc' : decide (0 ≤ cv) = true) (k : Nat) (w : World) (hA : RV w (.slice A n c) xs) (hB : RV w (.slice B m d) ys) (H : Aside0 (zelligeref03_Cmp.f k xs ys = some cv)) (Hs : Aside0 (zelligeref03_Sub.f k xs ys = some zs)) (r : Int) (hz : Aside0 ((if zs = [] then 0 else s) = r)) :
  Calls Try.prog 35 #[.agg #[.int .i64 s, .slice A n c], .agg #[.int .i64 t, .slice B m d]] w fun e w' => ∃ v, e = .returned (.agg #[.int .i64 r, v]) ∧ RV w' v zs ∧ Below w.heap.size w w' := by
 obtain ⟨qa, qc, hA'⟩ := hA.reads
 obtain ⟨qb, qd, hB'⟩ := hB.reads
 subst qa qb
 have HA := Aside0.mk (fun (W : World) (hb : Below w.heap.size w W) => hA.below hb)
 have HB := Aside0.mk (fun (W : World) (hb : Below w.heap.size w W) => hB.below hb)
 clear hA hB hA' hB'
 go_enter Try.func35, Try.ntmps35
 go_wp2_with fail
 obtain ⟨n0, n1, n2, bw, nw⟩ := three_new w (.cells #[.int .i64 s, .slice A xs.length c] 42) (.cells #[.int .i64 t, .slice B ys.length d] 42) (.cells #[.int .i64 0, .slice none 0 0] 42)
 generalize (((w.alloc (.cells #[.int .i64 s, .slice A xs.length c] 42)).alloc (.cells #[.int .i64 t, .slice B ys.length d] 42)).alloc (.cells #[.int .i64 0, .slice none 0 0] 42)) = W at n0 n1 n2 bw nw ⊢
 have N2 := Aside0.mk n2
 have BW := Aside0.mk bw
 have c0 : W.cell? ⟨w.heap.size, 0, none⟩ = some (.int .i64 s) := (blk_cell n0 0).trans rfl
 have c1 : W.cell? ⟨w.heap.size, 1, none⟩ = some (.slice A xs.length c) := (blk_cell n0 1).trans rfl
 have k0 : W.cell? ⟨w.heap.size + 1, 0, none⟩ = some (.int .i64 t) := (blk_cell n1 0).trans rfl
 have c2 : W.cell? ⟨w.heap.size + 1, 1, none⟩ = some (.slice B ys.length d) := (blk_cell n1 1).trans rfl
 clear n0 n1 n2 bw nw
 refine (zelligeref03_Cmp.calls k A c xs B d ys cv _ ?s1 ?s2 ?s3 ?s4 H.out).mono ?_
 case s1 => exact (HA.out _ BW.out).reads.2.2
 case s2 => exact qc
 case s3 => exact (HB.out _ BW.out).reads.2.2
 case s4 => exact qd
 rintro e w1 ⟨rfl, ⟨nd, rfl⟩⟩
 go_wp2_with fail
 go_region_held3 (fun w' => w'.cell? ⟨w.heap.size, 0, none⟩ = some (.int .i64 s) ∧ w'.cell? ⟨w.heap.size, 1, none⟩ = some (.slice A xs.length c) ∧ w'.cell? ⟨w.heap.size + 1, 1, none⟩ = some (.slice B ys.length d)) (first | exact ⟨c0, c1, c2⟩ | exact ⟨d0, d1, d2⟩ | exact ⟨e0, e1, e2⟩ | exact ⟨far2 e0 (by omega), far2 e1 (by omega), far2 e2 (by omega)⟩)
  (first | (go_at_call 54; refine (zelligeref03_Sub.calls k A c xs B d ys zs _ ?s1 ?s2 ?s3 ?s4 Hs.out).mono ?_; (case s1 => exact (HA.out _ (by repeat (first | exact BW.out | apply below_drew | apply pw_below_drewN))).reads.2.2); (case s2 => exact qc); (case s3 => exact (HB.out _ (by repeat (first | exact BW.out | apply below_drew | apply pw_below_drewN))).reads.2.2); (case s4 => exact qd); rintro e w1 ⟨v, rfl, hR, hb⟩; have HR := Aside0.mk (RV.of_R hR); clear hR; obtain ⟨A2, cc2, rfl, hl2, hC2⟩ := HR.out.form; clear hC2; have d0 := pw_cell_below hb c0; have d1 := pw_cell_below hb c1; have d2 := pw_cell_below hb c2; have M1 := Aside0.mk (blk_below (w := W.drewN (nd + 1)) (o := .cells #[.int .i64 0, .slice none 0 0] 42 (0, 0)) N2.out hb); have Hb := Aside0.mk (below_then (B := w.heap.size) (w := w) (w1 := W.drewN (nd + 1)) (by repeat (first | exact BW.out | apply below_drew | apply pw_below_drewN)) BW.out.size hb); clear hb) | (go_at_call 49; refine (make1_any _ r hz _ _ HR.out).mono ?_; rintro e w2 ⟨u, rfl, hR, hb⟩; have HU := Aside0.mk hR; clear hR; obtain ⟨A3, cc3, rfl, hl3, hC3⟩ := HU.out.form; clear hC3; have e0 := pw_cell_below hb d0; have e1 := pw_cell_below hb d1; have e2 := pw_cell_below hb d2; have m2 := blk_below M1.out hb; have e3 : w2.cell? ⟨w.heap.size + 1 + 1, 0, none⟩ = some (.int .i64 0) := (blk_cell m2 0).trans rfl; have e4 : w2.cell? ⟨w.heap.size + 1 + 1, 1, none⟩ = some (.slice none 0 0) := (blk_cell m2 1).trans rfl; have g3 := blk_frozen m2 0; have g4 := blk_frozen m2 1; have M2 := Aside0.mk m2; have Hb2 := Aside0.mk (below_then Hb.out Hb.out.size hb); clear hb m2))
 go_wp2
 refine bodyPost_ret (results_cell_row rfl _ _ (w.heap.size + 1 + 1) 42 #[.int .i64 r, .slice A3 zs.length cc3] (0, 0) _ rfl (blk_put (cs := #[.int .i64 r, .slice none 0 0]) (blk_put (cs := #[.int .i64 0, .slice none 0 0]) M2.out 0 _ rfl) 1 _ rfl) Try.underlying42 rfl (by kernel_rfl)) rfl ?_
 exact ⟨_, rfl, (HU.out.store M2.out (by decide) 0 _).store (blk_put (cs := #[.int .i64 0, .slice none 0 0]) M2.out 0 _ rfl) (by decide) 1 _, below_set2 Hb2.out (by omega) _ _ _ _⟩
set_option maxHeartbeats 2000000 in
theorem add_lt (s t : Int) (hs : (s == 0) = false) (ht : (t == 0) = false) (hst : (s == t) = false) (A B : Option Addr) (n c m d : Nat) (xs ys zs : List Int) (cv : Int) (hc : decide (cv < 0) = true) (hc' : decide (0 ≤ cv) = false) (k : Nat) (w : World) (hA : RV w (.slice A n c) xs) (hB : RV w (.slice B m d) ys) (H : Aside0 (zelligeref03_Cmp.f k xs ys = some cv)) (Hs : Aside0 (zelligeref03_Sub.f k ys xs = some zs)) (r : Int) (hz : Aside0 ((if zs = [] then 0 else t) = r)) :
  Calls Try.prog 35 #[.agg #[.int .i64 s, .slice A n c], .agg #[.int .i64 t, .slice B m d]] w fun e w' => ∃ v, e = .returned (.agg #[.int .i64 r, v]) ∧ RV w' v zs ∧ Below w.heap.size w w' := by
 obtain ⟨qa, qc, hA'⟩ := hA.reads
 obtain ⟨qb, qd, hB'⟩ := hB.reads
 subst qa qb
 have HA := Aside0.mk (fun (W : World) (hb : Below w.heap.size w W) => hA.below hb)
 have HB := Aside0.mk (fun (W : World) (hb : Below w.heap.size w W) => hB.below hb)
 clear hA hB hA' hB'
 go_enter Try.func35, Try.ntmps35
 go_wp2_with fail
 obtain ⟨n0, n1, n2, bw, nw⟩ := three_new w (.cells #[.int .i64 s, .slice A xs.length c] 42) (.cells #[.int .i64 t, .slice B ys.length d] 42) (.cells #[.int .i64 0, .slice none 0 0] 42)
 generalize (((w.alloc (.cells #[.int .i64 s, .slice A xs.length c] 42)).alloc (.cells #[.int .i64 t, .slice B ys.length d] 42)).alloc (.cells #[.int .i64 0, .slice none 0 0] 42)) = W at n0 n1 n2 bw nw ⊢
 have N2 := Aside0.mk n2
 have BW := Aside0.mk bw
 have c0 : W.cell? ⟨w.heap.size, 0, none⟩ = some (.int .i64 s) := (blk_cell n0 0).trans rfl
 have c1 : W.cell? ⟨w.heap.size, 1, none⟩ = some (.slice A xs.length c) := (blk_cell n0 1).trans rfl
 have k0 : W.cell? ⟨w.heap.size + 1, 0, none⟩ = some (.int .i64 t) := (blk_cell n1 0).trans rfl
 have c2 : W.cell? ⟨w.heap.size + 1, 1, none⟩ = some (.slice B ys.length d) := (blk_cell n1 1).trans rfl
 clear n0 n1 n2 bw nw
 refine (zelligeref03_Cmp.calls k A c xs B d ys cv _ ?s1 ?s2 ?s3 ?s4 H.out).mono ?_
 case s1 => exact (HA.out _ BW.out).reads.2.2
 case s2 => exact qc
 case s3 => exact (HB.out _ BW.out).reads.2.2
 case s4 => exact qd
 rintro e w1 ⟨rfl, ⟨nd, rfl⟩⟩
 go_wp2_with fail
 go_region_held3 (fun w' => w'.cell? ⟨w.heap.size + 1, 0, none⟩ = some (.int .i64 t) ∧ w'.cell? ⟨w.heap.size, 1, none⟩ = some (.slice A xs.length c) ∧ w'.cell? ⟨w.heap.size + 1, 1, none⟩ = some (.slice B ys.length d)) (first | exact ⟨k0, c1, c2⟩ | exact ⟨d0, d1, d2⟩ | exact ⟨e0, e1, e2⟩ | exact ⟨far2 e0 (by omega), far2 e1 (by omega), far2 e2 (by omega)⟩)
  (first | (go_at_call 54; refine (zelligeref03_Sub.calls k B d ys A c xs zs _ ?s1 ?s2 ?s3 ?s4 Hs.out).mono ?_; (case s1 => exact (HB.out _ (by repeat (first | exact BW.out | apply below_drew | apply pw_below_drewN))).reads.2.2); (case s2 => exact qd); (case s3 => exact (HA.out _ (by repeat (first | exact BW.out | apply below_drew | apply pw_below_drewN))).reads.2.2); (case s4 => exact qc); rintro e w1 ⟨v, rfl, hR, hb⟩; have HR := Aside0.mk (RV.of_R hR); clear hR; obtain ⟨A2, cc2, rfl, hl2, hC2⟩ := HR.out.form; clear hC2; have d0 := pw_cell_below hb k0; have d1 := pw_cell_below hb c1; have d2 := pw_cell_below hb c2; have M1 := Aside0.mk (blk_below (w := W.drewN (nd + 1)) (o := .cells #[.int .i64 0, .slice none 0 0] 42 (0, 0)) N2.out hb); have Hb := Aside0.mk (below_then (B := w.heap.size) (w := w) (w1 := W.drewN (nd + 1)) (by repeat (first | exact BW.out | apply below_drew | apply pw_below_drewN)) BW.out.size hb); clear hb) | (go_at_call 49; refine (make1_any _ r hz _ _ HR.out).mono ?_; rintro e w2 ⟨u, rfl, hR, hb⟩; have HU := Aside0.mk hR; clear hR; obtain ⟨A3, cc3, rfl, hl3, hC3⟩ := HU.out.form; clear hC3; have e0 := pw_cell_below hb d0; have e1 := pw_cell_below hb d1; have e2 := pw_cell_below hb d2; have m2 := blk_below M1.out hb; have e3 : w2.cell? ⟨w.heap.size + 1 + 1, 0, none⟩ = some (.int .i64 0) := (blk_cell m2 0).trans rfl; have e4 : w2.cell? ⟨w.heap.size + 1 + 1, 1, none⟩ = some (.slice none 0 0) := (blk_cell m2 1).trans rfl; have g3 := blk_frozen m2 0; have g4 := blk_frozen m2 1; have M2 := Aside0.mk m2; have Hb2 := Aside0.mk (below_then Hb.out Hb.out.size hb); clear hb m2))
 go_wp2
 refine bodyPost_ret (results_cell_row rfl _ _ (w.heap.size + 1 + 1) 42 #[.int .i64 r, .slice A3 zs.length cc3] (0, 0) _ rfl (blk_put (cs := #[.int .i64 r, .slice none 0 0]) (blk_put (cs := #[.int .i64 0, .slice none 0 0]) M2.out 0 _ rfl) 1 _ rfl) Try.underlying42 rfl (by kernel_rfl)) rfl ?_
 exact ⟨_, rfl, (HU.out.store M2.out (by decide) 0 _).store (blk_put (cs := #[.int .i64 0, .slice none 0 0]) M2.out 0 _ rfl) (by decide) 1 _, below_set2 Hb2.out (by omega) _ _ _ _⟩
end Go.Proofs.Ytlkngfidohiepaa.Whole
end
section
namespace Go.Proofs.Ytlkngfidohiepaa.Whole
open Go RowKit YtlkngfidohiepaaW.PrintWords YtlkngfidohiepaaW.PrintLast YtlkngfidohiepaaW.PrintMore Ytlkngfidohiepaa.F Ytlkngfidohiepaa.Dig
set_option linter.unusedVariables false
structure NI (w : World) (v : Value) (n : Int) : Prop where
 mk :: (out : ∃ A l c, v = .agg #[.int .i64 n.sign, .slice A l c] ∧ RV w (.slice A l c) (dig n.natAbs))
theorem NI.below {w w' : World} {v : Value} {n : Int} (h : NI w v n) (hb : Below w.heap.size w w') : NI w' v n := by
 obtain ⟨A, l, c, rfl, h⟩ := h
 exact ⟨A, l, c, rfl, h.below hb⟩
theorem NI.drewN {w : World} {v : Value} {n : Int} (h : NI w v n) (k : Nat) : NI (w.drewN k) v n := by
 obtain ⟨A, l, c, rfl, h⟩ := h
 exact ⟨A, l, c, rfl, h.drewN k⟩
theorem NI.store {w : World} {v : Value} {n : Int} (h : NI w v n) {g t : Nat} {cs : Array Value} (hg : w.heap[g]? = some (.cells cs t (0, 0))) (ht : t ≠ 3) (i : Nat) (u : Value) : NI (w.setCell ⟨g, i, none⟩ u) v n := by
 obtain ⟨A, l, c, rfl, h⟩ := h
 exact ⟨A, l, c, rfl, h.store hg ht i u⟩
theorem NI.shape {w : World} {v : Value} {n : Int} (h : NI w v n) : ∃ (s : Int) (A : Option Addr) (l c : Nat), v = .agg #[.int .i64 s, .slice A l c] := by
 obtain ⟨A, l, c, rfl, h⟩ := h
 exact ⟨_, A, l, c, rfl⟩
def Sm (n : Int) : Prop := (dig n.natAbs).length ≤ 1000
theorem Sm.of {n : Int} (h : -115792089237316195423570985008687907853269984665640564039457584007913129639936 ≤ n) (h' : n ≤ 115792089237316195423570985008687907853269984665640564039457584007913129639936) : Sm n := by
 have : (dig n.natAbs).length ≤ 17 := by
  apply dig_len
  simp only [P]
  omega
 unfold Sm
 omega
theorem sign_eq (n : Int) : n.sign = if n = 0 then 0 else if n < 0 then -1 else 1 := by
 rcases Int.lt_trichotomy n 0 with h | h | h
 ·rw [Int.sign_eq_neg_one_of_neg h, if_neg (by omega), if_pos h]
 ·subst h; rfl
 ·rw [Int.sign_eq_one_of_pos h, if_neg (by omega), if_neg (by omega)]
theorem dig_nil {n : Nat} : dig n = [] ↔ n = 0 := ⟨fun h => by
 have := dig_val n
 rw [h] at this
 simp [val] at this
 omega, fun h => by rw [h, dig_zero]⟩
theorem add_c (v u : Value) (n m : Int) (hn : Sm n) (hm : Sm m) (w : World) (h : NI w v n) (h' : NI w u m) :
  Calls Try.prog 35 #[v, u] w fun e w' => ∃ r, e = .returned r ∧ NI w' r (n + m) ∧ Below w.heap.size w w' := by
 obtain ⟨A, l, c, rfl, hA⟩ := h
 obtain ⟨B, l', d, rfl, hB⟩ := h'
 unfold Sm at hn hm
 by_cases n0 : n = 0
 ·subst n0
  rw [show (0 : Int).sign = 0 from rfl]
  refine (add_left m.sign A B l c l' d w).mono fun e w' ⟨he, hb⟩ => ⟨_, he, ?_, hb⟩
  rw [Int.zero_add]
  exact ⟨B, l', d, rfl, hB.below hb⟩
 have s0 : (n.sign == 0) = false := beq_eq_false_iff_ne.2 (fun e => n0 (Int.sign_eq_zero_iff_zero.1 e))
 by_cases m0 : m = 0
 ·subst m0
  rw [show (0 : Int).sign = 0 from rfl]
  refine (add_right n.sign s0 A B l c l' d w).mono fun e w' ⟨he, hb⟩ => ⟨_, he, ?_, hb⟩
  rw [Int.add_zero]
  exact ⟨A, l, c, rfl, hA.below hb⟩
 have t0 : (m.sign == 0) = false := beq_eq_false_iff_ne.2 (fun e => m0 (Int.sign_eq_zero_iff_zero.1 e))
 have fin : ∀ (e : Ending) (w' : World) (r v' : _) (k : Nat), e = .returned (.agg #[.int .i64 r, v']) → RV w' v' (dig k) → r = (n + m).sign → k = (n + m).natAbs → Below w.heap.size w w' → ∃ r, e = .returned r ∧ NI w' r (n + m) ∧ Below w.heap.size w w' := by
  intro e w' r v' k he hv hr hk hb
  obtain ⟨A', c', rfl, _⟩ := hv.form
  subst hr hk
  exact ⟨_, he, ⟨A', _, c', rfl, hv⟩, hb⟩
 by_cases st : n.sign = m.sign
 ·have := add_f n.natAbs m.natAbs (by omega) (by omega) (k := 50000) (by omega)
  rw [← st]
  refine (add_same n.sign s0 A B l c l' d _ _ _ 50000 w hA hB ⟨this⟩).mono fun e w' ⟨v', he, hv, hb⟩ => fin e w' _ _ _ he hv ?_ ?_ hb
  ·rw [sign_eq, sign_eq]
   rw [sign_eq, sign_eq] at st
   omega
  ·rw [sign_eq, sign_eq] at st
   omega
 ·have hst : (n.sign == m.sign) = false := beq_eq_false_iff_ne.2 st
  have hc := cmp_f n.natAbs m.natAbs (by omega) (k := 50000) (by omega)
  rw [sign_eq, sign_eq] at st
  by_cases hlt : n.natAbs < m.natAbs
  ·rw [if_pos hlt] at hc
   have hs := sub_f m.natAbs n.natAbs (by omega) (by omega) (k := 50000) (by omega)
   refine (add_lt n.sign m.sign s0 t0 hst A B l c l' d _ _ _ (-1) (by decide) (by decide) 50000 w hA hB ⟨hc⟩ ⟨hs⟩ _ ⟨rfl⟩).mono fun e w' ⟨v', he, hv, hb⟩ => fin e w' _ _ _ he hv ?_ (by omega) hb
   rw [if_neg (fun e => by rw [dig_nil] at e; omega), sign_eq, sign_eq]
   omega
  ·have hs := sub_f n.natAbs m.natAbs (by omega) (by omega) (k := 50000) (by omega)
   rw [if_neg hlt] at hc
   refine (add_ge n.sign m.sign s0 t0 hst A B l c l' d _ _ _ (if n.natAbs > m.natAbs then 1 else 0) (by split <;> rfl) (by split <;> rfl) 50000 w hA hB ⟨hc⟩ ⟨hs⟩ _ ⟨rfl⟩).mono fun e w' ⟨v', he, hv, hb⟩ => fin e w' _ _ _ he hv ?_ (by omega) hb
   by_cases he : n.natAbs = m.natAbs
   ·rw [if_pos (dig_nil.2 (by omega)), sign_eq]
    omega
   ·rw [if_neg (fun e => by rw [dig_nil] at e; omega), sign_eq, sign_eq]
    omega
theorem neg_c (v : Value) (n : Int) (w : World) (h : NI w v n) :
  Calls Try.prog 51 #[v] w fun e w' => ∃ r, e = .returned r ∧ NI w' r (-n) ∧ Below w.heap.size w w' := by
 obtain ⟨A, l, c, rfl, hA⟩ := h
 refine (neg_any n.sign A l c w).mono fun e w' ⟨he, hb⟩ => ⟨_, he, ⟨A, l, c, ?_, ?_⟩, hb⟩
 ·have : wrap64 (0 - n.sign) = (-n).sign := by
   rw [sign_eq, sign_eq]
   unfold wrap64
   omega
  rw [this]
 ·rw [Int.natAbs_neg]; exact hA.below hb
theorem long_c (n : Int) (hn : (Lit.int .i64 n).wf = true) (w : World) :
  Calls Try.prog 25 #[.int .i64 n] w fun e w' => ∃ r, e = .returned r ∧ NI w' r n ∧ Below w.heap.size w w' := by
 have bd : -9223372036854775808 ≤ n ∧ n ≤ 9223372036854775807 := by
  exact bounds_i64 hn
 have hf : zelligeref04_Long.f 1000 n = some (n.sign, dig n.natAbs) := by
  unfold zelligeref04_Long.f
  have u64 : ∀ x : Int, IntKind.u64.wrap x = x % 18446744073709551616 := by intro x; simp [IntKind.wrap, IntKind.bits, IntKind.signed]
  by_cases h0 : n = 0
  ·subst h0; rw [if_pos rfl]; simp [dig_zero]
  ·rw [if_neg h0]
   by_cases h1 : n < 0
   ·rw [if_pos h1, u64, u64, of_two _ _ (by omega) (by omega) (by omega) (by omega) (by omega)]
    simp only [Option.bind_some]
    rw [Int.sign_eq_neg_one_of_neg h1]
    congr 3
    omega
   ·rw [if_neg h1, u64, of_two _ _ (by omega) (by omega) (by omega) (by omega) (by omega)]
    simp only [Option.bind_some]
    rw [Int.sign_eq_one_of_pos (by omega)]
    congr 3
    omega
 refine (zelligeref04_Long.calls 1000 n _ _ w hf).mono fun e w' ⟨v, he, hR, hb⟩ => ?_
 have hv := RV.of_R hR
 obtain ⟨A', c', rfl, _⟩ := hv.form
 exact ⟨_, he, ⟨A', _, c', rfl, hv⟩, hb⟩
set_option maxHeartbeats 1000000 in
theorem sub_walk (s : Int) (A : Option Addr) (l c : Nat) (t : Int) (B : Option Addr) (m d : Nat) (n n' : Int) (hn : Sm n) (hm : Sm n') (w : World) (h : NI w (.agg #[.int .i64 s, .slice A l c]) n) (h' : NI w (.agg #[.int .i64 t, .slice B m d]) n') :
  Calls Try.prog 34 #[.agg #[.int .i64 s, .slice A l c], .agg #[.int .i64 t, .slice B m d]] w fun e w' => ∃ r, e = .returned r ∧ NI w' r (n - n') ∧ Below w.heap.size w w' := by
 have HA := Aside0.mk (fun (W : World) (hb : Below w.heap.size w W) => h.below hb)
 have HB := Aside0.mk (fun (W : World) (hb : Below w.heap.size w W) => h'.below hb)
 have hm' : Aside0 (Sm (-n')) := ⟨by unfold Sm at hm ⊢; rw [Int.natAbs_neg]; exact hm⟩
 clear h h'
 go_enter Try.func34, Try.ntmps34
 go_wp2_with fail
 obtain ⟨n0, n1, n2, bw, nw⟩ := three_new w (.cells #[.int .i64 s, .slice A l c] 42) (.cells #[.int .i64 t, .slice B m d] 42) (.cells #[.int .i64 0, .slice none 0 0] 42)
 generalize (((w.alloc (.cells #[.int .i64 s, .slice A l c] 42)).alloc (.cells #[.int .i64 t, .slice B m d] 42)).alloc (.cells #[.int .i64 0, .slice none 0 0] 42)) = W at n0 n1 n2 bw nw ⊢
 have N2 := Aside0.mk n2
 have BW := Aside0.mk bw
 have c0 : W.cell? ⟨w.heap.size, 0, none⟩ = some (.int .i64 s) := (blk_cell n0 0).trans rfl
 have c1 : W.cell? ⟨w.heap.size, 1, none⟩ = some (.slice A l c) := (blk_cell n0 1).trans rfl
 have k0 : W.cell? ⟨w.heap.size + 1, 0, none⟩ = some (.int .i64 t) := (blk_cell n1 0).trans rfl
 have k1 : W.cell? ⟨w.heap.size + 1, 1, none⟩ = some (.slice B m d) := (blk_cell n1 1).trans rfl
 clear n0 n1 n2 bw nw
 go_region_held3 (fun w' => w'.cell? ⟨w.heap.size, 0, none⟩ = some (.int .i64 s) ∧ w'.cell? ⟨w.heap.size, 1, none⟩ = some (.slice A l c) ∧ w'.cell? ⟨w.heap.size + 1, 0, none⟩ = some (.int .i64 t) ∧ w'.cell? ⟨w.heap.size + 1, 1, none⟩ = some (.slice B m d)) (first | exact ⟨c0, c1, k0, k1⟩ | exact ⟨d0, d1, d2, d3⟩ | exact ⟨e0, e1, e2, e3⟩ | exact ⟨far2 e0 (by omega), far2 e1 (by omega), far2 e2 (by omega), far2 e3 (by omega)⟩)
  (first | (go_at_call 51; refine (neg_c _ n' _ (HB.out _ (below_drew BW.out))).mono ?_; rintro e w1 ⟨v, rfl, hN, hb⟩; have HN := Aside0.mk hN; clear hN; obtain ⟨s1, A1, l1, cc1, rfl⟩ := HN.out.shape; have d0 := pw_cell_below (w := W.drew) hb c0; have d1 := pw_cell_below (w := W.drew) hb c1; have d2 := pw_cell_below (w := W.drew) hb k0; have d3 := pw_cell_below (w := W.drew) hb k1; have M1 := Aside0.mk (blk_below (w := W.drew) N2.out hb); have Hb := Aside0.mk (below_then (below_drew BW.out) BW.out.size hb); clear hb) | (go_at_call 35; refine (add_c _ _ n (-n') hn hm'.out _ (HA.out _ Hb.out) HN.out).mono ?_; rintro e w2 ⟨u, rfl, hN, hb⟩; have HU := Aside0.mk hN; clear hN; obtain ⟨s3, A3, l3, cc3, rfl⟩ := HU.out.shape; have e0 := pw_cell_below hb d0; have e1 := pw_cell_below hb d1; have e2 := pw_cell_below hb d2; have e3 := pw_cell_below hb d3; have m2 := blk_below M1.out hb; have e4 : w2.cell? ⟨w.heap.size + 1 + 1, 0, none⟩ = some (.int .i64 0) := (blk_cell m2 0).trans rfl; have e5 : w2.cell? ⟨w.heap.size + 1 + 1, 1, none⟩ = some (.slice none 0 0) := (blk_cell m2 1).trans rfl; have g3 := blk_frozen m2 0; have g4 := blk_frozen m2 1; have M2 := Aside0.mk m2; have Hb2 := Aside0.mk (below_then Hb.out Hb.out.size hb); clear hb m2))
 go_wp2
 refine bodyPost_ret (results_cell_row rfl _ _ (w.heap.size + 1 + 1) 42 #[.int .i64 s3, .slice A3 l3 cc3] (0, 0) _ rfl (blk_put (cs := #[.int .i64 s3, .slice none 0 0]) (blk_put (cs := #[.int .i64 0, .slice none 0 0]) M2.out 0 _ rfl) 1 _ rfl) Try.underlying42 rfl (by kernel_rfl)) rfl ?_
 exact ⟨_, rfl, (HU.out.store M2.out (by decide) 0 _).store (blk_put (cs := #[.int .i64 0, .slice none 0 0]) M2.out 0 _ rfl) (by decide) 1 _, below_set2 Hb2.out (by omega) _ _ _ _⟩
theorem sub_c (v u : Value) (n m : Int) (hn : Sm n) (hm : Sm m) (w : World) (h : NI w v n) (h' : NI w u m) :
  Calls Try.prog 34 #[v, u] w fun e w' => ∃ r, e = .returned r ∧ NI w' r (n - m) ∧ Below w.heap.size w w' := by
 obtain ⟨s, A, l, c, rfl⟩ := h.shape
 obtain ⟨t, B, k, d, rfl⟩ := h'.shape
 exact sub_walk s A l c t B k d n m hn hm w h h'
theorem field_sign (q : Int) (v : Value) (W : World) : (Instr.field 42 (.agg #[.int .i64 q, v]) 0).run Try.prog W = .ok (.int .i64 q) W := by kernel_rfl
set_option maxHeartbeats 1000000 in
theorem cmp_walk (s : Int) (A : Option Addr) (l c : Nat) (t : Int) (B : Option Addr) (m d : Nat) (n n' : Int) (hn : Sm n) (hm : Sm n') (w : World) (h : NI w (.agg #[.int .i64 s, .slice A l c]) n) (h' : NI w (.agg #[.int .i64 t, .slice B m d]) n') :
  Calls Try.prog 37 #[.agg #[.int .i64 s, .slice A l c], .agg #[.int .i64 t, .slice B m d]] w fun e w' => e = .returned (.int .i64 (n - n').sign) ∧ Below w.heap.size w w' := by
 have HA := Aside0.mk (fun (W : World) (hb : Below w.heap.size w W) => h.below hb)
 have HB := Aside0.mk (fun (W : World) (hb : Below w.heap.size w W) => h'.below hb)
 clear h h'
 go_enter Try.func37, Try.ntmps37
 go_wp2_with fail
 obtain ⟨n0, n1, bw, nw⟩ := two_new w (.cells #[.int .i64 s, .slice A l c] 42) (.cells #[.int .i64 t, .slice B m d] 42)
 refine (sub_c _ _ n n' hn hm _ (HA.out _ bw) (HB.out _ bw)).mono ?_
 rintro e w1 ⟨v, rfl, hN, hb⟩
 obtain ⟨A1, l1, c1, rfl, _⟩ := hN
 have Hb := Aside0.mk (below_then bw bw.size hb)
 obtain ⟨q, hq⟩ : ∃ q, q = (n - n').sign := ⟨_, rfl⟩
 rw [← hq]
 have HQ := Aside0.mk hq
 clear hb hq n0 n1 bw nw
 have hf := field_sign q (.slice A1 l1 c1)
 go_wp2
 go_ret
 exact ⟨by rw [← HQ.out]; rfl, Hb.out⟩
theorem cmp_c (v u : Value) (n m : Int) (hn : Sm n) (hm : Sm m) (w : World) (h : NI w v n) (h' : NI w u m) :
  Calls Try.prog 37 #[v, u] w fun e w' => e = .returned (.int .i64 (n - m).sign) ∧ Below w.heap.size w w' := by
 obtain ⟨s, A, l, c, rfl⟩ := h.shape
 obtain ⟨t, B, k, d, rfl⟩ := h'.shape
 exact cmp_walk s A l c t B k d n m hn hm w h h'
end Go.Proofs.Ytlkngfidohiepaa.Whole
end
section
namespace Go.Proofs.Ytlkngfidohiepaa.Whole
open Go RowKit YtlkngfidohiepaaW.PrintWords YtlkngfidohiepaaW.PrintLast YtlkngfidohiepaaW.PrintMore Ytlkngfidohiepaa.F Ytlkngfidohiepaa.Dig
set_option linter.unusedVariables false
theorem bthen {w w1 w2 : World} (k : Below w1.heap.size w1 w2) (h : Below w.heap.size w w1) : Below w.heap.size w w2 := below_then h h.size k
theorem one_new (w : World) (o0 : Obj) : (w.alloc o0).heap[w.heap.size]? = some o0 ∧ Below w.heap.size w (w.alloc o0) := ⟨blk_new _ _, (Below.refl _ _).alloc (Nat.le_refl _) _⟩
set_option maxHeartbeats 1000000 in
theorem in_high (s : Int) (A : Option Addr) (l c : Nat) (n : Int) (hn : Sm n) (q1 : Int) (hq1 : Aside0 ((n - 1099511627776).sign = q1)) (h1 : decide (q1 ≤ 0) = false) (w : World) (h : NI w (.agg #[.int .i64 s, .slice A l c]) n) :
  Calls Try.prog 24 #[.agg #[.int .i64 s, .slice A l c]] w fun e w' => e = .returned (.bool false) ∧ Below w.heap.size w w' := by
 have HA := Aside0.mk (fun (W : World) (hb : Below w.heap.size w W) => h.below hb)
 clear h
 go_enter Try.func24, Try.ntmps24
 go_wp2_with fail
 obtain ⟨n0, bw⟩ := one_new w (.cells #[.int .i64 s, .slice A l c] 42)
 generalize (w.alloc (.cells #[.int .i64 s, .slice A l c] 42)) = W at n0 bw ⊢
 have Hb := Aside0.mk bw
 have d0 : W.cell? ⟨w.heap.size, 0, none⟩ = some (.int .i64 s) := (blk_cell n0 0).trans rfl
 have d1 : W.cell? ⟨w.heap.size, 1, none⟩ = some (.slice A l c) := (blk_cell n0 1).trans rfl
 clear n0 bw
 go_region_with (first | (go_at_call 25; refine (long_c _ ?hw _).mono ?_; (case hw => decide); rintro e w1 ⟨v, rfl, hN, hb⟩; have HN := Aside0.mk hN; clear hN; obtain ⟨s1, A1, l1, cc1, rfl⟩ := HN.out.shape; have d0 := pw_cell_below hb d0; have d1 := pw_cell_below hb d1; have Hb := Aside0.mk (bthen (w := w) hb (by repeat (first | exact Hb.out | apply below_drew | apply pw_below_drewN))); clear hb) | (go_at_call 37; refine (cmp_c _ _ n 1099511627776 hn (Sm.of (by decide) (by decide)) _ (HA.out _ Hb.out) HN.out).mono ?_; rw [hq1.out]; rintro e w1 ⟨rfl, hb⟩; have d0 := pw_cell_below hb d0; have d1 := pw_cell_below hb d1; have Hb := Aside0.mk (bthen (w := w) hb Hb.out); clear hb))
 all_goals go_wp2
 all_goals trace_state
 all_goals go_ret
 all_goals exact ⟨rfl, Hb.out⟩
set_option maxHeartbeats 1000000 in
theorem in_low (s : Int) (A : Option Addr) (l c : Nat) (n : Int) (hn : Sm n) (q1 q2 : Int) (hq1 : Aside0 ((n - 1099511627776).sign = q1)) (h1 : decide (q1 ≤ 0) = true) (hq2 : Aside0 ((n - -1099511627776).sign = q2)) (w : World) (h : NI w (.agg #[.int .i64 s, .slice A l c]) n) :
  Calls Try.prog 24 #[.agg #[.int .i64 s, .slice A l c]] w fun e w' => e = .returned (.bool (decide (0 ≤ q2))) ∧ Below w.heap.size w w' := by
 have HA := Aside0.mk (fun (W : World) (hb : Below w.heap.size w W) => h.below hb)
 clear h
 go_enter Try.func24, Try.ntmps24
 go_wp2_with fail
 obtain ⟨n0, bw⟩ := one_new w (.cells #[.int .i64 s, .slice A l c] 42)
 generalize (w.alloc (.cells #[.int .i64 s, .slice A l c] 42)) = W at n0 bw ⊢
 have Hb := Aside0.mk bw
 have d0 : W.cell? ⟨w.heap.size, 0, none⟩ = some (.int .i64 s) := (blk_cell n0 0).trans rfl
 have d1 : W.cell? ⟨w.heap.size, 1, none⟩ = some (.slice A l c) := (blk_cell n0 1).trans rfl
 clear n0 bw
 go_region_held3 (fun w' => w'.cell? ⟨w.heap.size, 0, none⟩ = some (.int .i64 s) ∧ w'.cell? ⟨w.heap.size, 1, none⟩ = some (.slice A l c)) (first | exact ⟨d0, d1⟩)
  (first | (go_at_call 25; refine (long_c _ ?hw _).mono ?_; (case hw => decide); rintro e w1 ⟨v, rfl, hN, hb⟩; have HN := Aside0.mk hN; clear hN; obtain ⟨s1, A1, l1, cc1, rfl⟩ := HN.out.shape; have d0 := pw_cell_below hb d0; have d1 := pw_cell_below hb d1; have Hb := Aside0.mk (bthen (w := w) hb (by repeat (first | exact Hb.out | apply below_drew | apply pw_below_drewN))); clear hb) | (go_at_call 37; refine (cmp_c _ _ n 1099511627776 hn (Sm.of (by decide) (by decide)) _ (HA.out _ Hb.out) HN.out).mono ?_; rw [hq1.out]; rintro e w1 ⟨rfl, hb⟩; have d0 := pw_cell_below hb d0; have d1 := pw_cell_below hb d1; have Hb := Aside0.mk (bthen (w := w) hb Hb.out); clear hb) | (go_at_call 37; refine (cmp_c _ _ n (-1099511627776) hn (Sm.of (by decide) (by decide)) _ (HA.out _ Hb.out) HN.out).mono ?_; rw [hq2.out]; rintro e w1 ⟨rfl, hb⟩; have d0 := pw_cell_below hb d0; have d1 := pw_cell_below hb d1; have Hb := Aside0.mk (bthen (w := w) hb Hb.out); clear hb))
 go_wp2
 go_ret
 exact ⟨rfl, Hb.out⟩
theorem in_c (v : Value) (n : Int) (hn : Sm n) (w : World) (h : NI w v n) :
  Calls Try.prog 24 #[v] w fun e w' => e = .returned (.bool (decide (-1099511627776 ≤ n ∧ n ≤ 1099511627776))) ∧ Below w.heap.size w w' := by
 obtain ⟨s, A, l, c, rfl⟩ := h.shape
 by_cases h1 : n ≤ 1099511627776
 ·refine (in_low s A l c n hn _ _ ⟨rfl⟩ (decide_eq_true (by rw [sign_eq]; omega)) ⟨rfl⟩ w h).mono fun e w' ⟨he, hb⟩ => ⟨?_, hb⟩
  rw [he]
  congr 2
  rw [decide_eq_decide, sign_eq]
  omega
 ·refine (in_high s A l c n hn _ ⟨rfl⟩ (decide_eq_false (by rw [sign_eq]; omega)) w h).mono fun e w' ⟨he, hb⟩ => ⟨?_, hb⟩
  rw [he]
  congr 2
  exact (decide_eq_false (by omega)).symm
end Go.Proofs.Ytlkngfidohiepaa.Whole
end
section
namespace Go.Proofs.Ytlkngfidohiepaa.Whole
open Go RowKit YtlkngfidohiepaaW.PrintWords YtlkngfidohiepaaW.PrintLast YtlkngfidohiepaaW.PrintMore Ytlkngfidohiepaa.F Ytlkngfidohiepaa.Dig
set_option linter.unusedVariables false
set_option maxHeartbeats 1000000 in
theorem can_no (a b : Int) (ha : (Lit.int .i64 a).wf = true) (ha' : Sm a) (hq : Aside0 (decide (-1099511627776 ≤ a ∧ a ≤ 1099511627776) = false)) (w : World) :
  Calls Try.prog 13 #[.agg #[.int .i64 a, .int .i64 b]] w fun e w' => e = .returned (.bool false) ∧ Below w.heap.size w w' := by
 have HA := Aside0.mk ha
 have HM := Aside0.mk ha'
 clear ha ha'
 go_enter Try.func13, Try.ntmps13
 go_wp2_with fail
 obtain ⟨n0, bw⟩ := one_new w (.cells #[.int .i64 a, .int .i64 b] 23)
 generalize (w.alloc (.cells #[.int .i64 a, .int .i64 b] 23)) = W at n0 bw ⊢
 have Hb := Aside0.mk bw
 have d0 : W.cell? ⟨w.heap.size, 0, none⟩ = some (.int .i64 a) := (blk_cell n0 0).trans rfl
 have d1 : W.cell? ⟨w.heap.size, 1, none⟩ = some (.int .i64 b) := (blk_cell n0 1).trans rfl
 clear n0 bw
 go_wp2_with (first | (go_at_call 25; refine (long_c _ HA.out _).mono ?_; rintro e w1 ⟨v, rfl, hN, hb⟩; have HN := Aside0.mk hN; clear hN; obtain ⟨s1, A1, l1, cc1, rfl⟩ := HN.out.shape; have d0 := pw_cell_below hb d0; have d1 := pw_cell_below hb d1; have Hb := Aside0.mk (bthen hb Hb.out); clear hb) | (go_at_call 24; refine (in_c _ a HM.out _ HN.out).mono ?_; rw [hq.out]; rintro e w1 ⟨rfl, hb⟩; have d0 := pw_cell_below hb d0; have d1 := pw_cell_below hb d1; have Hb := Aside0.mk (bthen hb Hb.out); clear hb))
 go_ret
 exact ⟨rfl, Hb.out⟩
set_option maxHeartbeats 1000000 in
theorem can_yes (a b : Int) (ha : (Lit.int .i64 a).wf = true) (ha' : Sm a) (hb' : (Lit.int .i64 b).wf = true) (hb2 : Sm b) (hq : Aside0 (decide (-1099511627776 ≤ a ∧ a ≤ 1099511627776) = true)) (r : Bool) (hr : Aside0 (decide (-1099511627776 ≤ b ∧ b ≤ 1099511627776) = r)) (w : World) :
  Calls Try.prog 13 #[.agg #[.int .i64 a, .int .i64 b]] w fun e w' => e = .returned (.bool r) ∧ Below w.heap.size w w' := by
 have HA := Aside0.mk ha
 have HM := Aside0.mk ha'
 have HA2 := Aside0.mk hb'
 have HM2 := Aside0.mk hb2
 clear ha ha' hb' hb2
 go_enter Try.func13, Try.ntmps13
 go_wp2_with fail
 obtain ⟨n0, bw⟩ := one_new w (.cells #[.int .i64 a, .int .i64 b] 23)
 generalize (w.alloc (.cells #[.int .i64 a, .int .i64 b] 23)) = W at n0 bw ⊢
 have Hb := Aside0.mk bw
 have d0 : W.cell? ⟨w.heap.size, 0, none⟩ = some (.int .i64 a) := (blk_cell n0 0).trans rfl
 have d1 : W.cell? ⟨w.heap.size, 1, none⟩ = some (.int .i64 b) := (blk_cell n0 1).trans rfl
 clear n0 bw
 go_wp2_with fail
 refine (long_c _ HA.out _).mono ?_
 rintro e w1 ⟨v, rfl, hN, hb⟩
 have HN := Aside0.mk hN; clear hN; obtain ⟨s1, A1, l1, cc1, rfl⟩ := HN.out.shape
 have d0 := pw_cell_below hb d0; have d1 := pw_cell_below hb d1; have Hb := Aside0.mk (bthen hb Hb.out); clear hb
 go_wp2_with fail
 refine (in_c _ a HM.out _ HN.out).mono ?_
 rw [hq.out]
 rintro e w2 ⟨rfl, hb⟩
 have d0 := pw_cell_below hb d0; have d1 := pw_cell_below hb d1; have Hb := Aside0.mk (bthen hb Hb.out); clear hb
 go_wp2_with fail
 refine (long_c _ HA2.out _).mono ?_
 rintro e w3 ⟨v, rfl, hN, hb⟩
 have HN := Aside0.mk hN; clear hN; obtain ⟨s2, A2, l2, cc2, rfl⟩ := HN.out.shape
 have d0 := pw_cell_below hb d0; have d1 := pw_cell_below hb d1; have Hb := Aside0.mk (bthen hb Hb.out); clear hb
 go_wp2_with fail
 refine (in_c _ b HM2.out _ HN.out).mono ?_
 rw [hr.out]
 rintro e w4 ⟨rfl, hb⟩
 have Hb := Aside0.mk (bthen hb Hb.out); clear hb
 go_wp2
 go_ret
 exact ⟨rfl, Hb.out⟩
theorem Sm.i64 {n : Int} (h : -9223372036854775808 ≤ n ∧ n ≤ 9223372036854775807) : Sm n := Sm.of (by omega) (by omega)
theorem wf_of {n : Int} (h : -9223372036854775808 ≤ n ∧ n ≤ 9223372036854775807) : (Lit.int .i64 n).wf = true := WalkArith.wf_i64 (by omega)
end Go.Proofs.Ytlkngfidohiepaa.Whole
namespace Go.Proofs.Ytlkngfidohiepaa.F
open Go RowKit YtlkngfidohiepaaW.PrintWords YtlkngfidohiepaaW.PrintLast YtlkngfidohiepaaW.PrintMore Ytlkngfidohiepaa.Whole
abbrev I64 (n : Int) : Prop := -9223372036854775808 ≤ n ∧ n ≤ 9223372036854775807
abbrev InC (n : Int) : Prop := -1099511627776 ≤ n ∧ n ≤ 1099511627776
def zelligeref06_Can.f (a0_0 : Int) (a0_1 : Int) : Option Bool := if I64 a0_0 ∧ I64 a0_1 then some (decide (InC a0_0 ∧ InC a0_1)) else none
theorem zelligeref06_Can.calls (a0_0 : Int) (a0_1 : Int) (r : Bool) (w : World) (h : zelligeref06_Can.f a0_0 a0_1 = some r) :
  Calls Try.prog 13 #[.agg #[.int .i64 a0_0, .int .i64 a0_1]] w fun e w' => e = .returned (.bool r) ∧ Below w.heap.size w w' := by
 unfold zelligeref06_Can.f at h
 by_cases hb : I64 a0_0 ∧ I64 a0_1
 ·rw [if_pos hb] at h
  obtain rfl := Option.some.inj h
  by_cases h1 : InC a0_0
  ·refine can_yes a0_0 a0_1 (wf_of hb.1) (Sm.i64 hb.1) (wf_of hb.2) (Sm.i64 hb.2) ⟨decide_eq_true h1⟩ _ ⟨?_⟩ w
   rw [decide_eq_decide]
   exact ⟨fun h => ⟨h1, h⟩, fun h => h.2⟩
  ·rw [show decide (InC a0_0 ∧ InC a0_1) = false from decide_eq_false (fun h => h1 h.1)]
   exact can_no a0_0 a0_1 (wf_of hb.1) (Sm.i64 hb.1) ⟨decide_eq_false h1⟩ w
 ·rw [if_neg hb] at h
  cases h
end Go.Proofs.Ytlkngfidohiepaa.F
end
section
namespace Go.Proofs.Ytlkngfidohiepaa.F
end Go.Proofs.Ytlkngfidohiepaa.F
end
section
namespace Go.Proofs.Ytlkngfidohiepaa.F
end Go.Proofs.Ytlkngfidohiepaa.F
end
section
namespace Go.Proofs.Ytlkngfidohiepaa.F
end Go.Proofs.Ytlkngfidohiepaa.F
end
section
namespace Go.Proofs.Ytlkngfidohiepaa.Reg
open Go RowKit YtlkngfidohiepaaW.PrintWords YtlkngfidohiepaaW.PrintLast Ytlkngfidohiepaa.Whole
set_option linter.unusedVariables false
inductive Fk where
 | const (v : Value) | ni (n : Int) | box | put (al c : Nat) | fin (E : (Nat → Value) → World → Prop)
def Fk.one (K0 : Nat) (w : World) (v : Value) : Fk → Prop
 | .const c => v = c
 | .ni n => NI w v n
 | .box => ∃ (g : Nat) (x y : Value), v = .pointer (some ⟨g, 0, none⟩) ∧ K0 ≤ g ∧ w.heap[g]? = some (.cells #[x, y] 42 (0, 0))
 | _ => False
def Fk.isBox : Fk → Bool
 | .box => true
 | _ => false
structure Cx where
 (O : List Nat) (spec : List (Nat × Tmp)) (ks : Nat → Fk) (K0 sh : Nat) (G : World → Prop) (H : World → Prop) (fi : Nat)
def Fk.holds (c : Cx) (b : Nat → Bool) (ms : Nat → Value) (w : World) (j : Nat) : Fk → Prop
 | .put al q => b al = true ∧ b q = true ∧ j = al + c.sh ∧ (c.ks al).isBox = true ∧ ∃ (g : Nat) (x y : Value), ms al = .pointer (some ⟨g, 0, none⟩) ∧ ms q = .agg #[x, y] ∧ w.heap[g]? = some (.cells #[x, y] 42 (0, 0))
 | .fin E => (∀ i ∈ c.O, i ≠ j → b i = true) ∧ E ms w
 | k => k.one c.K0 w (ms j)
section
variable {c : Cx} {a0 a : Act} {b : Nat → Bool} {w w' : World} {ms : Nat → Value} {i j k : Nat} {t : Tmp} {v : Value}
end
end Go.Proofs.Ytlkngfidohiepaa.Reg
end
section
namespace Go.Proofs.Ytlkngfidohiepaa.Dig
open Go RowKit YtlkngfidohiepaaW.PrintWords Ytlkngfidohiepaa.F
attribute [local irreducible] val P
theorem getD_set_ne {l : List Int} {i j : Nat} (h : i ≠ j) (x : Int) : (l.set i x).getD j 0 = l.getD j 0 := by
 simp [List.getD_eq_getElem?_getD, List.getElem?_set_ne h]
end Go.Proofs.Ytlkngfidohiepaa.Dig
end
section
namespace Go.Proofs.Ytlkngfidohiepaa.Whole
end Go.Proofs.Ytlkngfidohiepaa.Whole
end
section
namespace Go.Proofs.Ytlkngfidohiepaa.Rf
open Go RowKit YtlkngfidohiepaaW.PrintWords YtlkngfidohiepaaW.PrintLast Ytlkngfidohiepaa.Whole Ytlkngfidohiepaa.Reg Ytlkngfidohiepaa.Pm Ytlkngfidohiepaa.Pd Ytlkngfidohiepaa.Wd
set_option linter.unusedVariables false
set_option linter.unusedSimpArgs false
theorem four_new (w : World) (o0 o1 o2 o3 : Obj) : ((((w.alloc o0).alloc o1).alloc o2).alloc o3).heap[w.heap.size]? = some o0 ∧ ((((w.alloc o0).alloc o1).alloc o2).alloc o3).heap[w.heap.size + 1]? = some o1 ∧ ((((w.alloc o0).alloc o1).alloc o2).alloc o3).heap[w.heap.size + 1 + 1]? = some o2 ∧ ((((w.alloc o0).alloc o1).alloc o2).alloc o3).heap[w.heap.size + 1 + 1 + 1]? = some o3 ∧
  Below w.heap.size w ((((w.alloc o0).alloc o1).alloc o2).alloc o3) ∧ ((((w.alloc o0).alloc o1).alloc o2).alloc o3).heap.size = w.heap.size + 1 + 1 + 1 + 1 := by
 obtain ⟨n0, n1, n2, bw, nw⟩ := three_new w o0 o1 o2
 generalize (((w.alloc o0).alloc o1).alloc o2) = W at *
 have e := blk_new W o3
 rw [nw] at e
 have hb : Below W.heap.size W (W.alloc o3) := (Below.refl _ _).alloc (Nat.le_refl _) _
 exact ⟨blk_below n0 hb, blk_below n1 hb, blk_below n2 hb, e, below_then bw bw.size hb, by rw [World.alloc]; simp [nw]⟩
def area.T : Bool × List (List Nat × List Nat) := (true, [([], []), ([0], [0]), ([], []), ([2], [2]), ([1, 3], [1, 3]), ([], []), ([5], [5]), ([], []), ([7], [7]), ([6, 8, 4], [6, 8]), ([4, 9, 9], [4, 9]), ([], []), ([11], [11]), ([], []), ([13], [13]), ([12, 14, 10], [12, 14]), ([], []), ([16], [16]), ([], []), ([18], [18]), ([17, 19, 15], [17, 19]), ([15, 20, 20], [15, 20]), ([10, 21, 21], [10, 21]), ([22, 22, 0, 1, 2, 3, 4, 5, 6, 7, 8, 9, 10, 11, 12, 13, 14, 15, 16, 17, 18, 19, 20, 21, 22], [22])])
def area.B : List Nat := [0, 1, 0, 4, 15, 0, 32, 0, 128, 511, 1023, 0, 2048, 0, 8192, 32767, 0, 65536, 0, 262144, 1048575, 2097151, 4194303, 8388607]
theorem area.bits : waitsOk area.T.2 area.B = true := by kernel_rfl
def dist1.T : Bool × List (List Nat × List Nat) := (true, [([], []), ([0], [0]), ([], []), ([2], [2]), ([1, 3], [1, 3]), ([], []), ([5], [5]), ([], []), ([7], [7]), ([6, 8, 4], [6, 8]), ([], []), ([], []), ([10, 4, 9, 0, 1, 2, 3, 4, 10, 11], [4, 10]), ([11, 9, 12, 0, 1, 2, 3, 4, 5, 6, 7, 8, 9, 10, 11, 12], [9, 11])])
def dist1.B : List Nat := [0, 1, 0, 4, 15, 0, 32, 0, 128, 511, 0, 0, 4095, 8191]
theorem dist1.bits : waitsOk dist1.T.2 dist1.B = true := by kernel_rfl
def dist2.T : Bool × List (List Nat × List Nat) := (true, [([], []), ([], []), ([0, 1], [0, 1]), ([], []), ([], []), ([3, 4, 2], [3, 4]), ([2, 5, 5], [2, 5]), ([6, 6, 0, 1, 2, 3, 4, 5, 6], [6])])
def dist2.B : List Nat := [0, 0, 3, 0, 0, 31, 63, 127]
theorem dist2.bits : waitsOk dist2.T.2 dist2.B = true := by kernel_rfl
end Go.Proofs.Ytlkngfidohiepaa.Rf
end
section
namespace Go.Proofs.Ytlkngfidohiepaa.F
end Go.Proofs.Ytlkngfidohiepaa.F
end
section
namespace Go.Proofs.Ytlkngfidohiepaa.F
end Go.Proofs.Ytlkngfidohiepaa.F
end
section
namespace Go.Proofs.Ytlkngfidohiepaa.F
end Go.Proofs.Ytlkngfidohiepaa.F
end
section
namespace Go.Proofs.Ytlkngfidohiepaa.Rf
open Go RowKit YtlkngfidohiepaaW.PrintWords YtlkngfidohiepaaW.PrintLast YtlkngfidohiepaaW.PrintMore Ytlkngfidohiepaa.F Ytlkngfidohiepaa.Whole Ytlkngfidohiepaa.Reg Ytlkngfidohiepaa.Pm Ytlkngfidohiepaa.Pd Ytlkngfidohiepaa.Wd
set_option linter.unusedVariables false
set_option linter.unusedSimpArgs false
structure B4 (w : World) (a0 a1 b0 b1 c0 c1 d0 d1 : Int) (W : World) : Prop where
 mk :: (out : Below w.heap.size w W ∧ w.heap.size + 1 + 1 + 1 + 1 ≤ W.heap.size ∧ W.heap[w.heap.size]? = some (.cells #[.int .i64 a0, .int .i64 a1] 23 (0, 0)) ∧ W.heap[w.heap.size + 1]? = some (.cells #[.int .i64 b0, .int .i64 b1] 23 (0, 0)) ∧ W.heap[w.heap.size + 1 + 1]? = some (.cells #[.int .i64 c0, .int .i64 c1] 23 (0, 0)) ∧ W.heap[w.heap.size + 1 + 1 + 1]? = some (.cells #[.int .i64 d0, .int .i64 d1] 23 (0, 0)))
section
variable {w W W' : World} {a0 a1 b0 b1 c0 c1 d0 d1 : Int}
theorem B4.below (h : B4 w a0 a1 b0 b1 c0 c1 d0 d1 W) (hb : Below W.heap.size W W') : B4 w a0 a1 b0 b1 c0 c1 d0 d1 W' :=
 ⟨⟨below_step h.out.1 hb, Nat.le_trans h.out.2.1 hb.size, blk_below h.out.2.2.1 hb, blk_below h.out.2.2.2.1 hb, blk_below h.out.2.2.2.2.1 hb, blk_below h.out.2.2.2.2.2 hb⟩⟩
theorem B4.cells (h : B4 w a0 a1 b0 b1 c0 c1 d0 d1 W) : W.cell? ⟨w.heap.size, 0, none⟩ = some (.int .i64 a0) ∧ W.cell? ⟨w.heap.size, 1, none⟩ = some (.int .i64 a1) ∧ W.cell? ⟨w.heap.size + 1, 0, none⟩ = some (.int .i64 b0) ∧ W.cell? ⟨w.heap.size + 1, 1, none⟩ = some (.int .i64 b1) ∧ W.cell? ⟨w.heap.size + 1 + 1, 0, none⟩ = some (.int .i64 c0) ∧ W.cell? ⟨w.heap.size + 1 + 1, 1, none⟩ = some (.int .i64 c1) ∧ W.cell? ⟨w.heap.size + 1 + 1 + 1, 0, none⟩ = some (.int .i64 d0) ∧ W.cell? ⟨w.heap.size + 1 + 1 + 1, 1, none⟩ = some (.int .i64 d1) :=
 ⟨(blk_cell h.out.2.2.1 0).trans rfl, (blk_cell h.out.2.2.1 1).trans rfl, (blk_cell h.out.2.2.2.1 0).trans rfl, (blk_cell h.out.2.2.2.1 1).trans rfl, (blk_cell h.out.2.2.2.2.1 0).trans rfl, (blk_cell h.out.2.2.2.2.1 1).trans rfl, (blk_cell h.out.2.2.2.2.2 0).trans rfl, (blk_cell h.out.2.2.2.2.2 1).trans rfl⟩
end
def inc3.T : Bool × List (List Nat × List Nat) := (true, [([], []), ([0], [0]), ([], []), ([2], [2]), ([1, 3], [1, 3]), ([], []), ([5], [5]), ([], []), ([7], [7]), ([6, 8, 4], [6, 8]), ([], []), ([10], [10]), ([], []), ([12], [12]), ([11, 13, 9], [11, 13]), ([], []), ([15], [15]), ([], []), ([17], [17]), ([16, 18, 14], [16, 18]), ([], []), ([20], [20]), ([], []), ([22], [22]), ([21, 23, 19], [21, 23]), ([], []), ([25], [25]), ([], []), ([27], [27]), ([26, 28, 24], [26, 28]), ([], []), ([], []), ([], []), ([], []), ([], []), ([], []), ([30, 4, 29, 0, 1, 2, 3, 4, 30, 31, 32, 33, 34, 35], [4, 30]), ([31, 9, 36, 0, 1, 2, 3, 4, 5, 6, 7, 8, 9, 30, 31, 32, 33, 34, 35, 36], [9, 31]), ([32, 14, 37, 0, 1, 2, 3, 4, 5, 6, 7, 8, 9, 10, 11, 12, 13, 14, 30, 31, 32, 33, 34, 35, 36, 37], [14, 32]), ([33, 19, 38, 0, 1, 2, 3, 4, 5, 6, 7, 8, 9, 10, 11, 12, 13, 14, 15, 16, 17, 18, 19, 30, 31, 32, 33, 34, 35, 36, 37, 38], [19, 33]), ([34, 24, 39, 0, 1, 2, 3, 4, 5, 6, 7, 8, 9, 10, 11, 12, 13, 14, 15, 16, 17, 18, 19, 20, 21, 22, 23, 24, 30, 31, 32, 33, 34, 35, 36, 37, 38, 39], [24, 34]), ([35, 29, 40, 0, 1, 2, 3, 4, 5, 6, 7, 8, 9, 10, 11, 12, 13, 14, 15, 16, 17, 18, 19, 20, 21, 22, 23, 24, 25, 26, 27, 28, 29, 30, 31, 32, 33, 34, 35, 36, 37, 38, 39, 40], [29, 35])])
def inc3.B : List Nat := [0, 1, 0, 4, 15, 0, 32, 0, 128, 511, 0, 1024, 0, 4096, 16383, 0, 32768, 0, 131072, 524287, 0, 1048576, 0, 4194304, 16777215, 0, 33554432, 0, 134217728, 536870911, 0, 0, 0, 0, 0, 0, 68719476735, 137438953471, 274877906943, 549755813887, 1099511627775, 2199023255551]
theorem inc3.bits : waitsOk inc3.T.2 inc3.B = true := by kernel_rfl
def inc4.T : Bool × List (List Nat × List Nat) := (true, [([], []), ([], []), ([0, 1], [0, 1]), ([], []), ([], []), ([3, 4, 2], [3, 4]), ([], []), ([], []), ([6, 7, 5], [6, 7]), ([5, 8, 8], [5, 8]), ([2, 9, 9], [2, 9]), ([], []), ([11, 10, 10, 0, 1, 2, 3, 4, 5, 6, 7, 8, 9, 10, 11], [10, 11])])
def inc4.B : List Nat := [0, 0, 3, 0, 0, 31, 0, 0, 255, 511, 1023, 0, 4095]
theorem inc4.bits : waitsOk inc4.T.2 inc4.B = true := by kernel_rfl
def inc5.T : Bool × List (List Nat × List Nat) := (true, [([], []), ([], []), ([], []), ([1, 2], [1, 2]), ([], []), ([], []), ([4, 5, 3], [4, 5]), ([], []), ([], []), ([7, 8, 6], [7, 8]), ([6, 9, 9], [6, 9]), ([3, 10, 10], [3, 10]), ([0, 11, 11], [0, 11]), ([12, 12, 0, 1, 2, 3, 4, 5, 6, 7, 8, 9, 10, 11, 12], [12])])
def inc5.B : List Nat := [0, 0, 0, 6, 0, 0, 62, 0, 0, 510, 1022, 2046, 4095, 8191]
theorem inc5.bits : waitsOk inc5.T.2 inc5.B = true := by kernel_rfl
def inc6.T : Bool × List (List Nat × List Nat) := (true, [([], []), ([], []), ([], []), ([1, 2], [1, 2]), ([], []), ([], []), ([4, 5, 3], [4, 5]), ([], []), ([], []), ([7, 8, 6], [7, 8]), ([6, 9, 9], [6, 9]), ([3, 10, 10], [3, 10]), ([0, 11, 11], [0, 11]), ([12, 12, 0, 1, 2, 3, 4, 5, 6, 7, 8, 9, 10, 11, 12], [12])])
def inc6.B : List Nat := [0, 0, 0, 6, 0, 0, 62, 0, 0, 510, 1022, 2046, 4095, 8191]
theorem inc6.bits : waitsOk inc6.T.2 inc6.B = true := by kernel_rfl
end Go.Proofs.Ytlkngfidohiepaa.Rf
end
section
namespace Go.Proofs.Ytlkngfidohiepaa.Rf
end Go.Proofs.Ytlkngfidohiepaa.Rf
end
section
namespace Go.Proofs.Ytlkngfidohiepaa.F
end Go.Proofs.Ytlkngfidohiepaa.F
end
section
namespace Go.Proofs.Ytlkngfidohiepaa.Rf
open Go RowKit YtlkngfidohiepaaW.PrintWords YtlkngfidohiepaaW.PrintLast YtlkngfidohiepaaW.PrintMore Ytlkngfidohiepaa.F Ytlkngfidohiepaa.Whole Ytlkngfidohiepaa.Pm Ytlkngfidohiepaa.Pd Ytlkngfidohiepaa.Wd
set_option linter.unusedVariables false
set_option linter.unusedSimpArgs false
structure B3 (w : World) (a0 a1 b0 b1 c0 c1 : Int) (W : World) : Prop where
 mk :: (out : Below w.heap.size w W ∧ W.heap[w.heap.size]? = some (.cells #[.int .i64 a0, .int .i64 a1] 23 (0, 0)) ∧ W.heap[w.heap.size + 1]? = some (.cells #[.int .i64 b0, .int .i64 b1] 23 (0, 0)) ∧ W.heap[w.heap.size + 1 + 1]? = some (.cells #[.int .i64 c0, .int .i64 c1] 23 (0, 0)))
section
variable {w W W' : World} {a0 a1 b0 b1 c0 c1 : Int}
theorem B3.below (h : B3 w a0 a1 b0 b1 c0 c1 W) (hb : Below W.heap.size W W') : B3 w a0 a1 b0 b1 c0 c1 W' :=
 ⟨⟨below_step h.out.1 hb, blk_below h.out.2.1 hb, blk_below h.out.2.2.1 hb, blk_below h.out.2.2.2 hb⟩⟩
theorem B3.cells (h : B3 w a0 a1 b0 b1 c0 c1 W) : W.cell? ⟨w.heap.size, 0, none⟩ = some (.int .i64 a0) ∧ W.cell? ⟨w.heap.size, 1, none⟩ = some (.int .i64 a1) ∧ W.cell? ⟨w.heap.size + 1, 0, none⟩ = some (.int .i64 b0) ∧ W.cell? ⟨w.heap.size + 1, 1, none⟩ = some (.int .i64 b1) ∧ W.cell? ⟨w.heap.size + 1 + 1, 0, none⟩ = some (.int .i64 c0) ∧ W.cell? ⟨w.heap.size + 1 + 1, 1, none⟩ = some (.int .i64 c1) :=
 ⟨(blk_cell h.out.2.1 0).trans rfl, (blk_cell h.out.2.1 1).trans rfl, (blk_cell h.out.2.2.1 0).trans rfl, (blk_cell h.out.2.2.1 1).trans rfl, (blk_cell h.out.2.2.2 0).trans rfl, (blk_cell h.out.2.2.2 1).trans rfl⟩
end
end Go.Proofs.Ytlkngfidohiepaa.Rf
namespace Go.Proofs.Ytlkngfidohiepaa.F
open Go RowKit YtlkngfidohiepaaW.PrintWords Ytlkngfidohiepaa.Pm Ytlkngfidohiepaa.Pd Ytlkngfidohiepaa.Rf
end Go.Proofs.Ytlkngfidohiepaa.F
end
section
namespace Go.Proofs.Ytlkngfidohiepaa.F
end Go.Proofs.Ytlkngfidohiepaa.F
end
section
namespace Go.Proofs.Ytlkngfidohiepaa.Tl
open Go RowKit YtlkngfidohiepaaW.PrintWords Ytlkngfidohiepaa.F Ytlkngfidohiepaa.Wd Ytlkngfidohiepaa.Pm Ytlkngfidohiepaa.Pd Ytlkngfidohiepaa.Tm
set_option linter.unusedVariables false
set_option linter.unusedSimpArgs false
theorem rc_f {a b : Int} (h : I64 a ∧ I64 b) : zelligeref06_Can.f a b = some (decide (CoP a b)) := by
 unfold zelligeref06_Can.f
 rw [if_pos h]
theorem i64_of {n : Int} (h : (Lit.int .i64 n).wf = true) : I64 n := by have := bounds_i64 h; omega
end Go.Proofs.Ytlkngfidohiepaa.Tl
end
section
namespace Go.Proofs.Ytlkngfidohiepaa.Tl
open Go RowKit YtlkngfidohiepaaW.PrintWords YtlkngfidohiepaaW.PrintLast YtlkngfidohiepaaW.PrintMore Ytlkngfidohiepaa.F Ytlkngfidohiepaa.Wd Ytlkngfidohiepaa.Pm Ytlkngfidohiepaa.Pd Ytlkngfidohiepaa.Tm Ytlkngfidohiepaa.Whole
set_option linter.unusedVariables false
set_option linter.unusedSimpArgs false
structure K9 (w : World) (x0 y0 x1 y1 x2 y2 x3 y3 u v c0 c1 c2 c3 c4 c5 c6 c7 : Int) (W : World) : Prop where
 mk :: (out : Below w.heap.size w W ∧ W.heap[w.heap.size]? = some (.cells #[.int .i64 x0, .int .i64 y0, .int .i64 x1, .int .i64 y1, .int .i64 x2, .int .i64 y2] 24 (0, 0)) ∧ W.heap[w.heap.size + 1]? = some (.cells #[.int .i64 x3, .int .i64 y3] 23 (0, 0)) ∧ W.heap[w.heap.size + 1 + 1]? = some (.cells #[.int .i64 u, .int .i64 v] 23 (0, 0)) ∧ W.heap[w.heap.size + 1 + 1 + 1]? = some (.cells #[.int .i64 c0, .int .i64 c1, .int .i64 c2, .int .i64 c3, .int .i64 c4, .int .i64 c5, .int .i64 c6, .int .i64 c7] 29 (0, 0)))
section
variable {w W W' : World} {x0 y0 x1 y1 x2 y2 x3 y3 u v c0 c1 c2 c3 c4 c5 c6 c7 : Int}
theorem K9.below (h : K9 w x0 y0 x1 y1 x2 y2 x3 y3 u v c0 c1 c2 c3 c4 c5 c6 c7 W) (hb : Below W.heap.size W W') : K9 w x0 y0 x1 y1 x2 y2 x3 y3 u v c0 c1 c2 c3 c4 c5 c6 c7 W' :=
 ⟨below_step h.out.1 hb, blk_below h.out.2.1 hb, blk_below h.out.2.2.1 hb, blk_below h.out.2.2.2.1 hb, blk_below h.out.2.2.2.2 hb⟩
theorem K9.drewN (h : K9 w x0 y0 x1 y1 x2 y2 x3 y3 u v c0 c1 c2 c3 c4 c5 c6 c7 W) (m : Nat) : K9 w x0 y0 x1 y1 x2 y2 x3 y3 u v c0 c1 c2 c3 c4 c5 c6 c7 (W.drewN m) := ⟨pw_below_drewN h.out.1 m, blk_drewN h.out.2.1 m, blk_drewN h.out.2.2.1 m, blk_drewN h.out.2.2.2.1 m, blk_drewN h.out.2.2.2.2 m⟩
theorem K9.drew (h : K9 w x0 y0 x1 y1 x2 y2 x3 y3 u v c0 c1 c2 c3 c4 c5 c6 c7 W) : K9 w x0 y0 x1 y1 x2 y2 x3 y3 u v c0 c1 c2 c3 c4 c5 c6 c7 W.drew := ⟨below_drew h.out.1, blk_drew h.out.2.1, blk_drew h.out.2.2.1, blk_drew h.out.2.2.2.1, blk_drew h.out.2.2.2.2⟩
theorem K9.cells (h : K9 w x0 y0 x1 y1 x2 y2 x3 y3 u v c0 c1 c2 c3 c4 c5 c6 c7 W) : W.cell? ⟨w.heap.size, 0, none⟩ = some (.int .i64 x0) ∧ W.cell? ⟨w.heap.size, 1, none⟩ = some (.int .i64 y0) ∧ W.cell? ⟨w.heap.size, 2, none⟩ = some (.int .i64 x1) ∧ W.cell? ⟨w.heap.size, 3, none⟩ = some (.int .i64 y1) ∧ W.cell? ⟨w.heap.size, 4, none⟩ = some (.int .i64 x2) ∧ W.cell? ⟨w.heap.size, 5, none⟩ = some (.int .i64 y2) ∧ W.cell? ⟨w.heap.size + 1, 0, none⟩ = some (.int .i64 x3) ∧ W.cell? ⟨w.heap.size + 1, 1, none⟩ = some (.int .i64 y3) ∧ W.cell? ⟨w.heap.size + 1 + 1, 0, none⟩ = some (.int .i64 u) ∧ W.cell? ⟨w.heap.size + 1 + 1, 1, none⟩ = some (.int .i64 v) ∧ W.cell? ⟨w.heap.size + 1 + 1 + 1, 0, none⟩ = some (.int .i64 c0) ∧ W.cell? ⟨w.heap.size + 1 + 1 + 1, 1, none⟩ = some (.int .i64 c1) ∧ W.cell? ⟨w.heap.size + 1 + 1 + 1, 2, none⟩ = some (.int .i64 c2) ∧ W.cell? ⟨w.heap.size + 1 + 1 + 1, 3, none⟩ = some (.int .i64 c3) ∧ W.cell? ⟨w.heap.size + 1 + 1 + 1, 4, none⟩ = some (.int .i64 c4) ∧ W.cell? ⟨w.heap.size + 1 + 1 + 1, 5, none⟩ = some (.int .i64 c5) ∧ W.cell? ⟨w.heap.size + 1 + 1 + 1, 6, none⟩ = some (.int .i64 c6) ∧ W.cell? ⟨w.heap.size + 1 + 1 + 1, 7, none⟩ = some (.int .i64 c7) ∧ W.frozen? ⟨w.heap.size + 1 + 1 + 1, 0, none⟩ = false ∧ W.frozen? ⟨w.heap.size + 1 + 1 + 1, 1, none⟩ = false ∧ W.frozen? ⟨w.heap.size + 1 + 1 + 1, 2, none⟩ = false ∧ W.frozen? ⟨w.heap.size + 1 + 1 + 1, 3, none⟩ = false ∧ W.frozen? ⟨w.heap.size + 1 + 1 + 1, 4, none⟩ = false ∧ W.frozen? ⟨w.heap.size + 1 + 1 + 1, 5, none⟩ = false ∧ W.frozen? ⟨w.heap.size + 1 + 1 + 1, 6, none⟩ = false ∧ W.frozen? ⟨w.heap.size + 1 + 1 + 1, 7, none⟩ = false :=
 ⟨(blk_cell h.out.2.1 0).trans rfl, (blk_cell h.out.2.1 1).trans rfl, (blk_cell h.out.2.1 2).trans rfl, (blk_cell h.out.2.1 3).trans rfl, (blk_cell h.out.2.1 4).trans rfl, (blk_cell h.out.2.1 5).trans rfl, (blk_cell h.out.2.2.1 0).trans rfl, (blk_cell h.out.2.2.1 1).trans rfl, (blk_cell h.out.2.2.2.1 0).trans rfl, (blk_cell h.out.2.2.2.1 1).trans rfl, (blk_cell h.out.2.2.2.2 0).trans rfl, (blk_cell h.out.2.2.2.2 1).trans rfl, (blk_cell h.out.2.2.2.2 2).trans rfl, (blk_cell h.out.2.2.2.2 3).trans rfl, (blk_cell h.out.2.2.2.2 4).trans rfl, (blk_cell h.out.2.2.2.2 5).trans rfl, (blk_cell h.out.2.2.2.2 6).trans rfl, (blk_cell h.out.2.2.2.2 7).trans rfl, blk_frozen h.out.2.2.2.2 0, blk_frozen h.out.2.2.2.2 1, blk_frozen h.out.2.2.2.2 2, blk_frozen h.out.2.2.2.2 3, blk_frozen h.out.2.2.2.2 4, blk_frozen h.out.2.2.2.2 5, blk_frozen h.out.2.2.2.2 6, blk_frozen h.out.2.2.2.2 7⟩
theorem held_ (h : K9 w x0 y0 x1 y1 x2 y2 x3 y3 u v c0 c1 c2 c3 c4 c5 c6 c7 W) : W.cell? ⟨w.heap.size, 0, none⟩ = some (.int .i64 x0) ∧ W.cell? ⟨w.heap.size, 1, none⟩ = some (.int .i64 y0) ∧ W.cell? ⟨w.heap.size, 2, none⟩ = some (.int .i64 x1) ∧ W.cell? ⟨w.heap.size, 3, none⟩ = some (.int .i64 y1) ∧ W.cell? ⟨w.heap.size, 4, none⟩ = some (.int .i64 x2) ∧ W.cell? ⟨w.heap.size, 5, none⟩ = some (.int .i64 y2) ∧ W.cell? ⟨w.heap.size + 1, 0, none⟩ = some (.int .i64 x3) ∧ W.cell? ⟨w.heap.size + 1, 1, none⟩ = some (.int .i64 y3) ∧ W.cell? ⟨w.heap.size + 1 + 1 + 1, 0, none⟩ = some (.int .i64 c0) ∧ W.cell? ⟨w.heap.size + 1 + 1 + 1, 1, none⟩ = some (.int .i64 c1) ∧ W.cell? ⟨w.heap.size + 1 + 1 + 1, 2, none⟩ = some (.int .i64 c2) ∧ W.cell? ⟨w.heap.size + 1 + 1 + 1, 3, none⟩ = some (.int .i64 c3) ∧ W.cell? ⟨w.heap.size + 1 + 1 + 1, 4, none⟩ = some (.int .i64 c4) ∧ W.cell? ⟨w.heap.size + 1 + 1 + 1, 5, none⟩ = some (.int .i64 c5) ∧ W.cell? ⟨w.heap.size + 1 + 1 + 1, 6, none⟩ = some (.int .i64 c6) ∧ W.cell? ⟨w.heap.size + 1 + 1 + 1, 7, none⟩ = some (.int .i64 c7) :=
 ⟨(blk_cell h.out.2.1 0).trans rfl, (blk_cell h.out.2.1 1).trans rfl, (blk_cell h.out.2.1 2).trans rfl, (blk_cell h.out.2.1 3).trans rfl, (blk_cell h.out.2.1 4).trans rfl, (blk_cell h.out.2.1 5).trans rfl, (blk_cell h.out.2.2.1 0).trans rfl, (blk_cell h.out.2.2.1 1).trans rfl, (blk_cell h.out.2.2.2.2 0).trans rfl, (blk_cell h.out.2.2.2.2 1).trans rfl, (blk_cell h.out.2.2.2.2 2).trans rfl, (blk_cell h.out.2.2.2.2 3).trans rfl, (blk_cell h.out.2.2.2.2 4).trans rfl, (blk_cell h.out.2.2.2.2 5).trans rfl, (blk_cell h.out.2.2.2.2 6).trans rfl, (blk_cell h.out.2.2.2.2 7).trans rfl⟩
theorem undrew {W w' : World} (h : Below W.drew.heap.size W.drew w') : Below W.heap.size W w' := (below_drew1 (Below.refl _ _)).trans h
theorem K9.put0 (h : K9 w x0 y0 x1 y1 x2 y2 x3 y3 u v c0 c1 c2 c3 c4 c5 c6 c7 W) (a b : Int) : K9 w x0 y0 x1 y1 x2 y2 x3 y3 u v a b c2 c3 c4 c5 c6 c7 ((W.setCell ⟨w.heap.size + 1 + 1 + 1, 0, none⟩ (.int .i64 a)).setCell ⟨w.heap.size + 1 + 1 + 1, 1, none⟩ (.int .i64 b)) :=
 ⟨below_set2 h.out.1 (by omega) _ _ _ _, blk_far (blk_far h.out.2.1 (show w.heap.size ≠ w.heap.size + 1 + 1 + 1 by omega) _) (show w.heap.size ≠ w.heap.size + 1 + 1 + 1 by omega) _, blk_far (blk_far h.out.2.2.1 (show w.heap.size + 1 ≠ w.heap.size + 1 + 1 + 1 by omega) _) (show w.heap.size + 1 ≠ w.heap.size + 1 + 1 + 1 by omega) _, blk_far (blk_far h.out.2.2.2.1 (show w.heap.size + 1 + 1 ≠ w.heap.size + 1 + 1 + 1 by omega) _) (show w.heap.size + 1 + 1 ≠ w.heap.size + 1 + 1 + 1 by omega) _, blk_put (cs := #[.int .i64 a, .int .i64 c1, .int .i64 c2, .int .i64 c3, .int .i64 c4, .int .i64 c5, .int .i64 c6, .int .i64 c7]) (blk_put h.out.2.2.2.2 0 _ rfl) 1 _ rfl⟩
theorem K9.put1 (h : K9 w x0 y0 x1 y1 x2 y2 x3 y3 u v c0 c1 c2 c3 c4 c5 c6 c7 W) (a b : Int) : K9 w x0 y0 x1 y1 x2 y2 x3 y3 u v c0 c1 a b c4 c5 c6 c7 ((W.setCell ⟨w.heap.size + 1 + 1 + 1, 2, none⟩ (.int .i64 a)).setCell ⟨w.heap.size + 1 + 1 + 1, 3, none⟩ (.int .i64 b)) :=
 ⟨below_set2 h.out.1 (by omega) _ _ _ _, blk_far (blk_far h.out.2.1 (show w.heap.size ≠ w.heap.size + 1 + 1 + 1 by omega) _) (show w.heap.size ≠ w.heap.size + 1 + 1 + 1 by omega) _, blk_far (blk_far h.out.2.2.1 (show w.heap.size + 1 ≠ w.heap.size + 1 + 1 + 1 by omega) _) (show w.heap.size + 1 ≠ w.heap.size + 1 + 1 + 1 by omega) _, blk_far (blk_far h.out.2.2.2.1 (show w.heap.size + 1 + 1 ≠ w.heap.size + 1 + 1 + 1 by omega) _) (show w.heap.size + 1 + 1 ≠ w.heap.size + 1 + 1 + 1 by omega) _, blk_put (cs := #[.int .i64 c0, .int .i64 c1, .int .i64 a, .int .i64 c3, .int .i64 c4, .int .i64 c5, .int .i64 c6, .int .i64 c7]) (blk_put h.out.2.2.2.2 2 _ rfl) 3 _ rfl⟩
theorem K9.put2 (h : K9 w x0 y0 x1 y1 x2 y2 x3 y3 u v c0 c1 c2 c3 c4 c5 c6 c7 W) (a b : Int) : K9 w x0 y0 x1 y1 x2 y2 x3 y3 u v c0 c1 c2 c3 a b c6 c7 ((W.setCell ⟨w.heap.size + 1 + 1 + 1, 4, none⟩ (.int .i64 a)).setCell ⟨w.heap.size + 1 + 1 + 1, 5, none⟩ (.int .i64 b)) :=
 ⟨below_set2 h.out.1 (by omega) _ _ _ _, blk_far (blk_far h.out.2.1 (show w.heap.size ≠ w.heap.size + 1 + 1 + 1 by omega) _) (show w.heap.size ≠ w.heap.size + 1 + 1 + 1 by omega) _, blk_far (blk_far h.out.2.2.1 (show w.heap.size + 1 ≠ w.heap.size + 1 + 1 + 1 by omega) _) (show w.heap.size + 1 ≠ w.heap.size + 1 + 1 + 1 by omega) _, blk_far (blk_far h.out.2.2.2.1 (show w.heap.size + 1 + 1 ≠ w.heap.size + 1 + 1 + 1 by omega) _) (show w.heap.size + 1 + 1 ≠ w.heap.size + 1 + 1 + 1 by omega) _, blk_put (cs := #[.int .i64 c0, .int .i64 c1, .int .i64 c2, .int .i64 c3, .int .i64 a, .int .i64 c5, .int .i64 c6, .int .i64 c7]) (blk_put h.out.2.2.2.2 4 _ rfl) 5 _ rfl⟩
theorem K9.put3 (h : K9 w x0 y0 x1 y1 x2 y2 x3 y3 u v c0 c1 c2 c3 c4 c5 c6 c7 W) (a b : Int) : K9 w x0 y0 x1 y1 x2 y2 x3 y3 u v c0 c1 c2 c3 c4 c5 a b ((W.setCell ⟨w.heap.size + 1 + 1 + 1, 6, none⟩ (.int .i64 a)).setCell ⟨w.heap.size + 1 + 1 + 1, 7, none⟩ (.int .i64 b)) :=
 ⟨below_set2 h.out.1 (by omega) _ _ _ _, blk_far (blk_far h.out.2.1 (show w.heap.size ≠ w.heap.size + 1 + 1 + 1 by omega) _) (show w.heap.size ≠ w.heap.size + 1 + 1 + 1 by omega) _, blk_far (blk_far h.out.2.2.1 (show w.heap.size + 1 ≠ w.heap.size + 1 + 1 + 1 by omega) _) (show w.heap.size + 1 ≠ w.heap.size + 1 + 1 + 1 by omega) _, blk_far (blk_far h.out.2.2.2.1 (show w.heap.size + 1 + 1 ≠ w.heap.size + 1 + 1 + 1 by omega) _) (show w.heap.size + 1 + 1 ≠ w.heap.size + 1 + 1 + 1 by omega) _, blk_put (cs := #[.int .i64 c0, .int .i64 c1, .int .i64 c2, .int .i64 c3, .int .i64 c4, .int .i64 c5, .int .i64 a, .int .i64 c7]) (blk_put h.out.2.2.2.2 6 _ rfl) 7 _ rfl⟩
end
set_option maxHeartbeats 16000000 in
set_option maxRecDepth 100000 in
theorem mv_walk {x0 y0 x1 y1 x2 y2 x3 y3 u v X0 Y0 X1 Y1 X2 Y2 X3 Y3 : Int} (m0 n0 : Bool) (C0 : Aside0 (zelligeref06_Can.f x0 y0 = some m0)) (D0 : Aside0 (zelligeref06_Can.f X0 Y0 = some n0)) (E0 : Aside0 (wrap64 (x0 + u) = X0 ∧ wrap64 (y0 + v) = Y0)) (m1 n1 : Bool) (C1 : Aside0 (zelligeref06_Can.f x1 y1 = some m1)) (D1 : Aside0 (zelligeref06_Can.f X1 Y1 = some n1)) (E1 : Aside0 (wrap64 (x1 + u) = X1 ∧ wrap64 (y1 + v) = Y1)) (m2 n2 : Bool) (C2 : Aside0 (zelligeref06_Can.f x2 y2 = some m2)) (D2 : Aside0 (zelligeref06_Can.f X2 Y2 = some n2)) (E2 : Aside0 (wrap64 (x2 + u) = X2 ∧ wrap64 (y2 + v) = Y2)) (m3 n3 : Bool) (C3 : Aside0 (zelligeref06_Can.f x3 y3 = some m3)) (D3 : Aside0 (zelligeref06_Can.f X3 Y3 = some n3)) (E3 : Aside0 (wrap64 (x3 + u) = X3 ∧ wrap64 (y3 + v) = Y3)) (b : Bool) (CB : Aside0 (zelligeref06_Can.f u v = some b)) (k1 k2 : Nat) (LV : Aside0 (zelligelaw08_lives.f k1 = some true))
  (q : Bool) (Q1 : Aside0 (tie_Conflict.f k2 X0 Y0 X1 Y1 X2 Y2 X3 Y3 = some q)) (Q2 : Aside0 (m0 = true → m1 = true → m2 = true → m3 = true → b = true → n0 = true → n1 = true → n2 = true → n3 = true → tie_Conflict.f k2 x0 y0 x1 y1 x2 y2 x3 y3 = some q)) (w : World) :
  Calls Try.prog 6 #[.agg #[.int .i64 x0, .int .i64 y0, .int .i64 x1, .int .i64 y1, .int .i64 x2, .int .i64 y2], .agg #[.int .i64 x3, .int .i64 y3], .agg #[.int .i64 u, .int .i64 v]] w fun e w' => e = .returned (.bool true) ∧ Below w.heap.size w w' := by
 go_enter Try.func6, Try.ntmps6
 go_wp2_with fail
 obtain ⟨n0_, n1_, n2_, n3_, bw, nw⟩ := Rf.four_new w (.cells #[.int .i64 x0, .int .i64 y0, .int .i64 x1, .int .i64 y1, .int .i64 x2, .int .i64 y2] 24) (.cells #[.int .i64 x3, .int .i64 y3] 23) (.cells #[.int .i64 u, .int .i64 v] 23) (.cells #[.int .i64 x0, .int .i64 y0, .int .i64 x1, .int .i64 y1, .int .i64 x2, .int .i64 y2, .int .i64 x3, .int .i64 y3] 29)
 generalize ((((w.alloc (.cells #[.int .i64 x0, .int .i64 y0, .int .i64 x1, .int .i64 y1, .int .i64 x2, .int .i64 y2] 24)).alloc (.cells #[.int .i64 x3, .int .i64 y3] 23)).alloc (.cells #[.int .i64 u, .int .i64 v] 23)).alloc (.cells #[.int .i64 x0, .int .i64 y0, .int .i64 x1, .int .i64 y1, .int .i64 x2, .int .i64 y2, .int .i64 x3, .int .i64 y3] 29)) = W at n0_ n1_ n2_ n3_ bw nw ⊢
 have S := Aside0.mk (K9.mk ⟨bw, n0_, n1_, n2_, n3_⟩)
 clear n0_ n1_ n2_ n3_ bw nw
 obtain ⟨k0, k1, k2, k3, k4, k5, k6, k7, k8, k9, k10, k11, k12, k13, k14, k15, k16, k17, k18, k19, k20, k21, k22, k23, k24, k25⟩ := S.out.cells
 refine wp_loop_rounds 5 ?_
 rw [rounds_succ]
 cases m0
 ·as_aux_lemma =>
   go_wp2_with (first | (with_reducible go_at_call 13; with_reducible refine (zelligeref06_Can.calls x0 y0 _ _ C0.out).mono ?_; rintro e v1 ⟨rfl, hb⟩; replace S := Aside0.mk (S.out.below hb); clear hb k0 k1 k2 k3 k4 k5 k6 k7 k8 k9 k10 k11 k12 k13 k14 k15 k16 k17 k18 k19 k20 k21 k22 k23 k24 k25; obtain ⟨k0, k1, k2, k3, k4, k5, k6, k7, k8, k9, k10, k11, k12, k13, k14, k15, k16, k17, k18, k19, k20, k21, k22, k23, k24, k25⟩ := S.out.cells) | (with_reducible go_at_call 10; with_reducible refine (zelligelaw08_lives.calls _ true _ LV.out).mono ?_; rintro e v1 ⟨rfl, hb⟩; replace S := Aside0.mk (S.out.below hb); clear hb k0 k1 k2 k3 k4 k5 k6 k7 k8 k9 k10 k11 k12 k13 k14 k15 k16 k17 k18 k19 k20 k21 k22 k23 k24 k25; obtain ⟨k0, k1, k2, k3, k4, k5, k6, k7, k8, k9, k10, k11, k12, k13, k14, k15, k16, k17, k18, k19, k20, k21, k22, k23, k24, k25⟩ := S.out.cells))
   go_ret
   exact ⟨rfl, S.out.out.1⟩
 cases b
 ·as_aux_lemma =>
   go_wp2_with (first | (with_reducible go_at_call 13; with_reducible refine (zelligeref06_Can.calls x0 y0 _ _ C0.out).mono ?_; rintro e v1 ⟨rfl, hb⟩; replace S := Aside0.mk (S.out.below hb); clear hb k0 k1 k2 k3 k4 k5 k6 k7 k8 k9 k10 k11 k12 k13 k14 k15 k16 k17 k18 k19 k20 k21 k22 k23 k24 k25; obtain ⟨k0, k1, k2, k3, k4, k5, k6, k7, k8, k9, k10, k11, k12, k13, k14, k15, k16, k17, k18, k19, k20, k21, k22, k23, k24, k25⟩ := S.out.cells) | (with_reducible go_at_call 13; with_reducible refine (zelligeref06_Can.calls u v _ _ CB.out).mono ?_; rintro e v1 ⟨rfl, hb⟩; replace S := Aside0.mk (S.out.below hb); clear hb k0 k1 k2 k3 k4 k5 k6 k7 k8 k9 k10 k11 k12 k13 k14 k15 k16 k17 k18 k19 k20 k21 k22 k23 k24 k25; obtain ⟨k0, k1, k2, k3, k4, k5, k6, k7, k8, k9, k10, k11, k12, k13, k14, k15, k16, k17, k18, k19, k20, k21, k22, k23, k24, k25⟩ := S.out.cells) | (with_reducible go_at_call 10; with_reducible refine (zelligelaw08_lives.calls _ true _ LV.out).mono ?_; rintro e v1 ⟨rfl, hb⟩; replace S := Aside0.mk (S.out.below hb); clear hb k0 k1 k2 k3 k4 k5 k6 k7 k8 k9 k10 k11 k12 k13 k14 k15 k16 k17 k18 k19 k20 k21 k22 k23 k24 k25; obtain ⟨k0, k1, k2, k3, k4, k5, k6, k7, k8, k9, k10, k11, k12, k13, k14, k15, k16, k17, k18, k19, k20, k21, k22, k23, k24, k25⟩ := S.out.cells))
   go_ret
   exact ⟨rfl, S.out.out.1⟩
 go_upto_region 7 with (first | (with_reducible go_at_call 13; with_reducible refine (zelligeref06_Can.calls x0 y0 _ _ C0.out).mono ?_; rintro e v1 ⟨rfl, hb⟩; replace S := Aside0.mk (S.out.below hb); clear hb k0 k1 k2 k3 k4 k5 k6 k7 k8 k9 k10 k11 k12 k13 k14 k15 k16 k17 k18 k19 k20 k21 k22 k23 k24 k25; obtain ⟨k0, k1, k2, k3, k4, k5, k6, k7, k8, k9, k10, k11, k12, k13, k14, k15, k16, k17, k18, k19, k20, k21, k22, k23, k24, k25⟩ := S.out.cells) | (with_reducible go_at_call 13; with_reducible refine (zelligeref06_Can.calls u v _ _ CB.out).mono ?_; rintro e v1 ⟨rfl, hb⟩; replace S := Aside0.mk (S.out.below hb); clear hb k0 k1 k2 k3 k4 k5 k6 k7 k8 k9 k10 k11 k12 k13 k14 k15 k16 k17 k18 k19 k20 k21 k22 k23 k24 k25; obtain ⟨k0, k1, k2, k3, k4, k5, k6, k7, k8, k9, k10, k11, k12, k13, k14, k15, k16, k17, k18, k19, k20, k21, k22, k23, k24, k25⟩ := S.out.cells))
 go_region
 as_aux_lemma =>
  replace S := Aside0.mk ((K9.put0 S.out (wrap64 (x0 + u)) (wrap64 (y0 + v))).drew)
  rw [E0.out.1, E0.out.2] at S ⊢
  generalize ((v1.setCell ⟨w.heap.size + 1 + 1 + 1, 0, none⟩ (.int .i64 X0)).setCell ⟨w.heap.size + 1 + 1 + 1, 1, none⟩ (.int .i64 Y0)).drew = v1 at S ⊢
  clear k0 k1 k2 k3 k4 k5 k6 k7 k8 k9 k10 k11 k12 k13 k14 k15 k16 k17 k18 k19 k20 k21 k22 k23 k24 k25
  obtain ⟨k0, k1, k2, k3, k4, k5, k6, k7, k8, k9, k10, k11, k12, k13, k14, k15, k16, k17, k18, k19, k20, k21, k22, k23, k24, k25⟩ := S.out.cells
  cases n0
  ·as_aux_lemma =>
    go_wp2_with (first | (with_reducible go_at_call 13; with_reducible refine (zelligeref06_Can.calls X0 Y0 _ _ D0.out).mono ?_; rintro e v1 ⟨rfl, hb⟩; replace S := Aside0.mk (S.out.below hb); clear hb k0 k1 k2 k3 k4 k5 k6 k7 k8 k9 k10 k11 k12 k13 k14 k15 k16 k17 k18 k19 k20 k21 k22 k23 k24 k25; obtain ⟨k0, k1, k2, k3, k4, k5, k6, k7, k8, k9, k10, k11, k12, k13, k14, k15, k16, k17, k18, k19, k20, k21, k22, k23, k24, k25⟩ := S.out.cells) | (with_reducible go_at_call 10; with_reducible refine (zelligelaw08_lives.calls _ true _ LV.out).mono ?_; rintro e v1 ⟨rfl, hb⟩; replace S := Aside0.mk (S.out.below hb); clear hb k0 k1 k2 k3 k4 k5 k6 k7 k8 k9 k10 k11 k12 k13 k14 k15 k16 k17 k18 k19 k20 k21 k22 k23 k24 k25; obtain ⟨k0, k1, k2, k3, k4, k5, k6, k7, k8, k9, k10, k11, k12, k13, k14, k15, k16, k17, k18, k19, k20, k21, k22, k23, k24, k25⟩ := S.out.cells))
    go_ret
    exact ⟨rfl, S.out.out.1⟩
  go_wp2_with (with_reducible go_at_call 13; with_reducible refine (zelligeref06_Can.calls X0 Y0 _ _ D0.out).mono ?_; rintro e v1 ⟨rfl, hb⟩; replace S := Aside0.mk (S.out.below hb); clear hb k0 k1 k2 k3 k4 k5 k6 k7 k8 k9 k10 k11 k12 k13 k14 k15 k16 k17 k18 k19 k20 k21 k22 k23 k24 k25; obtain ⟨k0, k1, k2, k3, k4, k5, k6, k7, k8, k9, k10, k11, k12, k13, k14, k15, k16, k17, k18, k19, k20, k21, k22, k23, k24, k25⟩ := S.out.cells)
  as_aux_lemma =>
   rw [rounds_succ]
   cases m1
   ·as_aux_lemma =>
     go_wp2_with (first | (with_reducible go_at_call 13; with_reducible refine (zelligeref06_Can.calls x1 y1 _ _ C1.out).mono ?_; rintro e v1 ⟨rfl, hb⟩; replace S := Aside0.mk (S.out.below hb); clear hb k0 k1 k2 k3 k4 k5 k6 k7 k8 k9 k10 k11 k12 k13 k14 k15 k16 k17 k18 k19 k20 k21 k22 k23 k24 k25; obtain ⟨k0, k1, k2, k3, k4, k5, k6, k7, k8, k9, k10, k11, k12, k13, k14, k15, k16, k17, k18, k19, k20, k21, k22, k23, k24, k25⟩ := S.out.cells) | (with_reducible go_at_call 10; with_reducible refine (zelligelaw08_lives.calls _ true _ LV.out).mono ?_; rintro e v1 ⟨rfl, hb⟩; replace S := Aside0.mk (S.out.below hb); clear hb k0 k1 k2 k3 k4 k5 k6 k7 k8 k9 k10 k11 k12 k13 k14 k15 k16 k17 k18 k19 k20 k21 k22 k23 k24 k25; obtain ⟨k0, k1, k2, k3, k4, k5, k6, k7, k8, k9, k10, k11, k12, k13, k14, k15, k16, k17, k18, k19, k20, k21, k22, k23, k24, k25⟩ := S.out.cells))
     go_ret
     exact ⟨rfl, S.out.out.1⟩
   go_upto_region 7 with (first | (with_reducible go_at_call 13; with_reducible refine (zelligeref06_Can.calls x1 y1 _ _ C1.out).mono ?_; rintro e v1 ⟨rfl, hb⟩; replace S := Aside0.mk (S.out.below hb); clear hb k0 k1 k2 k3 k4 k5 k6 k7 k8 k9 k10 k11 k12 k13 k14 k15 k16 k17 k18 k19 k20 k21 k22 k23 k24 k25; obtain ⟨k0, k1, k2, k3, k4, k5, k6, k7, k8, k9, k10, k11, k12, k13, k14, k15, k16, k17, k18, k19, k20, k21, k22, k23, k24, k25⟩ := S.out.cells) | (with_reducible go_at_call 13; with_reducible refine (zelligeref06_Can.calls u v _ _ CB.out).mono ?_; rintro e v1 ⟨rfl, hb⟩; replace S := Aside0.mk (S.out.below hb); clear hb k0 k1 k2 k3 k4 k5 k6 k7 k8 k9 k10 k11 k12 k13 k14 k15 k16 k17 k18 k19 k20 k21 k22 k23 k24 k25; obtain ⟨k0, k1, k2, k3, k4, k5, k6, k7, k8, k9, k10, k11, k12, k13, k14, k15, k16, k17, k18, k19, k20, k21, k22, k23, k24, k25⟩ := S.out.cells))
   go_region
   as_aux_lemma =>
    replace S := Aside0.mk ((K9.put1 S.out (wrap64 (x1 + u)) (wrap64 (y1 + v))).drew)
    rw [E1.out.1, E1.out.2] at S ⊢
    generalize ((v1.setCell ⟨w.heap.size + 1 + 1 + 1, 2, none⟩ (.int .i64 X1)).setCell ⟨w.heap.size + 1 + 1 + 1, 3, none⟩ (.int .i64 Y1)).drew = v1 at S ⊢
    clear k0 k1 k2 k3 k4 k5 k6 k7 k8 k9 k10 k11 k12 k13 k14 k15 k16 k17 k18 k19 k20 k21 k22 k23 k24 k25
    obtain ⟨k0, k1, k2, k3, k4, k5, k6, k7, k8, k9, k10, k11, k12, k13, k14, k15, k16, k17, k18, k19, k20, k21, k22, k23, k24, k25⟩ := S.out.cells
    cases n1
    ·as_aux_lemma =>
      go_wp2_with (first | (with_reducible go_at_call 13; with_reducible refine (zelligeref06_Can.calls X1 Y1 _ _ D1.out).mono ?_; rintro e v1 ⟨rfl, hb⟩; replace S := Aside0.mk (S.out.below hb); clear hb k0 k1 k2 k3 k4 k5 k6 k7 k8 k9 k10 k11 k12 k13 k14 k15 k16 k17 k18 k19 k20 k21 k22 k23 k24 k25; obtain ⟨k0, k1, k2, k3, k4, k5, k6, k7, k8, k9, k10, k11, k12, k13, k14, k15, k16, k17, k18, k19, k20, k21, k22, k23, k24, k25⟩ := S.out.cells) | (with_reducible go_at_call 10; with_reducible refine (zelligelaw08_lives.calls _ true _ LV.out).mono ?_; rintro e v1 ⟨rfl, hb⟩; replace S := Aside0.mk (S.out.below hb); clear hb k0 k1 k2 k3 k4 k5 k6 k7 k8 k9 k10 k11 k12 k13 k14 k15 k16 k17 k18 k19 k20 k21 k22 k23 k24 k25; obtain ⟨k0, k1, k2, k3, k4, k5, k6, k7, k8, k9, k10, k11, k12, k13, k14, k15, k16, k17, k18, k19, k20, k21, k22, k23, k24, k25⟩ := S.out.cells))
      go_ret
      exact ⟨rfl, S.out.out.1⟩
    go_wp2_with (with_reducible go_at_call 13; with_reducible refine (zelligeref06_Can.calls X1 Y1 _ _ D1.out).mono ?_; rintro e v1 ⟨rfl, hb⟩; replace S := Aside0.mk (S.out.below hb); clear hb k0 k1 k2 k3 k4 k5 k6 k7 k8 k9 k10 k11 k12 k13 k14 k15 k16 k17 k18 k19 k20 k21 k22 k23 k24 k25; obtain ⟨k0, k1, k2, k3, k4, k5, k6, k7, k8, k9, k10, k11, k12, k13, k14, k15, k16, k17, k18, k19, k20, k21, k22, k23, k24, k25⟩ := S.out.cells)
    as_aux_lemma =>
     rw [rounds_succ]
     cases m2
     ·as_aux_lemma =>
       go_wp2_with (first | (with_reducible go_at_call 13; with_reducible refine (zelligeref06_Can.calls x2 y2 _ _ C2.out).mono ?_; rintro e v1 ⟨rfl, hb⟩; replace S := Aside0.mk (S.out.below hb); clear hb k0 k1 k2 k3 k4 k5 k6 k7 k8 k9 k10 k11 k12 k13 k14 k15 k16 k17 k18 k19 k20 k21 k22 k23 k24 k25; obtain ⟨k0, k1, k2, k3, k4, k5, k6, k7, k8, k9, k10, k11, k12, k13, k14, k15, k16, k17, k18, k19, k20, k21, k22, k23, k24, k25⟩ := S.out.cells) | (with_reducible go_at_call 10; with_reducible refine (zelligelaw08_lives.calls _ true _ LV.out).mono ?_; rintro e v1 ⟨rfl, hb⟩; replace S := Aside0.mk (S.out.below hb); clear hb k0 k1 k2 k3 k4 k5 k6 k7 k8 k9 k10 k11 k12 k13 k14 k15 k16 k17 k18 k19 k20 k21 k22 k23 k24 k25; obtain ⟨k0, k1, k2, k3, k4, k5, k6, k7, k8, k9, k10, k11, k12, k13, k14, k15, k16, k17, k18, k19, k20, k21, k22, k23, k24, k25⟩ := S.out.cells))
       go_ret
       exact ⟨rfl, S.out.out.1⟩
     go_upto_region 7 with (first | (with_reducible go_at_call 13; with_reducible refine (zelligeref06_Can.calls x2 y2 _ _ C2.out).mono ?_; rintro e v1 ⟨rfl, hb⟩; replace S := Aside0.mk (S.out.below hb); clear hb k0 k1 k2 k3 k4 k5 k6 k7 k8 k9 k10 k11 k12 k13 k14 k15 k16 k17 k18 k19 k20 k21 k22 k23 k24 k25; obtain ⟨k0, k1, k2, k3, k4, k5, k6, k7, k8, k9, k10, k11, k12, k13, k14, k15, k16, k17, k18, k19, k20, k21, k22, k23, k24, k25⟩ := S.out.cells) | (with_reducible go_at_call 13; with_reducible refine (zelligeref06_Can.calls u v _ _ CB.out).mono ?_; rintro e v1 ⟨rfl, hb⟩; replace S := Aside0.mk (S.out.below hb); clear hb k0 k1 k2 k3 k4 k5 k6 k7 k8 k9 k10 k11 k12 k13 k14 k15 k16 k17 k18 k19 k20 k21 k22 k23 k24 k25; obtain ⟨k0, k1, k2, k3, k4, k5, k6, k7, k8, k9, k10, k11, k12, k13, k14, k15, k16, k17, k18, k19, k20, k21, k22, k23, k24, k25⟩ := S.out.cells))
     go_region
     as_aux_lemma =>
      replace S := Aside0.mk ((K9.put2 S.out (wrap64 (x2 + u)) (wrap64 (y2 + v))).drew)
      rw [E2.out.1, E2.out.2] at S ⊢
      generalize ((v1.setCell ⟨w.heap.size + 1 + 1 + 1, 4, none⟩ (.int .i64 X2)).setCell ⟨w.heap.size + 1 + 1 + 1, 5, none⟩ (.int .i64 Y2)).drew = v1 at S ⊢
      clear k0 k1 k2 k3 k4 k5 k6 k7 k8 k9 k10 k11 k12 k13 k14 k15 k16 k17 k18 k19 k20 k21 k22 k23 k24 k25
      obtain ⟨k0, k1, k2, k3, k4, k5, k6, k7, k8, k9, k10, k11, k12, k13, k14, k15, k16, k17, k18, k19, k20, k21, k22, k23, k24, k25⟩ := S.out.cells
      cases n2
      ·as_aux_lemma =>
        go_wp2_with (first | (with_reducible go_at_call 13; with_reducible refine (zelligeref06_Can.calls X2 Y2 _ _ D2.out).mono ?_; rintro e v1 ⟨rfl, hb⟩; replace S := Aside0.mk (S.out.below hb); clear hb k0 k1 k2 k3 k4 k5 k6 k7 k8 k9 k10 k11 k12 k13 k14 k15 k16 k17 k18 k19 k20 k21 k22 k23 k24 k25; obtain ⟨k0, k1, k2, k3, k4, k5, k6, k7, k8, k9, k10, k11, k12, k13, k14, k15, k16, k17, k18, k19, k20, k21, k22, k23, k24, k25⟩ := S.out.cells) | (with_reducible go_at_call 10; with_reducible refine (zelligelaw08_lives.calls _ true _ LV.out).mono ?_; rintro e v1 ⟨rfl, hb⟩; replace S := Aside0.mk (S.out.below hb); clear hb k0 k1 k2 k3 k4 k5 k6 k7 k8 k9 k10 k11 k12 k13 k14 k15 k16 k17 k18 k19 k20 k21 k22 k23 k24 k25; obtain ⟨k0, k1, k2, k3, k4, k5, k6, k7, k8, k9, k10, k11, k12, k13, k14, k15, k16, k17, k18, k19, k20, k21, k22, k23, k24, k25⟩ := S.out.cells))
        go_ret
        exact ⟨rfl, S.out.out.1⟩
      go_wp2_with (with_reducible go_at_call 13; with_reducible refine (zelligeref06_Can.calls X2 Y2 _ _ D2.out).mono ?_; rintro e v1 ⟨rfl, hb⟩; replace S := Aside0.mk (S.out.below hb); clear hb k0 k1 k2 k3 k4 k5 k6 k7 k8 k9 k10 k11 k12 k13 k14 k15 k16 k17 k18 k19 k20 k21 k22 k23 k24 k25; obtain ⟨k0, k1, k2, k3, k4, k5, k6, k7, k8, k9, k10, k11, k12, k13, k14, k15, k16, k17, k18, k19, k20, k21, k22, k23, k24, k25⟩ := S.out.cells)
      as_aux_lemma =>
       rw [rounds_succ]
       cases m3
       ·as_aux_lemma =>
         go_wp2_with (first | (with_reducible go_at_call 13; with_reducible refine (zelligeref06_Can.calls x3 y3 _ _ C3.out).mono ?_; rintro e v1 ⟨rfl, hb⟩; replace S := Aside0.mk (S.out.below hb); clear hb k0 k1 k2 k3 k4 k5 k6 k7 k8 k9 k10 k11 k12 k13 k14 k15 k16 k17 k18 k19 k20 k21 k22 k23 k24 k25; obtain ⟨k0, k1, k2, k3, k4, k5, k6, k7, k8, k9, k10, k11, k12, k13, k14, k15, k16, k17, k18, k19, k20, k21, k22, k23, k24, k25⟩ := S.out.cells) | (with_reducible go_at_call 10; with_reducible refine (zelligelaw08_lives.calls _ true _ LV.out).mono ?_; rintro e v1 ⟨rfl, hb⟩; replace S := Aside0.mk (S.out.below hb); clear hb k0 k1 k2 k3 k4 k5 k6 k7 k8 k9 k10 k11 k12 k13 k14 k15 k16 k17 k18 k19 k20 k21 k22 k23 k24 k25; obtain ⟨k0, k1, k2, k3, k4, k5, k6, k7, k8, k9, k10, k11, k12, k13, k14, k15, k16, k17, k18, k19, k20, k21, k22, k23, k24, k25⟩ := S.out.cells))
         go_ret
         exact ⟨rfl, S.out.out.1⟩
       go_upto_region 7 with (first | (with_reducible go_at_call 13; with_reducible refine (zelligeref06_Can.calls x3 y3 _ _ C3.out).mono ?_; rintro e v1 ⟨rfl, hb⟩; replace S := Aside0.mk (S.out.below hb); clear hb k0 k1 k2 k3 k4 k5 k6 k7 k8 k9 k10 k11 k12 k13 k14 k15 k16 k17 k18 k19 k20 k21 k22 k23 k24 k25; obtain ⟨k0, k1, k2, k3, k4, k5, k6, k7, k8, k9, k10, k11, k12, k13, k14, k15, k16, k17, k18, k19, k20, k21, k22, k23, k24, k25⟩ := S.out.cells) | (with_reducible go_at_call 13; with_reducible refine (zelligeref06_Can.calls u v _ _ CB.out).mono ?_; rintro e v1 ⟨rfl, hb⟩; replace S := Aside0.mk (S.out.below hb); clear hb k0 k1 k2 k3 k4 k5 k6 k7 k8 k9 k10 k11 k12 k13 k14 k15 k16 k17 k18 k19 k20 k21 k22 k23 k24 k25; obtain ⟨k0, k1, k2, k3, k4, k5, k6, k7, k8, k9, k10, k11, k12, k13, k14, k15, k16, k17, k18, k19, k20, k21, k22, k23, k24, k25⟩ := S.out.cells))
       go_region
       as_aux_lemma =>
        replace S := Aside0.mk ((K9.put3 S.out (wrap64 (x3 + u)) (wrap64 (y3 + v))).drew)
        rw [E3.out.1, E3.out.2] at S ⊢
        generalize ((v1.setCell ⟨w.heap.size + 1 + 1 + 1, 6, none⟩ (.int .i64 X3)).setCell ⟨w.heap.size + 1 + 1 + 1, 7, none⟩ (.int .i64 Y3)).drew = v1 at S ⊢
        clear k0 k1 k2 k3 k4 k5 k6 k7 k8 k9 k10 k11 k12 k13 k14 k15 k16 k17 k18 k19 k20 k21 k22 k23 k24 k25
        obtain ⟨k0, k1, k2, k3, k4, k5, k6, k7, k8, k9, k10, k11, k12, k13, k14, k15, k16, k17, k18, k19, k20, k21, k22, k23, k24, k25⟩ := S.out.cells
        cases n3
        ·as_aux_lemma =>
          go_wp2_with (first | (with_reducible go_at_call 13; with_reducible refine (zelligeref06_Can.calls X3 Y3 _ _ D3.out).mono ?_; rintro e v1 ⟨rfl, hb⟩; replace S := Aside0.mk (S.out.below hb); clear hb k0 k1 k2 k3 k4 k5 k6 k7 k8 k9 k10 k11 k12 k13 k14 k15 k16 k17 k18 k19 k20 k21 k22 k23 k24 k25; obtain ⟨k0, k1, k2, k3, k4, k5, k6, k7, k8, k9, k10, k11, k12, k13, k14, k15, k16, k17, k18, k19, k20, k21, k22, k23, k24, k25⟩ := S.out.cells) | (with_reducible go_at_call 10; with_reducible refine (zelligelaw08_lives.calls _ true _ LV.out).mono ?_; rintro e v1 ⟨rfl, hb⟩; replace S := Aside0.mk (S.out.below hb); clear hb k0 k1 k2 k3 k4 k5 k6 k7 k8 k9 k10 k11 k12 k13 k14 k15 k16 k17 k18 k19 k20 k21 k22 k23 k24 k25; obtain ⟨k0, k1, k2, k3, k4, k5, k6, k7, k8, k9, k10, k11, k12, k13, k14, k15, k16, k17, k18, k19, k20, k21, k22, k23, k24, k25⟩ := S.out.cells))
          go_ret
          exact ⟨rfl, S.out.out.1⟩
        go_wp2_with (with_reducible go_at_call 13; with_reducible refine (zelligeref06_Can.calls X3 Y3 _ _ D3.out).mono ?_; rintro e v1 ⟨rfl, hb⟩; replace S := Aside0.mk (S.out.below hb); clear hb k0 k1 k2 k3 k4 k5 k6 k7 k8 k9 k10 k11 k12 k13 k14 k15 k16 k17 k18 k19 k20 k21 k22 k23 k24 k25; obtain ⟨k0, k1, k2, k3, k4, k5, k6, k7, k8, k9, k10, k11, k12, k13, k14, k15, k16, k17, k18, k19, k20, k21, k22, k23, k24, k25⟩ := S.out.cells)
        replace Q2 := Aside0.mk (Q2.out trivial trivial trivial trivial trivial trivial trivial trivial trivial)
        as_aux_lemma =>
         rw [rounds_succ]
         go_upto_region 10 with fail
         cases q
         ·go_region_held3 (fun w' => w'.cell? ⟨w.heap.size, 0, none⟩ = some (.int .i64 x0) ∧ w'.cell? ⟨w.heap.size, 1, none⟩ = some (.int .i64 y0) ∧ w'.cell? ⟨w.heap.size, 2, none⟩ = some (.int .i64 x1) ∧ w'.cell? ⟨w.heap.size, 3, none⟩ = some (.int .i64 y1) ∧ w'.cell? ⟨w.heap.size, 4, none⟩ = some (.int .i64 x2) ∧ w'.cell? ⟨w.heap.size, 5, none⟩ = some (.int .i64 y2) ∧ w'.cell? ⟨w.heap.size + 1, 0, none⟩ = some (.int .i64 x3) ∧ w'.cell? ⟨w.heap.size + 1, 1, none⟩ = some (.int .i64 y3) ∧ w'.cell? ⟨w.heap.size + 1 + 1 + 1, 0, none⟩ = some (.int .i64 X0) ∧ w'.cell? ⟨w.heap.size + 1 + 1 + 1, 1, none⟩ = some (.int .i64 Y0) ∧ w'.cell? ⟨w.heap.size + 1 + 1 + 1, 2, none⟩ = some (.int .i64 X1) ∧ w'.cell? ⟨w.heap.size + 1 + 1 + 1, 3, none⟩ = some (.int .i64 Y1) ∧ w'.cell? ⟨w.heap.size + 1 + 1 + 1, 4, none⟩ = some (.int .i64 X2) ∧ w'.cell? ⟨w.heap.size + 1 + 1 + 1, 5, none⟩ = some (.int .i64 Y2) ∧ w'.cell? ⟨w.heap.size + 1 + 1 + 1, 6, none⟩ = some (.int .i64 X3) ∧ w'.cell? ⟨w.heap.size + 1 + 1 + 1, 7, none⟩ = some (.int .i64 Y3)) (first | exact held_ S.out.drew | exact held_ S.out | fail) (first | (with_reducible go_at_call 8; with_reducible refine (tie_Conflict.calls _ X0 Y0 X1 Y1 X2 Y2 X3 Y3 _ _ Q1.out).mono ?_; rintro e v1 ⟨rfl, hb⟩; (try replace hb := undrew hb); replace S := Aside0.mk (S.out.below hb); clear hb k0 k1 k2 k3 k4 k5 k6 k7 k8 k9 k10 k11 k12 k13 k14 k15 k16 k17 k18 k19 k20 k21 k22 k23 k24 k25; obtain ⟨k0, k1, k2, k3, k4, k5, k6, k7, k8, k9, k10, k11, k12, k13, k14, k15, k16, k17, k18, k19, k20, k21, k22, k23, k24, k25⟩ := S.out.cells) | (with_reducible go_at_call 8; with_reducible refine (tie_Conflict.calls _ x0 y0 x1 y1 x2 y2 x3 y3 _ _ Q2.out).mono ?_; rintro e v1 ⟨rfl, hb⟩; (try replace hb := undrew hb); replace S := Aside0.mk (S.out.below hb); clear hb k0 k1 k2 k3 k4 k5 k6 k7 k8 k9 k10 k11 k12 k13 k14 k15 k16 k17 k18 k19 k20 k21 k22 k23 k24 k25; obtain ⟨k0, k1, k2, k3, k4, k5, k6, k7, k8, k9, k10, k11, k12, k13, k14, k15, k16, k17, k18, k19, k20, k21, k22, k23, k24, k25⟩ := S.out.cells) | (with_reducible go_at_call 10; with_reducible refine (zelligelaw08_lives.calls _ true _ LV.out).mono ?_; rintro e v1 ⟨rfl, hb⟩; (try replace hb := undrew hb); replace S := Aside0.mk (S.out.below hb); clear hb k0 k1 k2 k3 k4 k5 k6 k7 k8 k9 k10 k11 k12 k13 k14 k15 k16 k17 k18 k19 k20 k21 k22 k23 k24 k25; obtain ⟨k0, k1, k2, k3, k4, k5, k6, k7, k8, k9, k10, k11, k12, k13, k14, k15, k16, k17, k18, k19, k20, k21, k22, k23, k24, k25⟩ := S.out.cells) | fail)
          go_wp2_with (first | (with_reducible go_at_call 8; with_reducible refine (tie_Conflict.calls _ X0 Y0 X1 Y1 X2 Y2 X3 Y3 _ _ Q1.out).mono ?_; rintro e v1 ⟨rfl, hb⟩; (try replace hb := undrew hb); replace S := Aside0.mk (S.out.below hb); clear hb k0 k1 k2 k3 k4 k5 k6 k7 k8 k9 k10 k11 k12 k13 k14 k15 k16 k17 k18 k19 k20 k21 k22 k23 k24 k25; obtain ⟨k0, k1, k2, k3, k4, k5, k6, k7, k8, k9, k10, k11, k12, k13, k14, k15, k16, k17, k18, k19, k20, k21, k22, k23, k24, k25⟩ := S.out.cells) | (with_reducible go_at_call 8; with_reducible refine (tie_Conflict.calls _ x0 y0 x1 y1 x2 y2 x3 y3 _ _ Q2.out).mono ?_; rintro e v1 ⟨rfl, hb⟩; (try replace hb := undrew hb); replace S := Aside0.mk (S.out.below hb); clear hb k0 k1 k2 k3 k4 k5 k6 k7 k8 k9 k10 k11 k12 k13 k14 k15 k16 k17 k18 k19 k20 k21 k22 k23 k24 k25; obtain ⟨k0, k1, k2, k3, k4, k5, k6, k7, k8, k9, k10, k11, k12, k13, k14, k15, k16, k17, k18, k19, k20, k21, k22, k23, k24, k25⟩ := S.out.cells) | (with_reducible go_at_call 10; with_reducible refine (zelligelaw08_lives.calls _ true _ LV.out).mono ?_; rintro e v1 ⟨rfl, hb⟩; (try replace hb := undrew hb); replace S := Aside0.mk (S.out.below hb); clear hb k0 k1 k2 k3 k4 k5 k6 k7 k8 k9 k10 k11 k12 k13 k14 k15 k16 k17 k18 k19 k20 k21 k22 k23 k24 k25; obtain ⟨k0, k1, k2, k3, k4, k5, k6, k7, k8, k9, k10, k11, k12, k13, k14, k15, k16, k17, k18, k19, k20, k21, k22, k23, k24, k25⟩ := S.out.cells) | fail)
          go_ret
          exact ⟨rfl, by repeat (first | exact S.out.out.1 | apply pw_below_drewN | apply below_drew1)⟩
         ·go_region_held3 (fun w' => w'.cell? ⟨w.heap.size, 0, none⟩ = some (.int .i64 x0) ∧ w'.cell? ⟨w.heap.size, 1, none⟩ = some (.int .i64 y0) ∧ w'.cell? ⟨w.heap.size, 2, none⟩ = some (.int .i64 x1) ∧ w'.cell? ⟨w.heap.size, 3, none⟩ = some (.int .i64 y1) ∧ w'.cell? ⟨w.heap.size, 4, none⟩ = some (.int .i64 x2) ∧ w'.cell? ⟨w.heap.size, 5, none⟩ = some (.int .i64 y2) ∧ w'.cell? ⟨w.heap.size + 1, 0, none⟩ = some (.int .i64 x3) ∧ w'.cell? ⟨w.heap.size + 1, 1, none⟩ = some (.int .i64 y3) ∧ w'.cell? ⟨w.heap.size + 1 + 1 + 1, 0, none⟩ = some (.int .i64 X0) ∧ w'.cell? ⟨w.heap.size + 1 + 1 + 1, 1, none⟩ = some (.int .i64 Y0) ∧ w'.cell? ⟨w.heap.size + 1 + 1 + 1, 2, none⟩ = some (.int .i64 X1) ∧ w'.cell? ⟨w.heap.size + 1 + 1 + 1, 3, none⟩ = some (.int .i64 Y1) ∧ w'.cell? ⟨w.heap.size + 1 + 1 + 1, 4, none⟩ = some (.int .i64 X2) ∧ w'.cell? ⟨w.heap.size + 1 + 1 + 1, 5, none⟩ = some (.int .i64 Y2) ∧ w'.cell? ⟨w.heap.size + 1 + 1 + 1, 6, none⟩ = some (.int .i64 X3) ∧ w'.cell? ⟨w.heap.size + 1 + 1 + 1, 7, none⟩ = some (.int .i64 Y3)) (first | exact held_ S.out.drew | exact held_ S.out | fail) (first | (with_reducible go_at_call 8; with_reducible refine (tie_Conflict.calls _ X0 Y0 X1 Y1 X2 Y2 X3 Y3 _ _ Q1.out).mono ?_; rintro e v1 ⟨rfl, hb⟩; (try replace hb := undrew hb); replace S := Aside0.mk (S.out.below hb); clear hb k0 k1 k2 k3 k4 k5 k6 k7 k8 k9 k10 k11 k12 k13 k14 k15 k16 k17 k18 k19 k20 k21 k22 k23 k24 k25; obtain ⟨k0, k1, k2, k3, k4, k5, k6, k7, k8, k9, k10, k11, k12, k13, k14, k15, k16, k17, k18, k19, k20, k21, k22, k23, k24, k25⟩ := S.out.cells) | (with_reducible go_at_call 8; with_reducible refine (tie_Conflict.calls _ x0 y0 x1 y1 x2 y2 x3 y3 _ _ Q2.out).mono ?_; rintro e v1 ⟨rfl, hb⟩; (try replace hb := undrew hb); replace S := Aside0.mk (S.out.below hb); clear hb k0 k1 k2 k3 k4 k5 k6 k7 k8 k9 k10 k11 k12 k13 k14 k15 k16 k17 k18 k19 k20 k21 k22 k23 k24 k25; obtain ⟨k0, k1, k2, k3, k4, k5, k6, k7, k8, k9, k10, k11, k12, k13, k14, k15, k16, k17, k18, k19, k20, k21, k22, k23, k24, k25⟩ := S.out.cells) | (with_reducible go_at_call 10; with_reducible refine (zelligelaw08_lives.calls _ true _ LV.out).mono ?_; rintro e v1 ⟨rfl, hb⟩; (try replace hb := undrew hb); replace S := Aside0.mk (S.out.below hb); clear hb k0 k1 k2 k3 k4 k5 k6 k7 k8 k9 k10 k11 k12 k13 k14 k15 k16 k17 k18 k19 k20 k21 k22 k23 k24 k25; obtain ⟨k0, k1, k2, k3, k4, k5, k6, k7, k8, k9, k10, k11, k12, k13, k14, k15, k16, k17, k18, k19, k20, k21, k22, k23, k24, k25⟩ := S.out.cells) | fail)
          go_wp2_with (first | (with_reducible go_at_call 8; with_reducible refine (tie_Conflict.calls _ X0 Y0 X1 Y1 X2 Y2 X3 Y3 _ _ Q1.out).mono ?_; rintro e v1 ⟨rfl, hb⟩; (try replace hb := undrew hb); replace S := Aside0.mk (S.out.below hb); clear hb k0 k1 k2 k3 k4 k5 k6 k7 k8 k9 k10 k11 k12 k13 k14 k15 k16 k17 k18 k19 k20 k21 k22 k23 k24 k25; obtain ⟨k0, k1, k2, k3, k4, k5, k6, k7, k8, k9, k10, k11, k12, k13, k14, k15, k16, k17, k18, k19, k20, k21, k22, k23, k24, k25⟩ := S.out.cells) | (with_reducible go_at_call 8; with_reducible refine (tie_Conflict.calls _ x0 y0 x1 y1 x2 y2 x3 y3 _ _ Q2.out).mono ?_; rintro e v1 ⟨rfl, hb⟩; (try replace hb := undrew hb); replace S := Aside0.mk (S.out.below hb); clear hb k0 k1 k2 k3 k4 k5 k6 k7 k8 k9 k10 k11 k12 k13 k14 k15 k16 k17 k18 k19 k20 k21 k22 k23 k24 k25; obtain ⟨k0, k1, k2, k3, k4, k5, k6, k7, k8, k9, k10, k11, k12, k13, k14, k15, k16, k17, k18, k19, k20, k21, k22, k23, k24, k25⟩ := S.out.cells) | (with_reducible go_at_call 10; with_reducible refine (zelligelaw08_lives.calls _ true _ LV.out).mono ?_; rintro e v1 ⟨rfl, hb⟩; (try replace hb := undrew hb); replace S := Aside0.mk (S.out.below hb); clear hb k0 k1 k2 k3 k4 k5 k6 k7 k8 k9 k10 k11 k12 k13 k14 k15 k16 k17 k18 k19 k20 k21 k22 k23 k24 k25; obtain ⟨k0, k1, k2, k3, k4, k5, k6, k7, k8, k9, k10, k11, k12, k13, k14, k15, k16, k17, k18, k19, k20, k21, k22, k23, k24, k25⟩ := S.out.cells) | fail)
          go_ret
          exact ⟨rfl, by repeat (first | exact S.out.out.1 | apply pw_below_drewN | apply below_drew1)⟩
end Go.Proofs.Ytlkngfidohiepaa.Tl
end
section
namespace Go.Proofs.Ytlkngfidohiepaa.Tl
open Go RowKit YtlkngfidohiepaaW.PrintWords Ytlkngfidohiepaa.F Ytlkngfidohiepaa.Wd Ytlkngfidohiepaa.Pm Ytlkngfidohiepaa.Pd Ytlkngfidohiepaa.Tm
set_option linter.unusedVariables false
theorem co_by {a0 a1 b0 b1 c0 c1 d0 d1 u v : Int} (ha : CoP a0 a1) (hb : CoP b0 b1) (hc : CoP c0 c1) (hd : CoP d0 d1) (ha' : CoP (a0 + u) (a1 + v)) (hb' : CoP (b0 + u) (b1 + v)) (hc' : CoP (c0 + u) (c1 + v)) (hd' : CoP (d0 + u) (d1 + v)) :
  coS a0 a1 b0 b1 c0 c1 d0 d1 = coS (a0 + u) (a1 + v) (b0 + u) (b1 + v) (c0 + u) (c1 + v) (d0 + u) (d1 + v) := by
 unfold coS tieS
 rw [decide_eq_true hd, decide_eq_true hd', Bool.true_and, Bool.true_and, decide_eq_decide, ar_move, does_by]
 have s (x y p q : Int) : (x + u = y + u ∧ p + v = q + v) ↔ (x = y ∧ p = q) := by omega
 rw [s, s, s]
 exact ⟨fun h => ⟨⟨ha', hb', hc'⟩, h.2⟩, fun h => ⟨⟨ha, hb, hc⟩, h.2⟩⟩
theorem w_i (x : Int) : I64 (wrap64 x) := by unfold I64 wrap64; omega
theorem sum_p {x u y v : Int} (h : CoP x y) (h' : CoP u v) : wrap64 (x + u) = x + u ∧ wrap64 (y + v) = y + v := by
 unfold CoP Co at *
 exact ⟨p64 (by omega), p64 (by omega)⟩
theorem moves_calls (a0_0 a0_1 a0_2 a0_3 a0_4 a0_5 a1_0 a1_1 a2_0 a2_1 : Int) (w : World) (h0_0 : (Lit.int .i64 a0_0).wf = true) (h0_1 : (Lit.int .i64 a0_1).wf = true) (h0_2 : (Lit.int .i64 a0_2).wf = true) (h0_3 : (Lit.int .i64 a0_3).wf = true) (h0_4 : (Lit.int .i64 a0_4).wf = true) (h0_5 : (Lit.int .i64 a0_5).wf = true) (h1_0 : (Lit.int .i64 a1_0).wf = true) (h1_1 : (Lit.int .i64 a1_1).wf = true) (h2_0 : (Lit.int .i64 a2_0).wf = true) (h2_1 : (Lit.int .i64 a2_1).wf = true) :
  Calls Try.prog 6 #[.agg #[.int .i64 a0_0, .int .i64 a0_1, .int .i64 a0_2, .int .i64 a0_3, .int .i64 a0_4, .int .i64 a0_5], .agg #[.int .i64 a1_0, .int .i64 a1_1], .agg #[.int .i64 a2_0, .int .i64 a2_1]] w fun e w' => e = .returned (.bool true) ∧ Below w.heap.size w w' := by
 refine mv_walk _ _ ⟨rc_f ⟨i64_of h0_0, i64_of h0_1⟩⟩ ⟨rc_f ⟨w_i _, w_i _⟩⟩ ⟨rfl, rfl⟩ _ _ ⟨rc_f ⟨i64_of h0_2, i64_of h0_3⟩⟩ ⟨rc_f ⟨w_i _, w_i _⟩⟩ ⟨rfl, rfl⟩ _ _ ⟨rc_f ⟨i64_of h0_4, i64_of h0_5⟩⟩ ⟨rc_f ⟨w_i _, w_i _⟩⟩ ⟨rfl, rfl⟩ _ _ ⟨rc_f ⟨i64_of h1_0, i64_of h1_1⟩⟩ ⟨rc_f ⟨w_i _, w_i _⟩⟩ ⟨rfl, rfl⟩
  _ ⟨rc_f ⟨i64_of h2_0, i64_of h2_1⟩⟩ 3000 3000 ⟨lives_true (by omega)⟩ _ ⟨Conflict_f _ _ _ _ _ _ _ _ (by omega)⟩ ⟨fun m0 m1 m2 m3 b n0 n1 n2 n3 => ?_⟩ w
 rw [decide_eq_true_eq] at m0 m1 m2 m3 b n0 n1 n2 n3
 have e0 := sum_p m0 b; have e1 := sum_p m1 b; have e2 := sum_p m2 b; have e3 := sum_p m3 b
 rw [e0.1, e0.2] at n0 ⊢; rw [e1.1, e1.2] at n1 ⊢; rw [e2.1, e2.2] at n2 ⊢; rw [e3.1, e3.2] at n3 ⊢
 rw [Conflict_f _ _ _ _ _ _ _ _ (by omega), co_by m0 m1 m2 m3 n0 n1 n2 n3]
end Go.Proofs.Ytlkngfidohiepaa.Tl
end
section
namespace Go.Proofs.Ytlkngfidohiepaa.RK
open Go Go.ChangeShapes Go.WideShapes Go.ChangeAt RowKit Go.WideElems Go.Maps Go.Deep
variable {H : Type} {enc : TypeId × Value → H} {P : Program}
theorem okWide_array {k e : TypeId} {n : Nat} (hu : P.underlying k = some (.array n e)) {W : World} {r : Reach} {b0 : Nat} {v : Value} (h : Value.okWide P W r b0 k v) : ∃ cs : Array Value, v = .agg cs ∧ cs.size = P.cellsOf k := by
 simp only [Value.okWide, hu] at h
 obtain ⟨cs, h1, h2, _⟩ := h
 exact ⟨cs, h1, h2⟩
theorem list6 {α : Type} {l : List α} (h : l.length = 6) : ∃ a b c d e f, l = [a, b, c, d, e, f] := by
 match l, h with
 | [a, b, c, d, e, f], _ => exact ⟨a, b, c, d, e, f, rfl⟩
theorem cells_two {w : World} {sp : Nat → Bool} {held : Bool} {base fuel : Nat} {e : TypeId} {f0 f1 : Field} {k0 k1 : IntKind} {v0 v1 : Value} {x : DataW H × List MemPlace} (hs : P.underlying e = some (.struct #[f0, f1]))
  (o0 : f0.offset = 0) (o1 : f1.offset = 1) (s0 : P.cellsOf f0.type = 1) (s1 : P.cellsOf f1.type = 1) (h0 : P.underlying f0.type = some (.int k0)) (h1 : P.underlying f1.type = some (.int k1)) (h : DataW.trod enc P w base sp held fuel e [v0, v1] = some x) :
  ∃ a b : Int, v0 = .int k0 a ∧ v1 = .int k1 b ∧ (Lit.int k0 a).wf = true ∧ (Lit.int k1 b).wf = true := by
 obtain ⟨y0, y1, n, _, _, g0, g1⟩ := trod_struct2 hs h
 rw [o0, s0] at g0
 rw [o1, s1] at g1
 obtain ⟨a, ea, _, wa⟩ := DataW.trod_int h0 g0
 obtain ⟨b, eb, _, wb⟩ := DataW.trod_int h1 g1
 simp at ea eb
 exact ⟨a, b, ea, eb, wa, wb⟩
theorem open_pairs3 {w : World} {sp : Nat → Bool} {held : Bool} {r : Reach} {b0 base : Nat} {t e : TypeId} {f0 f1 : Field} {k0 k1 : IntKind} {v : Value} {d : DataW H} {p : List MemPlace} (hu : P.underlying t = some (.array 3 e)) (hs : P.underlying e = some (.struct #[f0, f1]))
  (o0 : f0.offset = 0) (o1 : f1.offset = 1) (s0 : P.cellsOf f0.type = 1) (s1 : P.cellsOf f1.type = 1) (h0 : P.underlying f0.type = some (.int k0)) (h1 : P.underlying f1.type = some (.int k1)) (two : P.cellsOf e = 2) (size : P.cellsOf t = 6)
  (hv : Value.okWide P w r b0 t v) (h : DataW.Trod enc P w base sp held t v d p) :
  ∃ a b a' b' a'' b'' : Int, v = .agg #[.int k0 a, .int k1 b, .int k0 a', .int k1 b', .int k0 a'', .int k1 b''] ∧ (Lit.int k0 a).wf = true ∧ (Lit.int k1 b).wf = true ∧ (Lit.int k0 a').wf = true ∧ (Lit.int k1 b').wf = true ∧ (Lit.int k0 a'').wf = true ∧ (Lit.int k1 b'').wf = true := by
 obtain ⟨cs, rfl, hsz⟩ := okWide_array hu hv
 obtain ⟨l⟩ := cs
 obtain ⟨c0, c1, c2, c3, c4, c5, rfl⟩ := list6 (hsz.trans size)
 obtain ⟨fuel, hf⟩ := h
 cases fuel with
 | zero => simp [DataW.trod] at hf
 | succ n =>
  rw [DataW.trod_step] at hf
  unfold DataW.trodStep at hf
  simp only [hu, Value.cells] at hf
  rw [if_pos (by rw [size]; rfl)] at hf
  simp only [Option.map_eq_some_iff] at hf
  obtain ⟨xs, hx, e1⟩ := hf
  rw [show List.range 3 = [0, 1, 2] from rfl, List.mapM_cons, List.mapM_cons, List.mapM_cons, List.mapM_nil] at hx
  simp only [bind, Option.bind_eq_some_iff, pure, Option.some.injEq, two] at hx
  obtain ⟨y0, g0, _, ⟨y1, g1, _, ⟨y2, g2, _, rfl, rfl⟩, rfl⟩, rfl⟩ := hx
  obtain ⟨a, b, rfl, rfl, wa, wb⟩ := cells_two hs o0 o1 s0 s1 h0 h1 g0
  obtain ⟨a', b', rfl, rfl, wa', wb'⟩ := cells_two hs o0 o1 s0 s1 h0 h1 g1
  obtain ⟨a'', b'', rfl, rfl, wa'', wb''⟩ := cells_two hs o0 o1 s0 s1 h0 h1 g2
  exact ⟨a, b, a', b', a'', b'', rfl, wa, wb, wa', wb', wa'', wb''⟩
end Go.Proofs.Ytlkngfidohiepaa.RK
end
