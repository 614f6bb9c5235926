/- TieMoves: own texts in one (part 2 of 4): contracts of the functions that the law reaches. -/
import Derived.Test.YtlkngfidohiepaaBTieMovesa

section
namespace Go.Proofs.Ytlkngfidohiepaa.Pd
open Go RowKit YtlkngfidohiepaaW.PrintWords Ytlkngfidohiepaa.F Ytlkngfidohiepaa.Wd Ytlkngfidohiepaa.Pm
set_option linter.unusedVariables false
theorem p64 {x : Int} (h : -9223372036854775808 ≤ x ∧ x ≤ 9223372036854775807) : wrap64 x = x := by unfold wrap64; omega
abbrev CoP (a b : Int) : Prop := Co a ∧ Co b
theorem can_f (a b : Int) : lift_Can.f a b = some (decide (CoP a b)) := by
 unfold lift_Can.f lift_can.f lift_within.f CoP Co
 by_cases h1 : a ≥ -1099511627776
 ·rw [if_pos h1, Option.bind_some]
  by_cases h2 : a ≤ 1099511627776
  ·rw [if_pos (decide_eq_true h2)]
   by_cases h3 : b ≥ -1099511627776
   ·rw [if_pos h3, Option.bind_some, Option.bind_some]
    congr 1
    rw [decide_eq_decide]
    omega
   ·rw [if_neg h3, Option.bind_some, Option.bind_some, decide_eq_false (by omega)]
  ·rw [if_neg (by rw [decide_eq_true_eq]; exact h2), Option.bind_some, decide_eq_false (by omega)]
 ·rw [if_neg h1, Option.bind_some, if_neg (by decide), Option.bind_some, decide_eq_false (by omega)]
theorem pcan_l0 (l : List S23) (hl : l.length ≤ 1000) : ∀ (d k i : Nat), l.length - i = d → i ≤ l.length → d < k → pred_can.l0 k l (l.length : Int) (i : Int) = some (decide (∀ p ∈ l.drop i, CoP p.f0 p.f1)) := by
 intro d
 induction d with
 | zero =>
  intro k i h1 h2 h3
  obtain ⟨k, rfl⟩ : ∃ m, k = m + 1 := ⟨k - 1, by omega⟩
  rw [pred_can.l0, if_neg (by omega), List.drop_of_length_le (by omega)]
  simp
 | succ d ih =>
  intro k i h1 h2 h3
  obtain ⟨k, rfl⟩ : ∃ m, k = m + 1 := ⟨k - 1, by omega⟩
  have hi : i < l.length := by omega
  have e1 := Aside0.mk (show wrap64 ((i : Int) + 1) = ((i + 1 : Nat) : Int) by rw [p64 (by omega)]; omega)
  have e2 : l.drop i = l[i] :: l.drop (i + 1) := List.drop_eq_getElem_cons hi
  have e3 : rd_T23 l (i : Int) = l[i] := by unfold rd_T23; simp [List.getD_eq_getElem?_getD, hi]
  rw [pred_can.l0, if_pos (by omega), if_pos (by omega), if_pos (by omega), e3, can_f, Option.bind_some, e1.out, ih k (i + 1) (by omega) (by omega) (by omega), e2]
  by_cases h : CoP l[i].f0 l[i].f1
  ·rw [if_pos (decide_eq_true h)]
   congr 1
   rw [decide_eq_decide]
   simp only [List.mem_cons, forall_eq_or_imp]
   exact ⟨fun q => ⟨h, q⟩, fun q => q.2⟩
  ·rw [if_neg (by rw [decide_eq_true_eq]; exact h)]
   congr 1
   exact (decide_eq_false (fun q => h (q _ (List.mem_cons_self)))).symm
theorem pcan_f (l : List S23) (hl : l.length ≤ 1000) {k : Nat} (hk : 2000 ≤ k) : pred_can.f k l = some (decide (∀ p ∈ l, CoP p.f0 p.f1)) := by
 unfold pred_can.f
 have := pcan_l0 l hl l.length k 0 rfl (Nat.zero_le _) (by omega)
 rw [List.drop_zero] at this
 exact this
theorem can3 (a0 a1 b0 b1 c0 c1 : Int) {k : Nat} (hk : 2000 ≤ k) : pred_can.f k [(⟨a0, a1⟩ : S23), (⟨b0, b1⟩ : S23), (⟨c0, c1⟩ : S23)] = some (decide (CoP a0 a1 ∧ CoP b0 b1 ∧ CoP c0 c1)) := by
 rw [pcan_f _ (by simp) hk]; simp
theorem can4 (a0 a1 b0 b1 c0 c1 d0 d1 : Int) {k : Nat} (hk : 2000 ≤ k) : pred_can.f k [(⟨a0, a1⟩ : S23), (⟨b0, b1⟩ : S23), (⟨c0, c1⟩ : S23), (⟨d0, d1⟩ : S23)] = some (decide (CoP a0 a1 ∧ CoP b0 b1 ∧ CoP c0 c1 ∧ CoP d0 d1)) := by
 rw [pcan_f _ (by simp) hk]; simp
theorem way_f {a0 a1 b0 b1 : Int} (ha : CoP a0 a1) (hb : CoP b0 b1) : pred_way.f a0 a1 b0 b1 = some (b0 - a0, b1 - a1) := by
 unfold CoP Co at *
 unfold pred_way.f
 rw [p64 (by omega), p64 (by omega)]
theorem am_w {n : Int} {B : Nat} (h : Am n B) (hB : B ≤ 170141183460469231731687303715884105727) : wv (whi n) (wlo n) = n := wv_small (by have := h.le; omega)
theorem across_f {x0 x1 y0 y1 : Int} (h0 : Am x0 2199023255552) (h1 : Am x1 2199023255552) (h2 : Am y0 2199023255552) (h3 : Am y1 2199023255552) : pred_across.f x0 x1 y0 y1 = some (whi (x0 * y1 - x1 * y0), wlo (x0 * y1 - x1 * y0)) := by
 have m0 := h0.le; have m1 := h1.le; have m2 := h2.le; have m3 := h3.le
 unfold pred_across.f
 rw [wmul_f (by omega) (by omega), Option.bind_some, wmul_f (by omega) (by omega), Option.bind_some, wsub_f (wok_of _) (wok_of _), Option.bind_some, am_w (Am.mul h0 h3) (by omega), am_w (Am.mul h1 h2) (by omega)]
theorem square_f {x0 x1 : Int} (h0 : Am x0 2199023255552) (h1 : Am x1 2199023255552) : pred_square.f x0 x1 = some (whi (x0 * x0 + x1 * x1), wlo (x0 * x0 + x1 * x1)) := by
 have m0 := h0.le; have m1 := h1.le
 unfold pred_square.f
 rw [wmul_f (by omega) (by omega), Option.bind_some, wmul_f (by omega) (by omega), Option.bind_some, wadd_f (wok_of _) (wok_of _), Option.bind_some, am_w (Am.mul h0 h0) (by omega), am_w (Am.mul h1 h1) (by omega)]
theorem orient_f {a0 a1 b0 b1 c0 c1 : Int} (ha : CoP a0 a1) (hb : CoP b0 b1) (hc : CoP c0 c1) : pred_orient.f a0 a1 b0 b1 c0 c1 = some (ar a0 a1 b0 b1 c0 c1).sign := by
 unfold pred_orient.f
 rw [way_f ha hb, Option.bind_some, way_f ha hc, Option.bind_some, across_f (hb.1.way ha.1) (hb.2.way ha.2) (hc.1.way ha.1) (hc.2.way ha.2), Option.bind_some, sign_f (wok_of _), Option.bind_some, am_w (cross_am (hb.1.way ha.1) (hb.2.way ha.2) (hc.1.way ha.1) (hc.2.way ha.2)) (by omega)]
 rfl
def orS (a0 a1 b0 b1 c0 c1 : Int) : Int := if CoP a0 a1 ∧ CoP b0 b1 ∧ CoP c0 c1 then (ar a0 a1 b0 b1 c0 c1).sign else 0
theorem Orient_f (a0 a1 b0 b1 c0 c1 : Int) {k : Nat} (hk : 2000 ≤ k) : pred_Orient.f k a0 a1 b0 b1 c0 c1 = some (orS a0 a1 b0 b1 c0 c1) := by
 unfold pred_Orient.f orS
 rw [can3 _ _ _ _ _ _ hk, Option.bind_some]
 by_cases h : CoP a0 a1 ∧ CoP b0 b1 ∧ CoP c0 c1
 ·rw [if_pos (decide_eq_true h), orient_f h.1 h.2.1 h.2.2, if_pos h]; rfl
 ·rw [if_neg (by rw [decide_eq_true_eq]; exact h), if_neg h]
theorem sign_pos (n : Int) : n.sign = 1 ↔ 0 < n := Int.sign_eq_one_iff_pos
theorem sign_cases (n : Int) : (n < 0 ∧ n.sign = -1) ∨ (n = 0 ∧ n.sign = 0) ∨ (0 < n ∧ n.sign = 1) := by
 rcases Int.lt_trichotomy n 0 with h | h | h
 ·exact .inl ⟨h, Int.sign_eq_neg_one_of_neg h⟩
 ·subst h; exact .inr (.inl ⟨rfl, rfl⟩)
 ·exact .inr (.inr ⟨h, Int.sign_eq_one_of_pos h⟩)
end Go.Proofs.Ytlkngfidohiepaa.Pd
end
section
namespace Go.Proofs.Ytlkngfidohiepaa.F
open Go RowKit YtlkngfidohiepaaW.PrintWords YtlkngfidohiepaaW.PrintLast YtlkngfidohiepaaW.PrintMore
set_option linter.unusedVariables false
theorem some4 {n r1 r2 r3 r4 : Int} (h : some (qq4 n) = some (r1, r2, r3, r4)) : r1 = q0 n ∧ r2 = q1 n ∧ r3 = q2 n ∧ r4 = q3 n := by
 injection h with h
 unfold qq4 at h
 injection h with h1 h
 injection h with h2 h
 injection h with h3 h4
 exact ⟨h1.symm, h2.symm, h3.symm, h4.symm⟩
def quad_Add.f (a0_0 a0_1 a0_2 a0_3 a1_0 a1_1 a1_2 a1_3 : Int) : Option (Int × Int × Int × Int) := if QOk a0_0 a0_1 a0_2 a0_3 ∧ QOk a1_0 a1_1 a1_2 a1_3 then some (qq4 (qv a0_0 a0_1 a0_2 a0_3 + qv a1_0 a1_1 a1_2 a1_3)) else none
theorem two_all (w : World) (o0 o1 : Obj) : Below w.heap.size w ((w.alloc o0).alloc o1) := ((Below.refl _ _).alloc (Nat.le_refl _) _).alloc (by simp) _
theorem two_new (w : World) (o0 o1 : Obj) : ((w.alloc o0).alloc o1).heap[w.heap.size + 1]? = some o1 := by have := blk_new (w.alloc o0) o1; simpa using this
theorem three_new (w : World) (o0 o1 o2 : Obj) : (((w.alloc o0).alloc o1).alloc o2).heap[w.heap.size + 1 + 1]? = some o2 := by have := blk_new ((w.alloc o0).alloc o1) o2; simpa using this
theorem three_all (w : World) (o0 o1 o2 : Obj) : Below w.heap.size w (((w.alloc o0).alloc o1).alloc o2) := (two_all w o0 o1).alloc (by simp; omega) _
structure Four (w1 : World) (g : Nat) (t : TypeId) (v0 v1 v2 v3 : Value) : Prop where
 blk : w1.heap[g]? = some (.cells #[v0, v1, v2, v3] t (0, 0))
theorem Four.cells {w1 : World} {g : Nat} {t : TypeId} {v0 v1 v2 v3 : Value} (h : Four w1 g t v0 v1 v2 v3) : (w1.cell? ⟨g, 0, none⟩ = some v0 ∧ w1.cell? ⟨g, 1, none⟩ = some v1 ∧ w1.cell? ⟨g, 2, none⟩ = some v2 ∧ w1.cell? ⟨g, 3, none⟩ = some v3) ∧
  (w1.frozen? ⟨g, 0, none⟩ = false ∧ w1.frozen? ⟨g, 1, none⟩ = false ∧ w1.frozen? ⟨g, 2, none⟩ = false ∧ w1.frozen? ⟨g, 3, none⟩ = false) :=
 ⟨⟨blk_cell h.blk 0, blk_cell h.blk 1, blk_cell h.blk 2, blk_cell h.blk 3⟩, ⟨blk_frozen h.blk 0, blk_frozen h.blk 1, blk_frozen h.blk 2, blk_frozen h.blk 3⟩⟩
theorem Four.put {w1 : World} {g : Nat} {t : TypeId} {v0 v1 v2 v3 : Value} (h : Four w1 g t v0 v1 v2 v3) (u0 u1 u2 u3 : Value) : ((((w1.setCell ⟨g, 0, none⟩ u0).setCell ⟨g, 1, none⟩ u1).setCell ⟨g, 2, none⟩ u2).setCell ⟨g, 3, none⟩ u3).heap[g]? = some (.cells #[u0, u1, u2, u3] t (0, 0)) :=
 blk_put (blk_put (blk_put (blk_put h.blk 0 u0 rfl) 1 u1 rfl) 2 u2 rfl) 3 u3 rfl
theorem put_below {w w1 : World} {g : Nat} (hb : Below w.heap.size w w1) (hg : w.heap.size ≤ g) (u0 u1 u2 u3 : Value) : Below w.heap.size w ((((w1.setCell ⟨g, 0, none⟩ u0).setCell ⟨g, 1, none⟩ u1).setCell ⟨g, 2, none⟩ u2).setCell ⟨g, 3, none⟩ u3) :=
 below_set (below_set (below_set (below_set hb hg) hg) hg) hg
theorem results_c1 {P : Program} {fn : Func} {p : Tmp} {ty : TypeId} (h : fn.results = #[.cell p ty]) (tmps : Array Value) (w : World) (g : Nat) (t : TypeId) (cs : Array Value) (fr : Nat × Nat) (d : TypeDesc)
  (hp : tmps.getD p undef = .pointer (some ⟨g, 0, none⟩)) (hg : w.heap[g]? = some (.cells cs t fr))
  (hu : P.underlying ty = some d) (hd : (match d with | .struct _ | .array _ _ => true | _ => false) = true) (hi : (P.info? ty).map (·.size) = some cs.size) :
  (results fn tmps).run P w = .ok (.agg cs) w := by
 have hp' : tmps[p]?.getD undef = .pointer (some ⟨g, 0, none⟩) := by simpa using hp
 simp [results, h, hp', asAddr, run_loadVar_row w g t ty cs fr d hg hu hd hi]
theorem quad_Add.calls (a0_0 a0_1 a0_2 a0_3 a1_0 a1_1 a1_2 a1_3 r1 r2 r3 r4 : Int) (w : World) (h : quad_Add.f a0_0 a0_1 a0_2 a0_3 a1_0 a1_1 a1_2 a1_3 = some (r1, r2, r3, r4)) :
  Calls Try.prog 46 #[.agg #[.int .u64 a0_0, .int .u64 a0_1, .int .u64 a0_2, .int .u64 a0_3], .agg #[.int .u64 a1_0, .int .u64 a1_1, .int .u64 a1_2, .int .u64 a1_3]] w fun e w' => e = .returned (.agg #[.int .u64 r1, .int .u64 r2, .int .u64 r3, .int .u64 r4]) ∧ Below w.heap.size w w' := by
 unfold quad_Add.f at h
 by_cases hb : QOk a0_0 a0_1 a0_2 a0_3 ∧ QOk a1_0 a1_1 a1_2 a1_3
 ·rw [if_pos hb] at h
  obtain ⟨rfl, rfl, rfl, rfl⟩ := some4 h
  have C := Aside0.mk (q_add_c hb.1 hb.2)
  clear h hb
  go_enter Try.func46, Try.ntmps46
  go_wp2_with (go_at_call 64; refine (C.out _).mono ?_; rintro e w1 ⟨rfl, hb⟩; have F := Aside0.mk (Four.mk (blk_below (three_new w _ _ _) hb)); have HB := Aside0.mk ((three_all w _ _ _).trans (hb.mono (by simp; omega))); clear hb; obtain ⟨⟨z0, z1, z2, z3⟩, f0, f1, f2, f3⟩ := F.out.cells)
  refine bodyPost_ret (results_c1 rfl _ _ (w.heap.size + 1 + 1) 62 _ (0, 0) _ rfl (F.out.put _ _ _ _) Try.underlying62 rfl (by kernel_rfl)) rfl ?_
  exact ⟨rfl, put_below HB.out (by omega) _ _ _ _⟩
 ·rw [if_neg hb] at h
  cases h
theorem zero_q : QOk 0 0 0 0 := ⟨⟨by omega, by omega⟩, ⟨by omega, by omega⟩, ⟨by omega, by omega⟩, ⟨by omega, by omega⟩⟩
theorem q_neg_c {a b c d : Int} (h : QOk a b c d) (w : World) : Calls Try.prog 60 #[q4 0 0 0 0, q4 a b c d] w fun e w' =>
  e = .returned (q4 (q0 (-qv a b c d)) (q1 (-qv a b c d)) (q2 (-qv a b c d)) (q3 (-qv a b c d))) ∧ Below w.heap.size w w' := by
 have := q_sub_c zero_q h w
 rw [show qv 0 0 0 0 - qv a b c d = -qv a b c d by rw [show qv 0 0 0 0 = 0 from rfl]; omega] at this
 exact this
end Go.Proofs.Ytlkngfidohiepaa.F
end
section
namespace Go.Proofs.Ytlkngfidohiepaa.F
open Go RowKit YtlkngfidohiepaaW.PrintWords YtlkngfidohiepaaW.PrintLast YtlkngfidohiepaaW.PrintMore
set_option linter.unusedVariables false
theorem items_cons {P : Program} {d : Nat} {e : TypeId} {n : Nat} {xs ys : Array Value} {j : Nat} {is : List Nat} {w : World} {a b : Value} {r s : Bool} (ha : (part e xs (j * n)).run P w = .ok a w) (hb : (part e ys (j * n)).run P w = .ok b w) (he : (Op.equalIn d e a b).run P w = .ok r w)
  (hr : (Op.eqItems d e n xs ys is).run P w = .ok s w) : (Op.eqItems d e n xs ys (j :: is)).run P w = .ok (r && s) w := by
 simp only [Op.eqItems, Sem.run_bind, ha, hb, he, Result.andThen_ok]
 cases r
 ·simp
 ·simpa using hr
theorem items_nil {P : Program} {d : Nat} {e : TypeId} {n : Nat} {xs ys : Array Value} {w : World} : (Op.eqItems d e n xs ys []).run P w = .ok true w := by simp [Op.eqItems]
theorem info22 : ∃ i, Try.prog.info? 52 = some i := by
 rw [← Option.isSome_iff_exists]
 kernel_rfl
theorem quad_eq (d : Nat) (w : World) (x0 y0 : Int) (x1 y1 : Int) (x2 y2 : Int) (x3 y3 : Int) :
  (Op.equalIn (d + 2) 62 (.agg #[.int .u64 x0, .int .u64 x1, .int .u64 x2, .int .u64 x3]) (.agg #[.int .u64 y0, .int .u64 y1, .int .u64 y2, .int .u64 y3])).run Try.prog w = .ok (x0 == y0 && (x1 == y1 && (x2 == y2 && (x3 == y3)))) w := by
 obtain ⟨i, hi⟩ := info22
 have hc : Try.prog.cellsOf 52 = 1 := by kernel_rfl
 rw [run_equalIn_array w (d + 1) _ _ Try.underlying62 hi, hc]
 rw [show (x0 == y0 && (x1 == y1 && (x2 == y2 && (x3 == y3)))) = (x0 == y0 && (x1 == y1 && (x2 == y2 && (x3 == y3 && true)))) by rw [Bool.and_true]]
 refine items_cons (is := [1, 2, 3]) (by go_simp; rfl) (by go_simp; rfl) (by go_simp) ?_
 refine items_cons (is := [2, 3]) (by go_simp; rfl) (by go_simp; rfl) (by go_simp) ?_
 refine items_cons (is := [3]) (by go_simp; rfl) (by go_simp; rfl) (by go_simp) ?_
 exact items_cons (is := []) (by go_simp; rfl) (by go_simp; rfl) (by go_simp) items_nil
end Go.Proofs.Ytlkngfidohiepaa.F
end
section
namespace Go.Proofs.Ytlkngfidohiepaa.F
open Go RowKit YtlkngfidohiepaaW.PrintWords YtlkngfidohiepaaW.PrintLast YtlkngfidohiepaaW.PrintMore
set_option linter.unusedVariables false
def quad_Sign.f (a0_0 a0_1 a0_2 a0_3 : Int) : Option Int := if QOk a0_0 a0_1 a0_2 a0_3 then some (if 9223372036854775808 ≤ a0_3 then -1 else if a0_0 = 0 ∧ a0_1 = 0 ∧ a0_2 = 0 ∧ a0_3 = 0 then 0 else 1) else none
theorem q_below_c {a b c d : Int} (h : UOk d) (w : World) : Calls Try.prog 65 #[q4 a b c d] w fun e w' => e = .returned (.bool (decide (9223372036854775808 ≤ d))) ∧ Below w.heap.size w w' := by
 have e : (shr .u64 d 63 == 1) = decide (9223372036854775808 ≤ d) := by
  have : shr .u64 d 63 = d / 9223372036854775808 := rfl
  rw [this, Bool.eq_iff_iff, beq_iff_eq, decide_eq_true_iff]
  omega
 rw [← e]
 exact q_below a b c d w
theorem one_all (w : World) (o : Obj) : Below w.heap.size w (w.alloc o) := (Below.refl _ _).alloc (Nat.le_refl _) _
attribute [local go_sem high] quad_eq in
theorem q_sign_w (a b c d r : Int) (n z : Bool) (C : Aside0 (∀ w : World, Calls Try.prog 65 #[q4 a b c d] w fun e w' => e = .returned (.bool n) ∧ Below w.heap.size w w')) (hz : (a == 0 && (b == 0 && (c == 0 && d == 0))) = z)
  (hr : Aside0 (r = if n = true then -1 else if z = true then 0 else 1)) (w : World) : Calls Try.prog 47 #[q4 a b c d] w fun e w' => e = .returned (.int .i64 r) ∧ Below w.heap.size w w' := by
 have big : ∀ w : World, (Op.equalIn 10000 62 (.agg #[.int .u64 a, .int .u64 b, .int .u64 c, .int .u64 d]) (.agg #[.int .u64 0, .int .u64 0, .int .u64 0, .int .u64 0])).run Try.prog w = .ok z w := fun w => by rw [← hz]; exact quad_eq 9998 w a 0 b 0 c 0 d 0
 have BIG := Aside0.mk big
 clear big hz
 cases n
 ·cases z
  ·obtain rfl := hr.out
   have hq := BIG.out
   go_enter Try.func47, Try.ntmps47
   go_wp2_with (go_at_call 65; refine (C.out _).mono ?_; rintro e w1 ⟨rfl, hb⟩; have F := Aside0.mk (Four.mk (blk_below (blk_new w _) hb)); have HB := Aside0.mk ((one_all w _).trans (hb.mono (by simp))); clear hb; obtain ⟨⟨z0, z1, z2, z3⟩, f0, f1, f2, f3⟩ := F.out.cells)
   go_ret
   exact ⟨rfl, HB.out⟩
  ·obtain rfl := hr.out
   have hq := BIG.out
   go_enter Try.func47, Try.ntmps47
   go_wp2_with (go_at_call 65; refine (C.out _).mono ?_; rintro e w1 ⟨rfl, hb⟩; have F := Aside0.mk (Four.mk (blk_below (blk_new w _) hb)); have HB := Aside0.mk ((one_all w _).trans (hb.mono (by simp))); clear hb; obtain ⟨⟨z0, z1, z2, z3⟩, f0, f1, f2, f3⟩ := F.out.cells)
   go_ret
   exact ⟨rfl, HB.out⟩
 ·obtain rfl := hr.out
  go_enter Try.func47, Try.ntmps47
  go_wp2_with (go_at_call 65; refine (C.out _).mono ?_; rintro e w1 ⟨rfl, hb⟩; have F := Aside0.mk (Four.mk (blk_below (blk_new w _) hb)); have HB := Aside0.mk ((one_all w _).trans (hb.mono (by simp))); clear hb; obtain ⟨⟨z0, z1, z2, z3⟩, f0, f1, f2, f3⟩ := F.out.cells)
  go_ret
  exact ⟨rfl, HB.out⟩
theorem quad_Sign.calls (a0_0 a0_1 a0_2 a0_3 r : Int) (w : World) (h : quad_Sign.f a0_0 a0_1 a0_2 a0_3 = some r) :
  Calls Try.prog 47 #[.agg #[.int .u64 a0_0, .int .u64 a0_1, .int .u64 a0_2, .int .u64 a0_3]] w fun e w' => e = .returned (.int .i64 r) ∧ Below w.heap.size w w' := by
 unfold quad_Sign.f at h
 by_cases hb : QOk a0_0 a0_1 a0_2 a0_3
 ·rw [if_pos hb] at h
  refine q_sign_w a0_0 a0_1 a0_2 a0_3 r _ _ ⟨q_below_c hb.2.2.2⟩ rfl ⟨?_⟩ w
  rw [← Option.some.inj h]
  simp only [decide_eq_true_eq, Bool.and_eq_true, beq_iff_eq]
 ·rw [if_neg hb] at h
  cases h
end Go.Proofs.Ytlkngfidohiepaa.F
end
section
namespace Go.Proofs.Ytlkngfidohiepaa.F
open Go RowKit YtlkngfidohiepaaW.PrintWords YtlkngfidohiepaaW.PrintLast YtlkngfidohiepaaW.PrintMore
set_option linter.unusedVariables false
theorem four_all (w : World) (o0 o1 o2 : Obj) : Below w.heap.size w (((w.alloc o0).alloc o1).alloc o2) := (((Below.refl _ _).alloc (Nat.le_refl _) _).alloc (by simp) _).alloc (by simp; omega) _
set_option maxHeartbeats 1000000 in
theorem w_sub_walk (a0 a1 b0 b1 lo c hi d : Int) (k1 : ∀ w, (callFunc 70 #[.int .u64 a1, .int .u64 b1, .int .u64 0]).run Try.prog w = .ok (.value (.tuple #[.int .u64 lo, .int .u64 c])) w)
  (k2 : ∀ w, (callFunc 70 #[.int .u64 (IntKind.u64.wrap a0), .int .u64 (IntKind.u64.wrap b0), .int .u64 c]).run Try.prog w = .ok (.value (.tuple #[.int .u64 hi, .int .u64 d])) w) (w : World) :
  Calls Try.prog 72 #[.agg #[.int .i64 a0, .int .u64 a1], .agg #[.int .i64 b0, .int .u64 b1]] w fun e w' => e = .returned (.agg #[.int .i64 (wrap64 hi), .int .u64 lo]) ∧ Below w.heap.size w w' := by
 go_enter Try.func72, Try.ntmps72
 go_wp2
 exact bodyPost_ret (v := .agg #[.int .i64 (wrap64 hi), .int .u64 lo]) (by simp [results, Try.results72, go_sem]) rfl ⟨rfl, four_all _ _ _ _⟩
theorem w_neg_c {h l : Int} (ok : WOk h l) (w : World) : Calls Try.prog 72 #[.agg #[.int .i64 0, .int .u64 0], .agg #[.int .i64 h, .int .u64 l]] w fun e w' => e = .returned (.agg #[.int .i64 (whi (-wv h l)), .int .u64 (wlo (-wv h l))]) ∧ Below w.heap.size w w' := by
 obtain ⟨⟨b1, b2⟩, b3, b4⟩ := ok
 have w1 := IntKind.wrap_u64 0
 have w2 := IntKind.wrap_u64 h
 have e1 : wlo (-wv h l) = (0 - l - 0) % 18446744073709551616 := by unfold wlo wv; omega
 have e2 : whi (-wv h l) = wrap64 ((IntKind.u64.wrap 0 - IntKind.u64.wrap h - -((0 - l - 0) / 18446744073709551616)) % 18446744073709551616) := by unfold whi wv wrap64; omega
 rw [e1, e2]
 exact w_sub_walk 0 0 h l _ _ _ _ (fun w => sub64_go 0 l 0 (by omega) (by omega) (by omega) (by omega) w) (fun w => sub64_go _ _ _ (by omega) (by omega) (by omega) (by omega) w) w
structure Two (w1 : World) (g : Nat) (t : TypeId) (v0 v1 : Value) : Prop where
 blk : w1.heap[g]? = some (.cells #[v0, v1] t (0, 0))
theorem Two.cells {w1 : World} {g : Nat} {t : TypeId} {v0 v1 : Value} (h : Two w1 g t v0 v1) : (w1.cell? ⟨g, 0, none⟩ = some v0 ∧ w1.cell? ⟨g, 1, none⟩ = some v1) ∧ (w1.frozen? ⟨g, 0, none⟩ = false ∧ w1.frozen? ⟨g, 1, none⟩ = false) :=
 ⟨⟨blk_cell h.blk 0, blk_cell h.blk 1⟩, ⟨blk_frozen h.blk 0, blk_frozen h.blk 1⟩⟩
theorem blk_set_ne {w : World} {g g' : Nat} {o : Obj} (h : w.heap[g]? = some o) (hne : g' ≠ g) (i : Nat) (u : Value) : (w.setCell ⟨g', i, none⟩ u).heap[g]? = some o := (Below.heap_setCell w ⟨g', i, none⟩ u g (fun e => hne e.symm)).trans h
theorem Two.put {w1 : World} {g : Nat} {t : TypeId} {v0 v1 : Value} (h : Two w1 g t v0 v1) (u0 u1 : Value) : ((w1.setCell ⟨g, 0, none⟩ u0).setCell ⟨g, 1, none⟩ u1).heap[g]? = some (.cells #[u0, u1] t (0, 0)) :=
 blk_put (blk_put h.blk 0 u0 rfl) 1 u1 rfl
theorem w_Neg_w (h l : Int) (r0 r1 : Int) (C : Aside0 (∀ w : World, Calls Try.prog 72 #[.agg #[.int .i64 0, .int .u64 0], .agg #[.int .i64 h, .int .u64 l]] w fun e w' => e = .returned (.agg #[.int .i64 r0, .int .u64 r1]) ∧ Below w.heap.size w w')) (w : World) :
  Calls Try.prog 69 #[.agg #[.int .i64 h, .int .u64 l]] w fun e w' => e = .returned (.agg #[.int .i64 r0, .int .u64 r1]) ∧ Below w.heap.size w w' := by
 go_enter Try.func69, Try.ntmps69
 go_wp2_with (go_at_call 72; refine (C.out _).mono ?_; rintro e w1 ⟨rfl, hb⟩; have F := Aside0.mk (Two.mk (blk_below (two_new w _ _) hb)); have HB := Aside0.mk ((two_all w _ _).trans (hb.mono (by simp; omega))); clear hb; obtain ⟨⟨z0, z1⟩, f0, f1⟩ := F.out.cells)
 refine bodyPost_ret (results_c1 rfl _ _ (w.heap.size + 1) 65 _ (0, 0) _ rfl (F.out.put _ _) Try.underlying65 rfl (by kernel_rfl)) rfl ?_
 exact ⟨rfl, below_set (below_set HB.out (by omega)) (by omega)⟩
theorem q_apart_n (h l : Int) (r0 r1 : Int) (hn : decide (h < 0) = true) (C : Aside0 (∀ w : World, Calls Try.prog 69 #[.agg #[.int .i64 h, .int .u64 l]] w fun e w' => e = .returned (.agg #[.int .i64 r0, .int .u64 r1]) ∧ Below w.heap.size w w')) (w : World) :
  Calls Try.prog 57 #[.agg #[.int .i64 h, .int .u64 l]] w fun e w' => e = .returned (.tuple #[.agg #[.int .u64 r1, .int .u64 (IntKind.u64.wrap r0)], .bool true]) ∧ Below w.heap.size w w' := by
 go_enter Try.func57, Try.ntmps57
 go_wp2_with (go_at_call 69; refine (C.out _).mono ?_; rintro e w1 ⟨rfl, hb⟩; have F := Aside0.mk (Two.mk (blk_below (two_new w _ _) hb)); have G := Aside0.mk (Two.mk (blk_below (blk_alloc (blk_new w _) _) hb)); have HB := Aside0.mk ((two_all w _ _).trans (hb.mono (by simp; omega))); clear hb; obtain ⟨⟨z0, z1⟩, f0, f1⟩ := F.out.cells; obtain ⟨⟨y0, y1⟩, g0, g1⟩ := G.out.cells)
 refine bodyPost_ret (results_ct rfl _ _ (w.heap.size + 1) 76 _ (0, 0) _ rfl (blk_put (blk_put (blk_set_ne (blk_set_ne F.out.blk (by omega) 0 _) (by omega) 1 _) 0 _ rfl) 1 _ rfl) Try.underlying76 rfl (by kernel_rfl)) rfl ?_
 exact ⟨rfl, below_set (below_set (below_set (below_set HB.out (by omega)) (by omega)) (by omega)) (by omega)⟩
theorem q_apart_p (h l : Int) (hn : decide (h < 0) = false) (w : World) :
  Calls Try.prog 57 #[.agg #[.int .i64 h, .int .u64 l]] w fun e w' => e = .returned (.tuple #[.agg #[.int .u64 l, .int .u64 (IntKind.u64.wrap h)], .bool false]) ∧ Below w.heap.size w w' := by
 go_enter Try.func57, Try.ntmps57
 go_wp2
 refine bodyPost_ret (results_ct rfl _ _ (w.heap.size + 1) 76 _ (0, 0) _ rfl (two_new w _ _) Try.underlying76 rfl (by kernel_rfl)) rfl ?_
 exact ⟨rfl, two_all w _ _⟩
theorem q_apart_c {h l : Int} (ok : WOk h l) (w : World) : Calls Try.prog 57 #[.agg #[.int .i64 h, .int .u64 l]] w fun e w' => e = .returned (.tuple #[.agg #[.int .u64 (q0 ((wv h l).natAbs : Int)), .int .u64 (q1 ((wv h l).natAbs : Int))], .bool (decide (wv h l < 0))]) ∧ Below w.heap.size w w' := by
 obtain ⟨⟨h0, h1⟩, l0, l1⟩ := ok
 by_cases n : h < 0
 ·have hv : wv h l < 0 := by unfold wv; omega
  have e0 : q0 ((wv h l).natAbs : Int) = wlo (-wv h l) := by unfold q0 wlo; omega
  have e1 : q1 ((wv h l).natAbs : Int) = IntKind.u64.wrap (whi (-wv h l)) := by
   rw [IntKind.wrap_u64]; unfold q1 whi wrap64
   have b : -170141183460469231731687303715884105728 ≤ wv h l := by unfold wv; omega
   generalize wv h l = V at hv b ⊢
   omega
  rw [e0, e1, decide_eq_true hv]
  exact q_apart_n h l _ _ (decide_eq_true n) ⟨w_Neg_w h l _ _ ⟨w_neg_c ⟨⟨h0, h1⟩, l0, l1⟩⟩⟩ w
 ·have hv : ¬ wv h l < 0 := by unfold wv; omega
  have e0 : q0 ((wv h l).natAbs : Int) = l := by unfold q0 wv; omega
  have e1 : q1 ((wv h l).natAbs : Int) = IntKind.u64.wrap h := by rw [IntKind.wrap_u64]; unfold q1 wv; omega
  rw [e0, e1, decide_eq_false hv]
  exact q_apart_p h l (decide_eq_false n) w
end Go.Proofs.Ytlkngfidohiepaa.F
end
section
namespace Go.Proofs.Ytlkngfidohiepaa.F
open Go RowKit YtlkngfidohiepaaW.PrintWords YtlkngfidohiepaaW.PrintLast YtlkngfidohiepaaW.PrintMore
set_option linter.unusedVariables false
theorem mul_blks {w w1 : World} {o0 o1 o2 : Obj} (hb : Below (((w.alloc o0).alloc o1).alloc o2).heap.size (((w.alloc o0).alloc o1).alloc o2) w1) : w1.heap[w.heap.size + 1]? = some o1 ∧ w1.heap[w.heap.size + 1 + 1]? = some o2 ∧ Below w.heap.size w w1 :=
 ⟨blk_below (blk_alloc (two_new w o0 o1) o2) hb, blk_below (three_new w o0 o1 o2) hb, (three_all w o0 o1 o2).trans (hb.mono (by simp; omega))⟩
theorem one_blk {w w1 : World} {o : Obj} (hb : Below (w.alloc o).heap.size (w.alloc o) w1) : w1.heap[w.heap.size]? = some o ∧ (∀ (g : Nat) (o' : Obj), w.heap[g]? = some o' → w1.heap[g]? = some o') ∧ (∀ v : World, Below v.heap.size v w → Below v.heap.size v w1) :=
 ⟨blk_below (blk_new w o) hb, fun g o' h => blk_below (blk_alloc h o) hb, fun v h => below_step (below_alloc h o) hb⟩
theorem hideW {P : Program} {c : Code} {Q : Exit → Act → World → Prop} {a : Act} {W : World} {T : World → Prop} (h : T W) (k : ∀ w', T w' → c.wp P Q a w') : c.wp P Q a W := k W h
set_option maxHeartbeats 1000000 in
theorem q_mul_w (a0 a1 b0 b1 x0 x1 y0 y1 h00 l00 h01 l01 h10 l10 h11 l11 p1 e1 p2 e2 p3 e3 p4 e4 p5 e5 p6 e6 p7 e7 p8 e8 : Int) (n m : Bool) 
  (A : Aside0 (∀ w : World, Calls Try.prog 57 #[.agg #[.int .i64 a0, .int .u64 a1]] w fun e w' => e = .returned (.tuple #[.agg #[.int .u64 x0, .int .u64 x1], .bool n]) ∧ Below w.heap.size w w'))
  (B : Aside0 (∀ w : World, Calls Try.prog 57 #[.agg #[.int .i64 b0, .int .u64 b1]] w fun e w' => e = .returned (.tuple #[.agg #[.int .u64 y0, .int .u64 y1], .bool m]) ∧ Below w.heap.size w w'))
  (M0 : Aside0 (∀ w : World, Calls Try.prog 58 #[.int .u64 x0, .int .u64 y0] w fun e w' => e = .returned (.tuple #[.int .u64 h00, .int .u64 l00]) ∧ Drawn0 w w'))
  (M1 : Aside0 (∀ w : World, Calls Try.prog 58 #[.int .u64 x0, .int .u64 y1] w fun e w' => e = .returned (.tuple #[.int .u64 h01, .int .u64 l01]) ∧ Drawn0 w w'))
  (M2 : Aside0 (∀ w : World, Calls Try.prog 58 #[.int .u64 x1, .int .u64 y0] w fun e w' => e = .returned (.tuple #[.int .u64 h10, .int .u64 l10]) ∧ Drawn0 w w'))
  (M3 : Aside0 (∀ w : World, Calls Try.prog 58 #[.int .u64 x1, .int .u64 y1] w fun e w' => e = .returned (.tuple #[.int .u64 h11, .int .u64 l11]) ∧ Drawn0 w w'))
  (k1 : ∀ w, (callFunc 59 #[.int .u64 0, .int .u64 l00, .int .u64 0]).run Try.prog w = .ok (.value (.tuple #[.int .u64 p1, .int .u64 e1])) w)
  (k2 : ∀ w, (callFunc 59 #[.int .u64 p1, .int .u64 0, .int .u64 0]).run Try.prog w = .ok (.value (.tuple #[.int .u64 p2, .int .u64 e2])) w)
  (k3 : ∀ w, (callFunc 59 #[.int .u64 0, .int .u64 l01, .int .u64 0]).run Try.prog w = .ok (.value (.tuple #[.int .u64 p3, .int .u64 e3])) w)
  (k4 : ∀ w, (callFunc 59 #[.int .u64 p3, .int .u64 (IntKind.u64.wrap (IntKind.u64.wrap (h00 + e1) + e2)), .int .u64 0]).run Try.prog w = .ok (.value (.tuple #[.int .u64 p4, .int .u64 e4])) w)
  (k5 : ∀ w, (callFunc 59 #[.int .u64 p4, .int .u64 l10, .int .u64 0]).run Try.prog w = .ok (.value (.tuple #[.int .u64 p5, .int .u64 e5])) w)
  (k6 : ∀ w, (callFunc 59 #[.int .u64 p5, .int .u64 0, .int .u64 0]).run Try.prog w = .ok (.value (.tuple #[.int .u64 p6, .int .u64 e6])) w)
  (k7 : ∀ w, (callFunc 59 #[.int .u64 (IntKind.u64.wrap (IntKind.u64.wrap (IntKind.u64.wrap (h01 + e3) + e4))), .int .u64 l11, .int .u64 0]).run Try.prog w = .ok (.value (.tuple #[.int .u64 p7, .int .u64 e7])) w)
  (k8 : ∀ w, (callFunc 59 #[.int .u64 p7, .int .u64 (IntKind.u64.wrap (IntKind.u64.wrap (h10 + e5) + e6)), .int .u64 0]).run Try.prog w = .ok (.value (.tuple #[.int .u64 p8, .int .u64 e8])) w)
  (s1 s2 s3 s4 : Int) (SUB : Aside0 ((n = m → s1 = p2 ∧ s2 = p6 ∧ s3 = p8 ∧ s4 = IntKind.u64.wrap (IntKind.u64.wrap (IntKind.u64.wrap (h11 + e7) + e8))) ∧ (n ≠ m → ∀ w : World, Calls Try.prog 60 #[q4 0 0 0 0, q4 p2 p6 p8 (IntKind.u64.wrap (IntKind.u64.wrap (IntKind.u64.wrap (h11 + e7) + e8)))] w fun e w' => e = .returned (q4 s1 s2 s3 s4) ∧ Below w.heap.size w w')))
  (w : World) : Calls Try.prog 43 #[.agg #[.int .i64 a0, .int .u64 a1], .agg #[.int .i64 b0, .int .u64 b1]] w fun e w' => e = .returned (q4 s1 s2 s3 s4) ∧ Below w.heap.size w w' := by
 go_enter Try.func43, Try.ntmps43
 go_wp2_with (first | (go_at_call 57; with_reducible refine (B.out _).mono ?_; rintro e w2 ⟨rfl, hb⟩; obtain ⟨b1, b2, b3⟩ := one_blk hb; have X := Aside0.mk (Two.mk b1); have G2 := Aside0.mk (Four.mk (b2 _ _ G.out.blk)); have HB2 := Aside0.mk (b3 _ HB.out); clear hb z0 z1 f0 f1 b1 b2 b3; obtain ⟨⟨z0, z1⟩, f0, f1⟩ := X.out.cells; have nw2 : w1.heap.size < w2.heap.size := blk_lt X.out.blk; have nw3 : w.heap.size + 1 + 1 < w2.heap.size := blk_lt G2.out.blk; clear nw1) | (go_at_call 57; with_reducible refine (A.out _).mono ?_; rintro e w1 ⟨rfl, hb⟩; obtain ⟨b1, b2, b3⟩ := mul_blks hb; have F := Aside0.mk (Two.mk b1); have G := Aside0.mk (Four.mk b2); have HB := Aside0.mk b3; clear hb b1 b2 b3; obtain ⟨⟨z0, z1⟩, f0, f1⟩ := F.out.cells; have nw1 : w.heap.size + 1 < w1.heap.size := blk_lt F.out.blk) | fail)
 refine wp_loop_rounds 3 ?_
 rw [rounds_succ]
 go_wp2
 refine wp_loop_rounds 3 ?_
 rw [rounds_succ]
 go_wp2
 go_region_held3 (fun w' => w'.cell? ⟨w1.heap.size, 0, none⟩ = some (.int .u64 x0) ∧ w'.cell? ⟨w2.heap.size, 0, none⟩ = some (.int .u64 y0)) (first | (constructor; all_goals (go_simp; done)) | go_keep | fail) (first | (go_at_call 58; with_reducible refine (M0.out _).mono ?_; rintro e w' ⟨rfl, ⟨nd, rfl⟩⟩) | fail)
 go_wp2
 rw [rounds_succ]
 go_wp2
 go_region_held3 (fun w' => w'.cell? ⟨w1.heap.size, 0, none⟩ = some (.int .u64 x0) ∧ w'.cell? ⟨w2.heap.size, 1, none⟩ = some (.int .u64 y1)) (first | (constructor; all_goals (go_simp; done)) | go_keep | fail) (first | (go_at_call 58; with_reducible refine (M1.out _).mono ?_; rintro e w' ⟨rfl, ⟨ndM1, rfl⟩⟩) | fail)
 go_wp2
 rw [rounds_succ]
 go_wp2
 rw [rounds_succ]
 refine hideW (T := fun w' => Two w' w1.heap.size 76 (.int .u64 x0) (.int .u64 x1) ∧ Two w' w2.heap.size 76 (.int .u64 y0) (.int .u64 y1) ∧ Four w' (w2.heap.size + 1) 62 (.int .u64 p2) (.int .u64 p4) (.int .u64 (IntKind.u64.wrap (IntKind.u64.wrap (IntKind.u64.wrap (h01 + e3) + e4)))) (.int .u64 0) ∧ Four w' (w.heap.size + 1 + 1) 62 (.int .u64 0) (.int .u64 0) (.int .u64 0) (.int .u64 0) ∧ Below w.heap.size w w') ?hid ?_
 case hid =>
  have hs := HB2.out.size
  refine ⟨⟨?_⟩, ⟨?_⟩, ⟨?_⟩, ⟨?_⟩, ?_⟩
  ·refine blk_set_ne (blk_set_ne (blk_set_ne (blk_drewN (blk_set_ne (blk_set_ne (blk_drewN (blk_alloc (blk_alloc X.out.blk _) _) _) ?_ _ _) ?_ _ _) _) ?_ _ _) ?_ _ _) ?_ _ _ <;> omega
  ·refine blk_set_ne (blk_set_ne (blk_set_ne (blk_drewN (blk_set_ne (blk_set_ne (blk_drewN (blk_alloc (blk_new w2 _) _) _) ?_ _ _) ?_ _ _) _) ?_ _ _) ?_ _ _) ?_ _ _ <;> omega
  ·exact blk_put (blk_put (blk_put (blk_drewN (blk_put (blk_put (blk_drewN (two_new w2 _ _) _) 0 _ rfl) 0 _ rfl) _) 1 _ rfl) 1 _ rfl) 2 _ rfl
  ·refine blk_set_ne (blk_set_ne (blk_set_ne (blk_drewN (blk_set_ne (blk_set_ne (blk_drewN (blk_alloc (blk_alloc G2.out.blk _) _) _) ?_ _ _) ?_ _ _) _) ?_ _ _) ?_ _ _) ?_ _ _ <;> omega
  ·exact below_set (below_set (below_set (pw_below_drewN (below_set (below_set (pw_below_drewN (below_alloc (below_alloc HB2.out _) _) _) (by omega)) (by omega)) _) (by omega)) (by omega)) (by omega)
 clear z0 z1 f0 f1
 rintro w3 ⟨X3, Y3, O3, R3, HB3⟩
 have X4 := Aside0.mk X3; have Y4 := Aside0.mk Y3; have O4 := Aside0.mk O3; have HB4 := Aside0.mk HB3; have R4 := Aside0.mk R3
 clear X3 Y3 O3 HB3 R3
 obtain ⟨⟨z0, z1⟩, f0, f1⟩ := X4.out.cells
 obtain ⟨⟨y0_, y1_⟩, g0, g1⟩ := Y4.out.cells
 obtain ⟨⟨o0, o1, o2, o3⟩, i0, i1, i2, i3⟩ := O4.out.cells
 go_wp2
 refine wp_loop_rounds 3 ?_
 rw [rounds_succ]
 go_wp2
 go_region_held3 (fun w' => w'.cell? ⟨w1.heap.size, 1, none⟩ = some (.int .u64 x1) ∧ w'.cell? ⟨w2.heap.size, 0, none⟩ = some (.int .u64 y0)) (first | (constructor; all_goals (go_simp; done)) | go_keep | fail) (first | (go_at_call 58; with_reducible refine (M2.out _).mono ?_; rintro e w' ⟨rfl, ⟨ndM2, rfl⟩⟩) | fail)
 go_wp2
 rw [rounds_succ]
 go_wp2
 go_region_held3 (fun w' => w'.cell? ⟨w1.heap.size, 1, none⟩ = some (.int .u64 x1) ∧ w'.cell? ⟨w2.heap.size, 1, none⟩ = some (.int .u64 y1)) (first | (constructor; all_goals (go_simp; done)) | go_keep | fail) (first | (go_at_call 58; with_reducible refine (M3.out _).mono ?_; rintro e w' ⟨rfl, ⟨ndM3, rfl⟩⟩) | fail)
 go_wp2
 rw [rounds_succ]
 go_wp2
 rw [rounds_succ]
 refine hideW (T := fun w' => Four w' (w2.heap.size + 1) 62 (.int .u64 p2) (.int .u64 p6) (.int .u64 p8) (.int .u64 (IntKind.u64.wrap (IntKind.u64.wrap (IntKind.u64.wrap (h11 + e7) + e8)))) ∧ Four w' (w.heap.size + 1 + 1) 62 (.int .u64 0) (.int .u64 0) (.int .u64 0) (.int .u64 0) ∧ Below w.heap.size w w') ?hid2 ?_
 case hid2 =>
  refine ⟨⟨?_⟩, ⟨?_⟩, ?_⟩
  ·exact blk_put (blk_put (blk_put (blk_drewN (blk_put (blk_put (blk_drewN O4.out.blk _) 1 _ rfl) 1 _ rfl) _) 2 _ rfl) 2 _ rfl) 3 _ rfl
  ·refine blk_set_ne (blk_set_ne (blk_set_ne (blk_drewN (blk_set_ne (blk_set_ne (blk_drewN R4.out.blk _) ?_ _ _) ?_ _ _) _) ?_ _ _) ?_ _ _) ?_ _ _ <;> omega
  ·have hs := HB2.out.size
   exact below_set (below_set (below_set (pw_below_drewN (below_set (below_set (pw_below_drewN HB4.out _) (by omega)) (by omega)) _) (by omega)) (by omega)) (by omega)
 clear z0 z1 f0 f1 y0_ y1_ g0 g1 o0 o1 o2 o3 i0 i1 i2 i3
 rintro w4 ⟨O5, R5, HB5⟩
 have O6 := Aside0.mk O5; have R6 := Aside0.mk R5; have HB6 := Aside0.mk HB5
 clear O5 R5 HB5
 obtain ⟨⟨o0, o1, o2, o3⟩, i0, i1, i2, i3⟩ := O6.out.cells
 obtain ⟨⟨r0, r1, r2, r3⟩, j0, j1, j2, j3⟩ := R6.out.cells
 by_cases hnm : n = m
 ·subst hnm
  obtain ⟨rfl, rfl, rfl, rfl⟩ := SUB.out.1 rfl
  cases n
  ·go_wp2
   refine bodyPost_ret (results_c1 rfl _ _ (w.heap.size + 1 + 1) 62 _ (0, 0) _ rfl (R6.out.put _ _ _ _) Try.underlying62 rfl (by kernel_rfl)) rfl ?_
   exact ⟨rfl, put_below HB6.out (by omega) _ _ _ _⟩
  ·go_wp2
   refine bodyPost_ret (results_c1 rfl _ _ (w.heap.size + 1 + 1) 62 _ (0, 0) _ rfl (R6.out.put _ _ _ _) Try.underlying62 rfl (by kernel_rfl)) rfl ?_
   exact ⟨rfl, put_below HB6.out (by omega) _ _ _ _⟩
 ·have hs := (SUB.out.2 hnm)
  cases n <;> cases m
  ·exact absurd rfl hnm
  ·go_wp2_with (first | (go_at_call 60; with_reducible refine (hs _).mono ?_; rintro e w5 ⟨rfl, hb⟩; have RR := Aside0.mk (Four.mk (blk_below R6.out.blk hb)); have HB7 := Aside0.mk (below_step HB6.out hb); clear hb r0 r1 r2 r3 j0 j1 j2 j3 o0 o1 o2 o3 i0 i1 i2 i3; obtain ⟨⟨r0, r1, r2, r3⟩, j0, j1, j2, j3⟩ := RR.out.cells) | fail)
   refine bodyPost_ret (results_c1 rfl _ _ (w.heap.size + 1 + 1) 62 _ (0, 0) _ rfl (RR.out.put _ _ _ _) Try.underlying62 rfl (by kernel_rfl)) rfl ?_
   exact ⟨rfl, put_below HB7.out (by omega) _ _ _ _⟩
  ·go_wp2_with (first | (go_at_call 60; with_reducible refine (hs _).mono ?_; rintro e w5 ⟨rfl, hb⟩; have RR := Aside0.mk (Four.mk (blk_below R6.out.blk hb)); have HB7 := Aside0.mk (below_step HB6.out hb); clear hb r0 r1 r2 r3 j0 j1 j2 j3 o0 o1 o2 o3 i0 i1 i2 i3; obtain ⟨⟨r0, r1, r2, r3⟩, j0, j1, j2, j3⟩ := RR.out.cells) | fail)
   refine bodyPost_ret (results_c1 rfl _ _ (w.heap.size + 1 + 1) 62 _ (0, 0) _ rfl (RR.out.put _ _ _ _) Try.underlying62 rfl (by kernel_rfl)) rfl ?_
   exact ⟨rfl, put_below HB7.out (by omega) _ _ _ _⟩
  ·exact absurd rfl hnm
end Go.Proofs.Ytlkngfidohiepaa.F
end
section
namespace Go.Proofs.Ytlkngfidohiepaa.F
open Go RowKit YtlkngfidohiepaaW.PrintWords YtlkngfidohiepaaW.PrintLast YtlkngfidohiepaaW.PrintMore
set_option linter.unusedVariables false
def quad_Mul.f (a0_0 a0_1 a1_0 a1_1 : Int) : Option (Int × Int × Int × Int) := if WOk a0_0 a0_1 ∧ WOk a1_0 a1_1 then some (qq4 (wv a0_0 a0_1 * wv a1_0 a1_1)) else none
theorem mul_cols {h00 l00 h01 l01 h10 l10 h11 l11 T : Int} (a : UOk h00) (a' : UOk l00) (b : UOk h01) (b' : UOk l01) (c : UOk h10) (c' : UOk l10) (d : UOk h11) (d' : UOk l11)
  (m00 : h00 ≤ 18446744073709551614) (m01 : h01 ≤ 18446744073709551614) (m10 : h10 ≤ 18446744073709551614) (m11 : h11 ≤ 18446744073709551614)
  (hT : T = l00 + 18446744073709551616 * (h00 + l01 + l10) + 340282366920938463463374607431768211456 * (h01 + h10 + l11) + 6277101735386680763835789423207666416102355444464034512896 * h11)
  (hlt : T < 115792089237316195423570985008687907853269984665640564039457584007913129639936) {p4 e4 p5 e5 p7 e7 p8 e8 c1 c2 : Int}
  (k4 : p4 = (l01 + h00) % 18446744073709551616) (j4 : e4 = (l01 + h00) / 18446744073709551616) (hc1 : c1 = h01 + e4)
  (k5 : p5 = (p4 + l10) % 18446744073709551616) (j5 : e5 = (p4 + l10) / 18446744073709551616) (hc2 : c2 = h10 + e5)
  (k7 : p7 = (c1 + l11) % 18446744073709551616) (j7 : e7 = (c1 + l11) / 18446744073709551616)
  (k8 : p8 = (p7 + c2) % 18446744073709551616) (j8 : e8 = (p7 + c2) / 18446744073709551616) :
  h11 + e7 + e8 < 18446744073709551616 ∧ T = qv l00 p5 p8 (h11 + e7 + e8) := by
 have r : T = qv l00 p5 p8 (h11 + e7 + e8) := by unfold qv; omega
 refine ⟨?_, r⟩
 rw [r] at hlt
 unfold qv at hlt
 omega
theorem prod_hi {x y : Int} (hx : UOk x) (hy : UOk y) : (0 ≤ x * y / 18446744073709551616 ∧ x * y / 18446744073709551616 ≤ 18446744073709551614) ∧ UOk (x * y % 18446744073709551616) := by
 obtain ⟨X, rfl⟩ := Int.eq_ofNat_of_zero_le hx.1
 obtain ⟨Y, rfl⟩ := Int.eq_ofNat_of_zero_le hy.1
 have h1 : X * Y ≤ 18446744073709551615 * 18446744073709551615 := Nat.mul_le_mul (by have := hx.2; omega) (by have := hy.2; omega)
 have h2 : (X : Int) * (Y : Int) = ((X * Y : Nat) : Int) := by rw [Int.natCast_mul]
 rw [h2]
 generalize X * Y = Z at h1 ⊢
 exact ⟨⟨by omega, by omega⟩, by omega, by omega⟩
theorem one_add (l : Int) (h : UOk l) : (0 + l + 0) % 18446744073709551616 = l ∧ (0 + l + 0) / 18446744073709551616 = 0 ∧ (l + 0 + 0) % 18446744073709551616 = l ∧ (l + 0 + 0) / 18446744073709551616 = 0 := by
 obtain ⟨h0, h1⟩ := h
 exact ⟨by omega, by omega, by omega, by omega⟩
theorem mul_amounts (A B : Nat) (n m : Bool) (hA : (A : Int) ≤ 170141183460469231731687303715884105728) (hB : (B : Int) ≤ 170141183460469231731687303715884105728) (a0 a1 b0 b1 : Int) (R : Int) (hR : R = if n = m then (A : Int) * B else -((A : Int) * B))
  (HA : ∀ w : World, Calls Try.prog 57 #[.agg #[.int .i64 a0, .int .u64 a1]] w fun e w' => e = .returned (.tuple #[.agg #[.int .u64 (q0 A), .int .u64 (q1 A)], .bool n]) ∧ Below w.heap.size w w')
  (HB : ∀ w : World, Calls Try.prog 57 #[.agg #[.int .i64 b0, .int .u64 b1]] w fun e w' => e = .returned (.tuple #[.agg #[.int .u64 (q0 B), .int .u64 (q1 B)], .bool m]) ∧ Below w.heap.size w w')
  (w : World) : Calls Try.prog 43 #[.agg #[.int .i64 a0, .int .u64 a1], .agg #[.int .i64 b0, .int .u64 b1]] w fun e w' => e = .returned (q4 (q0 R) (q1 R) (q2 R) (q3 R)) ∧ Below w.heap.size w w' := by
 have ux0 : UOk (q0 A) := by unfold q0; omega
 have ux1 : UOk (q1 A) := by unfold q1; omega
 have uy0 : UOk (q0 B) := by unfold q0; omega
 have uy1 : UOk (q1 B) := by unfold q1; omega
 have eA : (A : Int) = q0 A + 18446744073709551616 * q1 A := by unfold q0 q1; omega
 have eB : (B : Int) = q0 B + 18446744073709551616 * q1 B := by unfold q0 q1; omega
 have hlt : (A : Int) * B < 115792089237316195423570985008687907853269984665640564039457584007913129639936 := by
  have h1 : A * B ≤ 170141183460469231731687303715884105728 * 170141183460469231731687303715884105728 := Nat.mul_le_mul (by omega) (by omega)
  have h2 : (A : Int) * (B : Int) = ((A * B : Nat) : Int) := by rw [Int.natCast_mul]
  rw [h2]; generalize A * B = Z at h1 ⊢; omega
 have hT : (A : Int) * B = q0 A * q0 B + 18446744073709551616 * (q0 A * q1 B) + 18446744073709551616 * (q1 A * q0 B) + 340282366920938463463374607431768211456 * (q1 A * q1 B) := by
  have e : (A : Int) * B = (q0 A + 18446744073709551616 * q1 A) * (q0 B + 18446744073709551616 * q1 B) := by rw [← eA, ← eB]
  rw [e, Int.add_mul, Int.mul_add, Int.mul_add]
  have f1 : q0 (A : Int) * (18446744073709551616 * q1 (B : Int)) = 18446744073709551616 * (q0 A * q1 B) := by rw [← Int.mul_assoc, Int.mul_comm (q0 (A : Int)), Int.mul_assoc]
  have f2 : 18446744073709551616 * q1 (A : Int) * q0 (B : Int) = 18446744073709551616 * (q1 A * q0 B) := by rw [Int.mul_assoc]
  have f3 : 18446744073709551616 * q1 (A : Int) * (18446744073709551616 * q1 (B : Int)) = 340282366920938463463374607431768211456 * (q1 A * q1 B) := by
   rw [Int.mul_assoc, ← Int.mul_assoc (q1 (A : Int)), Int.mul_comm (q1 (A : Int)), Int.mul_assoc, ← Int.mul_assoc]; rfl
  rw [f1, f2, f3]; omega
 obtain ⟨a1_, a2_⟩ := prod_hi ux0 uy0
 obtain ⟨b1_, b2_⟩ := prod_hi ux0 uy1
 obtain ⟨c1_, c2_⟩ := prod_hi ux1 uy0
 obtain ⟨d1_, d2_⟩ := prod_hi ux1 uy1
 have M0 := fun w => bits_Mul64.calls (q0 A) (q0 B) _ _ w (mul64_f ux0 uy0)
 have M1 := fun w => bits_Mul64.calls (q0 A) (q1 B) _ _ w (mul64_f ux0 uy1)
 have M2 := fun w => bits_Mul64.calls (q1 A) (q0 B) _ _ w (mul64_f ux1 uy0)
 have M3 := fun w => bits_Mul64.calls (q1 A) (q1 B) _ _ w (mul64_f ux1 uy1)
 have z00 : q0 (A : Int) * q0 B = q0 A * q0 B % 18446744073709551616 + 18446744073709551616 * (q0 A * q0 B / 18446744073709551616) := by omega
 have z01 : q0 (A : Int) * q1 B = q0 A * q1 B % 18446744073709551616 + 18446744073709551616 * (q0 A * q1 B / 18446744073709551616) := by omega
 have z10 : q1 (A : Int) * q0 B = q1 A * q0 B % 18446744073709551616 + 18446744073709551616 * (q1 A * q0 B / 18446744073709551616) := by omega
 have z11 : q1 (A : Int) * q1 B = q1 A * q1 B % 18446744073709551616 + 18446744073709551616 * (q1 A * q1 B / 18446744073709551616) := by omega
 rw [z00, z01, z10, z11] at hT
 generalize q0 (A : Int) * q0 B / 18446744073709551616 = h00 at *
 generalize q0 (A : Int) * q0 B % 18446744073709551616 = l00 at *
 generalize q0 (A : Int) * q1 B / 18446744073709551616 = h01 at *
 generalize q0 (A : Int) * q1 B % 18446744073709551616 = l01 at *
 generalize q1 (A : Int) * q0 B / 18446744073709551616 = h10 at *
 generalize q1 (A : Int) * q0 B % 18446744073709551616 = l10 at *
 generalize q1 (A : Int) * q1 B / 18446744073709551616 = h11 at *
 generalize q1 (A : Int) * q1 B % 18446744073709551616 = l11 at *
 clear z00 z01 z10 z11 eA eB
 obtain ⟨p4, k4⟩ : ∃ z, z = (l01 + h00) % 18446744073709551616 := ⟨_, rfl⟩
 obtain ⟨e4, j4⟩ : ∃ z, z = (l01 + h00) / 18446744073709551616 := ⟨_, rfl⟩
 obtain ⟨p5, k5⟩ : ∃ z, z = (p4 + l10) % 18446744073709551616 := ⟨_, rfl⟩
 obtain ⟨e5, j5⟩ : ∃ z, z = (p4 + l10) / 18446744073709551616 := ⟨_, rfl⟩
 obtain ⟨p7, k7⟩ : ∃ z, z = (h01 + e4 + l11) % 18446744073709551616 := ⟨_, rfl⟩
 obtain ⟨e7, j7⟩ : ∃ z, z = (h01 + e4 + l11) / 18446744073709551616 := ⟨_, rfl⟩
 obtain ⟨p8, k8⟩ : ∃ z, z = (p7 + (h10 + e5)) % 18446744073709551616 := ⟨_, rfl⟩
 obtain ⟨e8, j8⟩ : ∃ z, z = (p7 + (h10 + e5)) / 18446744073709551616 := ⟨_, rfl⟩
 obtain ⟨s, e⟩ := mul_cols (T := (A : Int) * B) ⟨a1_.1, by omega⟩ a2_ ⟨b1_.1, by omega⟩ b2_ ⟨c1_.1, by omega⟩ c2_ ⟨d1_.1, by omega⟩ d2_ a1_.2 b1_.2 c1_.2 d1_.2 (by rw [hT]; omega) hlt k4 j4 rfl k5 j5 rfl k7 j7 k8 j8
 have w1 : IntKind.u64.wrap (IntKind.u64.wrap (h00 + 0) + 0) = h00 := by rw [IntKind.wrap_u64, IntKind.wrap_u64]; omega
 have w2 : IntKind.u64.wrap (IntKind.u64.wrap (IntKind.u64.wrap (h01 + 0) + e4)) = h01 + e4 := by rw [IntKind.wrap_u64, IntKind.wrap_u64, IntKind.wrap_u64]; omega
 have w3 : IntKind.u64.wrap (IntKind.u64.wrap (h10 + e5) + 0) = h10 + e5 := by rw [IntKind.wrap_u64, IntKind.wrap_u64]; omega
 have w4 : IntKind.u64.wrap (IntKind.u64.wrap (IntKind.u64.wrap (h11 + e7) + e8)) = h11 + e7 + e8 := by rw [IntKind.wrap_u64, IntKind.wrap_u64, IntKind.wrap_u64]; omega
 have u4 : UOk p4 := by omega
 have u5 : UOk p5 := by omega
 have u7 : UOk p7 := by omega
 have u8 : UOk p8 := by omega
 have uc : UOk (h01 + e4) := by omega
 have ud : UOk (h10 + e5) := by omega
 have us : UOk (h11 + e7 + e8) := by omega
 have qo : QOk l00 p5 p8 (h11 + e7 + e8) := ⟨a2_, u5, u8, us⟩
 have A64 := fun (x y : Int) (hx : UOk x) (hy : UOk y) (w : World) => add64_go x y 0 hx.1 hy.1 (by omega) (by omega) w
 obtain ⟨o1, o2, o3, o4⟩ := one_add l00 a2_
 obtain ⟨o5, o6, _, _⟩ := one_add l01 b2_
 obtain ⟨_, _, o7, o8⟩ := one_add p5 u5
 have z0 : UOk 0 := ⟨by omega, by omega⟩
 refine q_mul_w a0 a1 b0 b1 (q0 A) (q1 A) (q0 B) (q1 B) h00 l00 h01 l01 h10 l10 h11 l11 l00 0 l00 0 l01 0 p4 e4 p5 e5 p5 0 p7 e7 p8 e8 n m ⟨HA⟩ ⟨HB⟩ ⟨M0⟩ ⟨M1⟩ ⟨M2⟩ ⟨M3⟩ ?_ ?_ ?_ ?_ ?_ ?_ ?_ ?_ _ _ _ _ ⟨?_, ?_⟩ w
 ·intro w; have := A64 0 l00 z0 a2_ w; rw [o1, o2] at this; exact this
 ·intro w; have := A64 l00 0 a2_ z0 w; rw [o3, o4] at this; exact this
 ·intro w; have := A64 0 l01 z0 b2_ w; rw [o5, o6] at this; exact this
 ·intro w; rw [w1]; have := A64 l01 h00 b2_ ⟨a1_.1, by omega⟩ w; rw [show l01 + h00 + 0 = l01 + h00 by omega, ← k4, ← j4] at this; exact this
 ·intro w; have := A64 p4 l10 u4 c2_ w; rw [show p4 + l10 + 0 = p4 + l10 by omega, ← k5, ← j5] at this; exact this
 ·intro w; have := A64 p5 0 u5 z0 w; rw [o7, o8] at this; exact this
 ·intro w; rw [w2]; have := A64 (h01 + e4) l11 uc d2_ w; rw [show h01 + e4 + l11 + 0 = h01 + e4 + l11 by omega, ← k7, ← j7] at this; exact this
 ·intro w; rw [w3]; have := A64 p7 (h10 + e5) u7 ud w; rw [show p7 + (h10 + e5) + 0 = p7 + (h10 + e5) by omega, ← k8, ← j8] at this; exact this
 ·intro hn
  rw [if_pos hn] at hR
  obtain ⟨v0, v1, v2, v3⟩ := q_back qo
  rw [hR, e, w4]
  exact ⟨v0, v1, v2, v3⟩
 ·intro hn w
  rw [if_neg hn, e] at hR
  rw [hR, w4]
  exact q_neg_c qo w
theorem quad_Mul.calls (a0_0 a0_1 a1_0 a1_1 r1 r2 r3 r4 : Int) (w : World) (h : quad_Mul.f a0_0 a0_1 a1_0 a1_1 = some (r1, r2, r3, r4)) :
  Calls Try.prog 43 #[.agg #[.int .i64 a0_0, .int .u64 a0_1], .agg #[.int .i64 a1_0, .int .u64 a1_1]] w fun e w' => e = .returned (.agg #[.int .u64 r1, .int .u64 r2, .int .u64 r3, .int .u64 r4]) ∧ Below w.heap.size w w' := by
 unfold quad_Mul.f at h
 by_cases hb : WOk a0_0 a0_1 ∧ WOk a1_0 a1_1
 ·rw [if_pos hb] at h
  obtain ⟨rfl, rfl, rfl, rfl⟩ := some4 h
  have bA : ((wv a0_0 a0_1).natAbs : Int) ≤ 170141183460469231731687303715884105728 := by have := hb.1; unfold wv; omega
  have bB : ((wv a1_0 a1_1).natAbs : Int) ≤ 170141183460469231731687303715884105728 := by have := hb.2; unfold wv; omega
  refine mul_amounts (wv a0_0 a0_1).natAbs (wv a1_0 a1_1).natAbs _ _ bA bB a0_0 a0_1 a1_0 a1_1 (wv a0_0 a0_1 * wv a1_0 a1_1) ?_ (q_apart_c hb.1) (q_apart_c hb.2) w
  rw [← Int.natCast_mul, ← Int.natAbs_mul]
  generalize wv a0_0 a0_1 = U
  generalize wv a1_0 a1_1 = V
  rcases (show U < 0 ∨ 0 ≤ U by omega) with u | u <;> rcases (show V < 0 ∨ 0 ≤ V by omega) with v | v
  ·have : 0 ≤ U * V := Int.mul_nonneg_of_nonpos_of_nonpos (by omega) (by omega)
   rw [decide_eq_true u, decide_eq_true v, if_pos rfl]; omega
  ·have : U * V ≤ 0 := Int.mul_nonpos_of_nonpos_of_nonneg (by omega) v
   rw [decide_eq_true u, decide_eq_false (by omega), if_neg (by simp)]; omega
  ·have : U * V ≤ 0 := Int.mul_nonpos_of_nonneg_of_nonpos u (by omega)
   rw [decide_eq_false (by omega), decide_eq_true v, if_neg (by simp)]; omega
  ·have : 0 ≤ U * V := Int.mul_nonneg u v
   rw [decide_eq_false (by omega), decide_eq_false (by omega), if_pos rfl]; omega
 ·rw [if_neg hb] at h
  cases h
end Go.Proofs.Ytlkngfidohiepaa.F
end
section
namespace Go.Proofs.Ytlkngfidohiepaa.F
open RowKit YtlkngfidohiepaaW.PrintWords YtlkngfidohiepaaW.PrintLast YtlkngfidohiepaaW.PrintMore
set_option linter.unusedVariables false
set_option linter.unusedSimpArgs false
def pred_InCircle.f (k : Nat) (a0_0 : Int) (a0_1 : Int) (a1_0 : Int) (a1_1 : Int) (a2_0 : Int) (a2_1 : Int) (a3_0 : Int) (a3_1 : Int) : Option (Int) := (pred_can.f k (([(⟨a0_0, a0_1⟩ : S23), (⟨a1_0, a1_1⟩ : S23), (⟨a2_0, a2_1⟩ : S23), (⟨a3_0, a3_1⟩ : S23)] : List (S23)))).bind fun t185 => (if t185 = true then ((pred_way.f a3_0 a3_1 a0_0 a0_1).bind fun bt186 => ((pred_way.f a3_0 a3_1 a1_0 a1_1).bind fun bt188 => ((pred_way.f a3_0 a3_1 a2_0 a2_1).bind fun bt190 => ((pred_square.f bt186.1 bt186.2).bind fun bt195 => ((pred_across.f bt188.1 bt188.2 bt190.1 bt190.2).bind fun bt197 => ((quad_Mul.f bt195.1 bt195.2 bt197.1 bt197.2).bind fun bt199 => ((pred_square.f bt188.1 bt188.2).bind fun bt204 => ((pred_across.f bt190.1 bt190.2 bt186.1 bt186.2).bind fun bt206 => ((quad_Mul.f bt204.1 bt204.2 bt206.1 bt206.2).bind fun bt208 => ((quad_Add.f bt199.1 bt199.2.1 bt199.2.2.1 bt199.2.2.2 bt208.1 bt208.2.1 bt208.2.2.1 bt208.2.2.2).bind fun bt212 => ((pred_square.f bt190.1 bt190.2).bind fun bt216 => ((pred_across.f bt186.1 bt186.2 bt188.1 bt188.2).bind fun bt218 => ((quad_Mul.f bt216.1 bt216.2 bt218.1 bt218.2).bind fun bt220 => ((quad_Add.f bt212.1 bt212.2.1 bt212.2.2.1 bt212.2.2.2 bt220.1 bt220.2.1 bt220.2.2.1 bt220.2.2.2).bind fun bt224 => ((quad_Sign.f bt224.1 bt224.2.1 bt224.2.2.1 bt224.2.2.2).bind fun t228 => (some t228)))))))))))))))) else (some 0))
theorem pred_InCircle.mono : ∀ a0 a1 a2 a3 a4 a5 a6 a7 k, LeO (pred_InCircle.f k a0 a1 a2 a3 a4 a5 a6 a7) (pred_InCircle.f (k + 1) a0 a1 a2 a3 a4 a5 a6 a7) := by
 intro a0 a1 a2 a3 a4 a5 a6 a7 k
 unfold pred_InCircle.f
 repeat' first
   | (with_reducible exact pred_can.mono _ _)
   | (with_reducible exact LeO.refl _)
   | (with_reducible exact LeO.none _)
   | (with_reducible refine LeO.ite ?_ ?_)
   | (with_reducible refine LeO.bind ?_ (fun _ => ?_))
   | exact pred_can.mono _ _
   | exact LeO.none _
   | refine LeO.ite ?_ ?_
   | refine LeO.bind ?_ (fun _ => ?_)
def pred_InCircle.T3 : Bool × List (List Nat × List Nat) := (true, [([], []), ([], []), ([0, 1], [0, 1]), ([], []), ([], []), ([3, 4, 2], [3, 4]), ([], []), ([], []), ([6, 7, 5], [6, 7]), ([], []), ([], []), ([], []), ([9, 2, 8, 0, 1, 2, 9, 10, 11], [2, 9]), ([10, 5, 12, 0, 1, 2, 3, 4, 5, 9, 10, 11, 12], [5, 10]), ([11, 8, 13, 0, 1, 2, 3, 4, 5, 6, 7, 8, 9, 10, 11, 12, 13], [8, 11])])
def pred_InCircle.B3 : List Nat := [0, 0, 3, 0, 0, 31, 0, 0, 255, 0, 0, 0, 4095, 8191, 16383]
theorem pred_InCircle.tab3 : rtab .any (opsOf Try.f28 3) = pred_InCircle.T3 := by kernel_rfl
theorem pred_InCircle.bits3 : waitsOk pred_InCircle.T3.2 pred_InCircle.B3 = true := by kernel_rfl
def pred_InCircle.T4 : Bool × List (List Nat × List Nat) := (true, [([], []), ([0], [0]), ([], []), ([], []), ([2, 3, 1], [2, 3]), ([1, 4, 4], [1, 4]), ([], []), ([6, 5, 5, 0, 1, 2, 3, 4, 5, 6], [5, 6])])
def pred_InCircle.B4 : List Nat := [0, 1, 0, 0, 15, 31, 0, 127]
theorem pred_InCircle.tab4 : rtab .any (opsOf Try.f28 4) = pred_InCircle.T4 := by kernel_rfl
theorem pred_InCircle.bits4 : waitsOk pred_InCircle.T4.2 pred_InCircle.B4 = true := by kernel_rfl
def pred_InCircle.T5 : Bool × List (List Nat × List Nat) := (true, [([], []), ([], []), ([1], [1]), ([], []), ([], []), ([3, 4, 2], [3, 4]), ([2, 5, 5], [2, 5]), ([0, 6, 6], [0, 6]), ([7, 7, 0, 1, 2, 3, 4, 5, 6, 7], [7])])
def pred_InCircle.B5 : List Nat := [0, 0, 2, 0, 0, 30, 62, 127, 255]
theorem pred_InCircle.tab5 : rtab .any (opsOf Try.f28 5) = pred_InCircle.T5 := by kernel_rfl
theorem pred_InCircle.bits5 : waitsOk pred_InCircle.T5.2 pred_InCircle.B5 = true := by kernel_rfl
def pred_InCircle.T6 : Bool × List (List Nat × List Nat) := (true, [([], []), ([], []), ([1], [1]), ([], []), ([], []), ([3, 4, 2], [3, 4]), ([2, 5, 5], [2, 5]), ([0, 6, 6], [0, 6]), ([7, 7, 0, 1, 2, 3, 4, 5, 6, 7], [7])])
def pred_InCircle.B6 : List Nat := [0, 0, 2, 0, 0, 30, 62, 127, 255]
theorem pred_InCircle.tab6 : rtab .any (opsOf Try.f28 6) = pred_InCircle.T6 := by kernel_rfl
theorem pred_InCircle.bits6 : waitsOk pred_InCircle.T6.2 pred_InCircle.B6 = true := by kernel_rfl
set_option maxHeartbeats 8000000 in
set_option maxRecDepth 100000 in
theorem pred_InCircle.calls (k : Nat) (a0_0 : Int) (a0_1 : Int) (a1_0 : Int) (a1_1 : Int) (a2_0 : Int) (a2_1 : Int) (a3_0 : Int) (a3_1 : Int) (r : Int) (w : World) (h : pred_InCircle.f k a0_0 a0_1 a1_0 a1_1 a2_0 a2_1 a3_0 a3_1 = some r) :
  Calls Try.prog 28 #[.agg #[.int .i64 a0_0, .int .i64 a0_1], .agg #[.int .i64 a1_0, .int .i64 a1_1], .agg #[.int .i64 a2_0, .int .i64 a2_1], .agg #[.int .i64 a3_0, .int .i64 a3_1]] w fun e w' => e = .returned (.int .i64 r) ∧ Below w.heap.size w w' := by
 have hu23 := Try.underlying23
 have hu62 := Try.underlying62
 have HB := Aside0.mk (Below.refl w.heap.size w)
 have H : ((pred_can.f k (([(⟨a0_0, a0_1⟩ : S23), (⟨a1_0, a1_1⟩ : S23), (⟨a2_0, a2_1⟩ : S23), (⟨a3_0, a3_1⟩ : S23)] : List (S23)))).bind fun t185 => (if t185 = true then ((pred_way.f a3_0 a3_1 a0_0 a0_1).bind fun bt186 => ((pred_way.f a3_0 a3_1 a1_0 a1_1).bind fun bt188 => ((pred_way.f a3_0 a3_1 a2_0 a2_1).bind fun bt190 => ((pred_square.f bt186.1 bt186.2).bind fun bt195 => ((pred_across.f bt188.1 bt188.2 bt190.1 bt190.2).bind fun bt197 => ((quad_Mul.f bt195.1 bt195.2 bt197.1 bt197.2).bind fun bt199 => ((pred_square.f bt188.1 bt188.2).bind fun bt204 => ((pred_across.f bt190.1 bt190.2 bt186.1 bt186.2).bind fun bt206 => ((quad_Mul.f bt204.1 bt204.2 bt206.1 bt206.2).bind fun bt208 => ((quad_Add.f bt199.1 bt199.2.1 bt199.2.2.1 bt199.2.2.2 bt208.1 bt208.2.1 bt208.2.2.1 bt208.2.2.2).bind fun bt212 => ((pred_square.f bt190.1 bt190.2).bind fun bt216 => ((pred_across.f bt186.1 bt186.2 bt188.1 bt188.2).bind fun bt218 => ((quad_Mul.f bt216.1 bt216.2 bt218.1 bt218.2).bind fun bt220 => ((quad_Add.f bt212.1 bt212.2.1 bt212.2.2.1 bt212.2.2.2 bt220.1 bt220.2.1 bt220.2.2.1 bt220.2.2.2).bind fun bt224 => ((quad_Sign.f bt224.1 bt224.2.1 bt224.2.2.1 bt224.2.2.2).bind fun t228 => (some t228)))))))))))))))) else (some 0))) = some r := h
 clear h
 obtain ⟨y182, hy182⟩ : ∃ y_ : List (S23), y_ = (([(⟨a0_0, a0_1⟩ : S23), (⟨a1_0, a1_1⟩ : S23), (⟨a2_0, a2_1⟩ : S23), (⟨a3_0, a3_1⟩ : S23)] : List (S23))) := ⟨_, rfl⟩
 replace H : ((pred_can.f k y182).bind fun t185 => (if t185 = true then ((pred_way.f a3_0 a3_1 a0_0 a0_1).bind fun bt186 => ((pred_way.f a3_0 a3_1 a1_0 a1_1).bind fun bt188 => ((pred_way.f a3_0 a3_1 a2_0 a2_1).bind fun bt190 => ((pred_square.f bt186.1 bt186.2).bind fun bt195 => ((pred_across.f bt188.1 bt188.2 bt190.1 bt190.2).bind fun bt197 => ((quad_Mul.f bt195.1 bt195.2 bt197.1 bt197.2).bind fun bt199 => ((pred_square.f bt188.1 bt188.2).bind fun bt204 => ((pred_across.f bt190.1 bt190.2 bt186.1 bt186.2).bind fun bt206 => ((quad_Mul.f bt204.1 bt204.2 bt206.1 bt206.2).bind fun bt208 => ((quad_Add.f bt199.1 bt199.2.1 bt199.2.2.1 bt199.2.2.2 bt208.1 bt208.2.1 bt208.2.2.1 bt208.2.2.2).bind fun bt212 => ((pred_square.f bt190.1 bt190.2).bind fun bt216 => ((pred_across.f bt186.1 bt186.2 bt188.1 bt188.2).bind fun bt218 => ((quad_Mul.f bt216.1 bt216.2 bt218.1 bt218.2).bind fun bt220 => ((quad_Add.f bt212.1 bt212.2.1 bt212.2.2.1 bt212.2.2.2 bt220.1 bt220.2.1 bt220.2.2.1 bt220.2.2.2).bind fun bt224 => ((quad_Sign.f bt224.1 bt224.2.1 bt224.2.2.1 bt224.2.2.2).bind fun t228 => (some t228)))))))))))))))) else (some 0))) = some r := by first | (rw [hy182]; with_reducible exact H) | (have H2_ := (Option.bind_some _ _).symm.trans H; rw [hy182]; with_reducible exact H2_) | (have H2_ := (Option.bind_some _ _).symm.trans H; with_reducible exact H2_) | with_reducible exact H | (rw [hy182]; exact H) | exact H
 have Ny182 := Aside0.mk hy182
 clear hy182
 replace H := Option.bind_eq_some_iff.mp H
 obtain ⟨t185, A50, H⟩ := H
 try dsimp only at H
 have A5 := Aside0.mk A50
 clear A50
 by_cases c6 : t185 = true
 ·subst c6
  rw [if_pos rfl] at H
  replace H := Option.bind_eq_some_iff.mp H
  obtain ⟨⟨t186, t187⟩, A70, H⟩ := H
  try dsimp only at H
  have A7 := Aside0.mk A70
  clear A70
  replace H := Option.bind_eq_some_iff.mp H
  obtain ⟨⟨t188, t189⟩, A80, H⟩ := H
  try dsimp only at H
  have A8 := Aside0.mk A80
  clear A80
  replace H := Option.bind_eq_some_iff.mp H
  obtain ⟨⟨t190, t191⟩, A90, H⟩ := H
  try dsimp only at H
  have A9 := Aside0.mk A90
  clear A90
  replace H := Option.bind_eq_some_iff.mp H
  obtain ⟨⟨t195, t196⟩, A100, H⟩ := H
  try dsimp only at H
  have A10 := Aside0.mk A100
  clear A100
  replace H := Option.bind_eq_some_iff.mp H
  obtain ⟨⟨t197, t198⟩, A110, H⟩ := H
  try dsimp only at H
  have A11 := Aside0.mk A110
  clear A110
  replace H := Option.bind_eq_some_iff.mp H
  obtain ⟨⟨t199, t200, t201, t202⟩, A120, H⟩ := H
  try dsimp only at H
  have A12 := Aside0.mk A120
  clear A120
  replace H := Option.bind_eq_some_iff.mp H
  obtain ⟨⟨t204, t205⟩, A130, H⟩ := H
  try dsimp only at H
  have A13 := Aside0.mk A130
  clear A130
  replace H := Option.bind_eq_some_iff.mp H
  obtain ⟨⟨t206, t207⟩, A140, H⟩ := H
  try dsimp only at H
  have A14 := Aside0.mk A140
  clear A140
  replace H := Option.bind_eq_some_iff.mp H
  obtain ⟨⟨t208, t209, t210, t211⟩, A150, H⟩ := H
  try dsimp only at H
  have A15 := Aside0.mk A150
  clear A150
  replace H := Option.bind_eq_some_iff.mp H
  obtain ⟨⟨t212, t213, t214, t215⟩, A160, H⟩ := H
  try dsimp only at H
  have A16 := Aside0.mk A160
  clear A160
  replace H := Option.bind_eq_some_iff.mp H
  obtain ⟨⟨t216, t217⟩, A170, H⟩ := H
  try dsimp only at H
  have A17 := Aside0.mk A170
  clear A170
  replace H := Option.bind_eq_some_iff.mp H
  obtain ⟨⟨t218, t219⟩, A180, H⟩ := H
  try dsimp only at H
  have A18 := Aside0.mk A180
  clear A180
  replace H := Option.bind_eq_some_iff.mp H
  obtain ⟨⟨t220, t221, t222, t223⟩, A190, H⟩ := H
  try dsimp only at H
  have A19 := Aside0.mk A190
  clear A190
  replace H := Option.bind_eq_some_iff.mp H
  obtain ⟨⟨t224, t225, t226, t227⟩, A200, H⟩ := H
  try dsimp only at H
  have A20 := Aside0.mk A200
  clear A200
  replace H := Option.bind_eq_some_iff.mp H
  obtain ⟨t228, A210, H⟩ := H
  try dsimp only at H
  have A21 := Aside0.mk A210
  clear A210
  obtain rfl := Option.some.inj H
  go_enter Try.func28, Try.ntmps28
  try go_wp2_with (first | ((with_reducible refine gate_dst (N := 4) rfl ?_); refine bx 4 #[.int .i64 a0_0, .int .i64 a0_1] 23 ?_; intro gb178 hg w22 hbox hb; have BK178 := Aside0.mk hbox; have GW178 := u3 hg HB; have GE178 := u3 hg HB; replace HB := u2 HB hb; clear hb hbox hg) | ((with_reducible refine gate_dst (N := 5) rfl ?_); refine bx 5 #[.int .i64 a1_0, .int .i64 a1_1] 23 ?_; intro gb179 hg w23 hbox hb; have BK179 := Aside0.mk hbox; have GW179 := u3 hg HB; have GE179 := u3 hg HB; have NB178_179 := u4 hg BK178; have NB179_178 := u5 hg BK178; replace BK178 := u1 BK178 hb; replace HB := u2 HB hb; clear hb hbox hg) | ((with_reducible refine gate_dst (N := 6) rfl ?_); refine bx 6 #[.int .i64 a2_0, .int .i64 a2_1] 23 ?_; intro gb180 hg w24 hbox hb; have BK180 := Aside0.mk hbox; have GW180 := u3 hg HB; have GE180 := u3 hg HB; have NB178_180 := u4 hg BK178; have NB180_178 := u5 hg BK178; have NB179_180 := u4 hg BK179; have NB180_179 := u5 hg BK179; replace BK178 := u1 BK178 hb; replace BK179 := u1 BK179 hb; replace HB := u2 HB hb; clear hb hbox hg) | ((with_reducible refine gate_dst (N := 7) rfl ?_); refine bx 7 #[.int .i64 a3_0, .int .i64 a3_1] 23 ?_; intro gb181 hg w25 hbox hb; have BK181 := Aside0.mk hbox; have GW181 := u3 hg HB; have GE181 := u3 hg HB; have NB178_181 := u4 hg BK178; have NB181_178 := u5 hg BK178; have NB179_181 := u4 hg BK179; have NB181_179 := u5 hg BK179; have NB180_181 := u4 hg BK180; have NB181_180 := u5 hg BK180; replace BK178 := u1 BK178 hb; replace BK179 := u1 BK179 hb; replace BK180 := u1 BK180 hb; replace HB := u2 HB hb; clear hb hbox hg; have hnb26 := NB178_179.out; have hnc26 := NB179_178.out; have hnb27 := NB178_180.out; have hnc27 := NB180_178.out; have hnb28 := NB178_181.out; have hnc28 := NB181_178.out; obtain ⟨_, _, _, _⟩ := p2 BK178; have hnb30 := NB179_180.out; have hnc30 := NB180_179.out; have hnb31 := NB179_181.out; have hnc31 := NB181_179.out; obtain ⟨_, _, _, _⟩ := p2 BK179; have hnb33 := NB180_181.out; have hnc33 := NB181_180.out; obtain ⟨_, _, _, _⟩ := p2 BK180; obtain ⟨_, _, _, _⟩ := p2 BK181) | ((with_reducible refine gate_dst (N := 17) rfl ?_); refine Kd.R_lit k23 _ 23 ?hg (N := 17) ?hd (xs := ([(⟨a0_0, a0_1⟩ : S23), (⟨a1_0, a1_1⟩ : S23), (⟨a2_0, a2_1⟩ : S23), (⟨a3_0, a3_1⟩ : S23)] : List (S23))) (inner := [.int .i64 a0_0, .int .i64 a0_1, .int .i64 a1_0, .int .i64 a1_1, .int .i64 a2_0, .int .i64 a2_1, .int .i64 a3_0, .int .i64 a3_1]) (ok := fun _ => True) (okp := fun _ => True) ?hr ?hp (fun _ hk => hk) trivial (Below.refl _ _) (Nat.le_refl _) (by simp) ?_; (case hd => rfl); (case hg => rfl); (case hr => first | (go_simp; done) | (go_simp; rfl)); (case hp => exact (Reps.c2 (show Kd.M k23 _ _ _ (⟨a0_0, a0_1⟩ : S23) [.int .i64 a0_0, .int .i64 a0_1] from (k23_mkM _ _ _ (⟨a0_0, a0_1⟩ : S23) )) (Reps.c2 (show Kd.M k23 _ _ _ (⟨a1_0, a1_1⟩ : S23) [.int .i64 a1_0, .int .i64 a1_1] from (k23_mkM _ _ _ (⟨a1_0, a1_1⟩ : S23) )) (Reps.c2 (show Kd.M k23 _ _ _ (⟨a2_0, a2_1⟩ : S23) [.int .i64 a2_0, .int .i64 a2_1] from (k23_mkM _ _ _ (⟨a2_0, a2_1⟩ : S23) )) (Reps.c2 (show Kd.M k23 _ _ _ (⟨a3_0, a3_1⟩ : S23) [.int .i64 a3_0, .int .i64 a3_1] from (k23_mkM _ _ _ (⟨a3_0, a3_1⟩ : S23) )) (Reps.none _ _)))))); intro v183 w36 ho37 hb hg_ hnew_; clear hg_ hnew_; (first | rw [← Ny182.out] at ho37 | (simp only [Int.reduceToNat] at ho37; rw [← Ny182.out] at ho37)); have n0_ := Aside0.mk (Kd.R_lower (Kd.R_newB (Kd.R_newB (Kd.R_newB (Kd.R_newB ho37 (bk BK178.out)) (bk BK179.out)) (bk BK180.out)) (bk BK181.out)) (below_size (bw HB.out))); have n1_ := u1 BK178 hb; have n2_ := u1 BK179 hb; have n3_ := u1 BK180 hb; have n4_ := u1 BK181 hb; have n5_ := u2 HB hb; clear BK178; clear BK179; clear BK180; clear BK181; clear HB; have HO184 := n0_; have BK178 := n1_; have BK179 := n2_; have BK180 := n3_; have BK181 := n4_; have HB := n5_; clear n0_ n1_ n2_ n3_ n4_ n5_; clear hb ho37; obtain ⟨Ao38, co38, eo38⟩ := Kd.R_slice HO184.out; subst eo38) | ((with_reducible refine gate_callee (f := 39) rfl ?_); refine gL (some 18) Try.func39 #[.slice Ao38 y182.length co38] rfl ?_; (with_reducible refine (pred_can.calls k _ _ y182 true _ ?side1 ?side2 A5.out).mono ?_); (case side1 => repeat (first | exact (Kd.R_reads' HO184.out).2.2 | (with_reducible refine Kd.C_alloc ?_ _) | (with_reducible refine Kd.C_drewN ?_ _) | (with_reducible refine Kd.C_drew ?_))); (case side2 => exact (Kd.R_reads' HO184.out).2.1); rintro e w39 ⟨rfl, hb⟩; refine ⟨_, rfl, ?_⟩; have n0_ := Aside0.mk (Kd.R_below (by (with_reducible repeat (first | apply Kd.R_alloc | apply Kd.R_drewN | apply Kd.R_drew)); exact HO184.out) hb); have n1_ := u1 BK178 hb; have n2_ := u1 BK179 hb; have n3_ := u1 BK180 hb; have n4_ := u1 BK181 hb; have n5_ := u2 HB hb; clear HO184; clear BK178; clear BK179; clear BK180; clear BK181; clear HB; have HO184 := n0_; have BK178 := n1_; have BK179 := n2_; have BK180 := n3_; have BK181 := n4_; have HB := n5_; clear n0_ n1_ n2_ n3_ n4_ n5_; clear hb))
  have n0_ := Aside0.mk (blk_drew BK178.out)
  have n1_ := Aside0.mk (blk_drew BK179.out)
  have n2_ := Aside0.mk (blk_drew BK180.out)
  have n3_ := Aside0.mk (blk_drew BK181.out)
  have n4_ := Aside0.mk (below_drew1 HB.out)
  clear BK178
  clear BK179
  clear BK180
  clear BK181
  clear HB
  have BK178 := n0_
  have BK179 := n1_
  have BK180 := n2_
  have BK181 := n3_
  have HB := n4_
  clear n0_ n1_ n2_ n3_ n4_
  refine start_ (n := 15) (S := fun w' => True) (ds := []) #[F_,F_,F_,F_,F_,F_,F_,F_,F_,F_,F_,F_,F_,F_,F_] (by kernel_rfl) rfl rfl trivial (fun hHeld => ?_); refine with_tabW pred_InCircle.tab3 pred_InCircle.bits3 (fun HT_ HW_ => ?_)
  generalize w39.drew = w40 at BK178 BK179 BK180 BK181 HB hHeld ⊢
  refine inv_at [0, 1, 2, 3, 4, 5, 6, 7, 8, 9, 10, 11, 12, 13, 14] (fun a0_ b a w' => ∃ (gb192 : Nat) (gb193 : Nat) (gb194 : Nat) (m9_ : Value) (m10_ : Value) (m11_ : Value), a = putSel a0_ b [(0, 20, .agg #[.int .i64 a3_0, .int .i64 a3_1]), (1, 21, .agg #[.int .i64 a0_0, .int .i64 a0_1]), (2, 22, .agg #[.int .i64 t186, .int .i64 t187]), (3, 23, .agg #[.int .i64 a3_0, .int .i64 a3_1]), (4, 24, .agg #[.int .i64 a1_0, .int .i64 a1_1]), (5, 25, .agg #[.int .i64 t188, .int .i64 t189]), (6, 26, .agg #[.int .i64 a3_0, .int .i64 a3_1]), (7, 27, .agg #[.int .i64 a2_0, .int .i64 a2_1]), (8, 28, .agg #[.int .i64 t190, .int .i64 t191]), (9, 9, m9_), (10, 10, m10_), (11, 11, m11_)] ∧ (w'.heap[gb178]? = some (.cells #[.int .i64 a0_0, .int .i64 a0_1] 23 (0, 0))) ∧ (w'.heap[gb179]? = some (.cells #[.int .i64 a1_0, .int .i64 a1_1] 23 (0, 0))) ∧ (w'.heap[gb180]? = some (.cells #[.int .i64 a2_0, .int .i64 a2_1] 23 (0, 0))) ∧ (w'.heap[gb181]? = some (.cells #[.int .i64 a3_0, .int .i64 a3_1] 23 (0, 0))) ∧ (Below w.heap.size w w') ∧ (b 9 = true → b 10 = true → gb193 ≠ gb192) ∧ (b 9 = true → b 10 = true → gb192 ≠ gb193) ∧ (b 9 = true → b 11 = true → gb194 ≠ gb192) ∧ (b 9 = true → b 11 = true → gb192 ≠ gb194) ∧ (b 10 = true → b 11 = true → gb194 ≠ gb193) ∧ (b 10 = true → b 11 = true → gb193 ≠ gb194) ∧ (b 9 = true → b 12 = false → w'.heap[gb192]? = some (.cells #[.int .i64 0, .int .i64 0] 23 (0, 0))) ∧ (b 9 = true → w.heap.size ≤ gb192) ∧ (b 9 = true → w.heap.size ≤ gb192) ∧ (b 9 = true → gb178 ≠ gb192) ∧ (b 9 = true → gb192 ≠ gb178) ∧ (b 9 = true → gb179 ≠ gb192) ∧ (b 9 = true → gb192 ≠ gb179) ∧ (b 9 = true → gb180 ≠ gb192) ∧ (b 9 = true → gb192 ≠ gb180) ∧ (b 9 = true → gb181 ≠ gb192) ∧ (b 9 = true → gb192 ≠ gb181) ∧ (b 10 = true → b 13 = false → w'.heap[gb193]? = some (.cells #[.int .i64 0, .int .i64 0] 23 (0, 0))) ∧ (b 10 = true → w.heap.size ≤ gb193) ∧ (b 10 = true → w.heap.size ≤ gb193) ∧ (b 10 = true → gb178 ≠ gb193) ∧ (b 10 = true → gb193 ≠ gb178) ∧ (b 10 = true → gb179 ≠ gb193) ∧ (b 10 = true → gb193 ≠ gb179) ∧ (b 10 = true → gb180 ≠ gb193) ∧ (b 10 = true → gb193 ≠ gb180) ∧ (b 10 = true → gb181 ≠ gb193) ∧ (b 10 = true → gb193 ≠ gb181) ∧ (b 11 = true → b 14 = false → w'.heap[gb194]? = some (.cells #[.int .i64 0, .int .i64 0] 23 (0, 0))) ∧ (b 11 = true → w.heap.size ≤ gb194) ∧ (b 11 = true → w.heap.size ≤ gb194) ∧ (b 11 = true → gb178 ≠ gb194) ∧ (b 11 = true → gb194 ≠ gb178) ∧ (b 11 = true → gb179 ≠ gb194) ∧ (b 11 = true → gb194 ≠ gb179) ∧ (b 11 = true → gb180 ≠ gb194) ∧ (b 11 = true → gb194 ≠ gb180) ∧ (b 11 = true → gb181 ≠ gb194) ∧ (b 11 = true → gb194 ≠ gb181) ∧ (b 12 = true → w'.heap[gb192]? = some (.cells #[.int .i64 t186, .int .i64 t187] 23 (0, 0))) ∧ (b 13 = true → w'.heap[gb193]? = some (.cells #[.int .i64 t188, .int .i64 t189] 23 (0, 0))) ∧ (b 14 = true → w'.heap[gb194]? = some (.cells #[.int .i64 t190, .int .i64 t191] 23 (0, 0))) ∧ (b 9 = true → (m9_ : Value) = .pointer (some ⟨gb192, 0, none⟩)) ∧ (b 10 = true → (m10_ : Value) = .pointer (some ⟨gb193, 0, none⟩)) ∧ (b 11 = true → (m11_ : Value) = .pointer (some ⟨gb194, 0, none⟩))) HT_.out HW_.out (by kernel_rfl) (by kernel_rfl) ?_ ?_ ?_
  ·exact ⟨0, 0, 0, .bool false, .bool false, .bool false, by simp only [putSel, Bool.false_eq_true, if_false], BK178.out, BK179.out, BK180.out, BK181.out, HB.out, fun h_ => absurd h_ (by decide), fun h_ => absurd h_ (by decide), fun h_ => absurd h_ (by decide), fun h_ => absurd h_ (by decide), fun h_ => absurd h_ (by decide), fun h_ => absurd h_ (by decide), fun h_ => absurd h_ (by decide), fun h_ => absurd h_ (by decide), fun h_ => absurd h_ (by decide), fun h_ => absurd h_ (by decide), fun h_ => absurd h_ (by decide), fun h_ => absurd h_ (by decide), fun h_ => absurd h_ (by decide), fun h_ => absurd h_ (by decide), fun h_ => absurd h_ (by decide), fun h_ => absurd h_ (by decide), fun h_ => absurd h_ (by decide), fun h_ => absurd h_ (by decide), fun h_ => absurd h_ (by decide), fun h_ => absurd h_ (by decide), fun h_ => absurd h_ (by decide), fun h_ => absurd h_ (by decide), fun h_ => absurd h_ (by decide), fun h_ => absurd h_ (by decide), fun h_ => absurd h_ (by decide), fun h_ => absurd h_ (by decide), fun h_ => absurd h_ (by decide), fun h_ => absurd h_ (by decide), fun h_ => absurd h_ (by decide), fun h_ => absurd h_ (by decide), fun h_ => absurd h_ (by decide), fun h_ => absurd h_ (by decide), fun h_ => absurd h_ (by decide), fun h_ => absurd h_ (by decide), fun h_ => absurd h_ (by decide), fun h_ => absurd h_ (by decide), fun h_ => absurd h_ (by decide), fun h_ => absurd h_ (by decide), fun h_ => absurd h_ (by decide), fun h_ => absurd h_ (by decide), fun h_ => absurd h_ (by decide), fun h_ => absurd h_ (by decide), fun h_ => absurd h_ (by decide), fun h_ => absurd h_ (by decide), fun h_ => absurd h_ (by decide)⟩
  ·skip
   clear BK178 BK179 BK180 BK181 HB
   refine steps_cons ?_ ?_
   ·rintro b a w' ⟨gb192, gb193, gb194, m9_, m10_, m11_, ha, Q_BK178, Q_BK179, Q_BK180, Q_BK181, Q_HB, Q_NB193_192, Q_NB192_193, Q_NB194_192, Q_NB192_194, Q_NB194_193, Q_NB193_194, Q_BK192, Q_GW192, Q_GE192, Q_NB178_192, Q_NB192_178, Q_NB179_192, Q_NB192_179, Q_NB180_192, Q_NB192_180, Q_NB181_192, Q_NB192_181, Q_BK193, Q_GW193, Q_GE193, Q_NB178_193, Q_NB193_178, Q_NB179_193, Q_NB193_179, Q_NB180_193, Q_NB193_180, Q_NB181_193, Q_NB193_181, Q_BK194, Q_GW194, Q_GE194, Q_NB178_194, Q_NB194_178, Q_NB179_194, Q_NB194_179, Q_NB180_194, Q_NB194_180, Q_NB181_194, Q_NB194_181, Q_BK192_e12, Q_BK193_e13, Q_BK194_e14, Q_X9_, Q_X10_, Q_X11_⟩ hb_ hon hoff
    refine ⟨_, rfl, fun K hK => ?_⟩
    have e7 : a.tmps[7]? = some (.pointer (some ⟨gb181, 0, none⟩)) := by rw [ha]; exact (putSel_off rfl).trans rfl
    replace ha := Aside0.mk ha
    have BK178 := Aside0.mk Q_BK178
    have BK179 := Aside0.mk Q_BK179
    have BK180 := Aside0.mk Q_BK180
    have BK181 := Aside0.mk Q_BK181
    have HB := Aside0.mk Q_HB
    have hc0_ : w'.cell? ⟨gb181, 0, none⟩ = some (.int .i64 a3_0) := (blk_cell BK181.out 0).trans rfl
    have hc1_ : w'.cell? ⟨gb181, 1, none⟩ = some (.int .i64 a3_1) := (blk_cell BK181.out 1).trans rfl
    refine value_ (w1 := w') (v := .agg #[.int .i64 a3_0, .int .i64 a3_1]) (by rfl) rfl ?_ ?_
    ·go_simp
     (try simp only [i64_w])
     try rfl
    refine hK.out _ _ ⟨gb192, gb193, gb194, m9_, m10_, m11_, (by rw [ha.out]; exact putSel_upk 0 hb_ rfl rfl rfl), Q_BK178, Q_BK179, Q_BK180, Q_BK181, Q_HB, Q_NB193_192, Q_NB192_193, Q_NB194_192, Q_NB192_194, Q_NB194_193, Q_NB193_194, Q_BK192, Q_GW192, Q_GE192, Q_NB178_192, Q_NB192_178, Q_NB179_192, Q_NB192_179, Q_NB180_192, Q_NB192_180, Q_NB181_192, Q_NB192_181, Q_BK193, Q_GW193, Q_GE193, Q_NB178_193, Q_NB193_178, Q_NB179_193, Q_NB193_179, Q_NB180_193, Q_NB193_180, Q_NB181_193, Q_NB193_181, Q_BK194, Q_GW194, Q_GE194, Q_NB178_194, Q_NB194_178, Q_NB179_194, Q_NB194_179, Q_NB180_194, Q_NB194_180, Q_NB181_194, Q_NB194_181, fun h0_ => absurd ((hoff 12 (by kernel_rfl)).symm.trans h0_) (by decide), fun h0_ => absurd ((hoff 13 (by kernel_rfl)).symm.trans h0_) (by decide), fun h0_ => absurd ((hoff 14 (by kernel_rfl)).symm.trans h0_) (by decide), Q_X9_, Q_X10_, Q_X11_⟩
   refine steps_cons ?_ ?_
   ·rintro b a w' ⟨gb192, gb193, gb194, m9_, m10_, m11_, ha, Q_BK178, Q_BK179, Q_BK180, Q_BK181, Q_HB, Q_NB193_192, Q_NB192_193, Q_NB194_192, Q_NB192_194, Q_NB194_193, Q_NB193_194, Q_BK192, Q_GW192, Q_GE192, Q_NB178_192, Q_NB192_178, Q_NB179_192, Q_NB192_179, Q_NB180_192, Q_NB192_180, Q_NB181_192, Q_NB192_181, Q_BK193, Q_GW193, Q_GE193, Q_NB178_193, Q_NB193_178, Q_NB179_193, Q_NB193_179, Q_NB180_193, Q_NB193_180, Q_NB181_193, Q_NB193_181, Q_BK194, Q_GW194, Q_GE194, Q_NB178_194, Q_NB194_178, Q_NB179_194, Q_NB194_179, Q_NB180_194, Q_NB194_180, Q_NB181_194, Q_NB194_181, Q_BK192_e12, Q_BK193_e13, Q_BK194_e14, Q_X9_, Q_X10_, Q_X11_⟩ hb_ hon hoff
    refine ⟨_, rfl, fun K hK => ?_⟩
    have e4 : a.tmps[4]? = some (.pointer (some ⟨gb178, 0, none⟩)) := by rw [ha]; exact (putSel_off rfl).trans rfl
    replace ha := Aside0.mk ha
    have BK178 := Aside0.mk Q_BK178
    have BK179 := Aside0.mk Q_BK179
    have BK180 := Aside0.mk Q_BK180
    have BK181 := Aside0.mk Q_BK181
    have HB := Aside0.mk Q_HB
    have hc0_ : w'.cell? ⟨gb178, 0, none⟩ = some (.int .i64 a0_0) := (blk_cell BK178.out 0).trans rfl
    have hc1_ : w'.cell? ⟨gb178, 1, none⟩ = some (.int .i64 a0_1) := (blk_cell BK178.out 1).trans rfl
    refine value_ (w1 := w') (v := .agg #[.int .i64 a0_0, .int .i64 a0_1]) (by rfl) rfl ?_ ?_
    ·go_simp
     (try simp only [i64_w])
     try rfl
    refine hK.out _ _ ⟨gb192, gb193, gb194, m9_, m10_, m11_, (by rw [ha.out]; exact putSel_upk 1 hb_ rfl rfl rfl), Q_BK178, Q_BK179, Q_BK180, Q_BK181, Q_HB, Q_NB193_192, Q_NB192_193, Q_NB194_192, Q_NB192_194, Q_NB194_193, Q_NB193_194, Q_BK192, Q_GW192, Q_GE192, Q_NB178_192, Q_NB192_178, Q_NB179_192, Q_NB192_179, Q_NB180_192, Q_NB192_180, Q_NB181_192, Q_NB192_181, Q_BK193, Q_GW193, Q_GE193, Q_NB178_193, Q_NB193_178, Q_NB179_193, Q_NB193_179, Q_NB180_193, Q_NB193_180, Q_NB181_193, Q_NB193_181, Q_BK194, Q_GW194, Q_GE194, Q_NB178_194, Q_NB194_178, Q_NB179_194, Q_NB194_179, Q_NB180_194, Q_NB194_180, Q_NB181_194, Q_NB194_181, fun h0_ => absurd ((hoff 12 (by kernel_rfl)).symm.trans h0_) (by decide), fun h0_ => absurd ((hoff 13 (by kernel_rfl)).symm.trans h0_) (by decide), fun h0_ => absurd ((hoff 14 (by kernel_rfl)).symm.trans h0_) (by decide), Q_X9_, Q_X10_, Q_X11_⟩
   refine steps_cons ?_ ?_
   ·rintro b a w' ⟨gb192, gb193, gb194, m9_, m10_, m11_, ha, Q_BK178, Q_BK179, Q_BK180, Q_BK181, Q_HB, Q_NB193_192, Q_NB192_193, Q_NB194_192, Q_NB192_194, Q_NB194_193, Q_NB193_194, Q_BK192, Q_GW192, Q_GE192, Q_NB178_192, Q_NB192_178, Q_NB179_192, Q_NB192_179, Q_NB180_192, Q_NB192_180, Q_NB181_192, Q_NB192_181, Q_BK193, Q_GW193, Q_GE193, Q_NB178_193, Q_NB193_178, Q_NB179_193, Q_NB193_179, Q_NB180_193, Q_NB193_180, Q_NB181_193, Q_NB193_181, Q_BK194, Q_GW194, Q_GE194, Q_NB178_194, Q_NB194_178, Q_NB179_194, Q_NB194_179, Q_NB180_194, Q_NB194_180, Q_NB181_194, Q_NB194_181, Q_BK192_e12, Q_BK193_e13, Q_BK194_e14, Q_X9_, Q_X10_, Q_X11_⟩ hb_ hon hoff
    refine ⟨_, rfl, fun K hK => ?_⟩
    have e20 : a.tmps[20]? = some (.agg #[.int .i64 a3_0, .int .i64 a3_1]) := by rw [ha]; exact putSel_on (e := (0, 20, .agg #[.int .i64 a3_0, .int .i64 a3_1])) 0 rfl rfl (hon 0 (by kernel_rfl)) rfl
    have e21 : a.tmps[21]? = some (.agg #[.int .i64 a0_0, .int .i64 a0_1]) := by rw [ha]; exact putSel_on (e := (1, 21, .agg #[.int .i64 a0_0, .int .i64 a0_1])) 1 rfl rfl (hon 1 (by kernel_rfl)) rfl
    replace ha := Aside0.mk ha
    have BK178 := Aside0.mk Q_BK178
    have BK179 := Aside0.mk Q_BK179
    have BK180 := Aside0.mk Q_BK180
    have BK181 := Aside0.mk Q_BK181
    have HB := Aside0.mk Q_HB
    refine goes_ Try.func42 (by kernel_rfl) rfl #[.agg #[.int .i64 a3_0, .int .i64 a3_1], .agg #[.int .i64 a0_0, .int .i64 a0_1]] (by rfl) rfl rfl (by first | (simp only [List.map_toArray, List.map_cons, List.map_nil, Act.eval, Array.getD_eq_getD_getElem?, Option.getD_some, e20, e21]; done) | (simp only [List.map_toArray, List.map_cons, List.map_nil, Act.eval, Array.getD_eq_getD_getElem?, Option.getD_some, e20, e21]; rfl)) ?_
    with_reducible refine (pred_way.calls a3_0 a3_1 a0_0 a0_1 t186 t187 _ A7.out).mono ?_
    rintro e w41 ⟨rfl, hb⟩
    refine ⟨_, rfl, ?_⟩
    have n0_ := u1 BK178 hb
    have n1_ := u1 BK179 hb
    have n2_ := u1 BK180 hb
    have n3_ := u1 BK181 hb
    have n4_ := Aside0.mk (below_step (bw HB.out) hb)
    have z_BK192 := fun (h0_ : b 9 = true) (h1_ : b 12 = false) => (show w41.heap[gb192]? = some (.cells #[.int .i64 0, .int .i64 0] 23 (0, 0)) from by first | exact (blk_below (g := gb192) (o := .cells #[.int .i64 0, .int .i64 0] 23 (0, 0)) (bk (Q_BK192 h0_ h1_)) hb))
    have z_BK193 := fun (h0_ : b 10 = true) (h1_ : b 13 = false) => (show w41.heap[gb193]? = some (.cells #[.int .i64 0, .int .i64 0] 23 (0, 0)) from by first | exact (blk_below (g := gb193) (o := .cells #[.int .i64 0, .int .i64 0] 23 (0, 0)) (bk (Q_BK193 h0_ h1_)) hb))
    have z_BK194 := fun (h0_ : b 11 = true) (h1_ : b 14 = false) => (show w41.heap[gb194]? = some (.cells #[.int .i64 0, .int .i64 0] 23 (0, 0)) from by first | exact (blk_below (g := gb194) (o := .cells #[.int .i64 0, .int .i64 0] 23 (0, 0)) (bk (Q_BK194 h0_ h1_)) hb))
    clear BK178
    clear BK179
    clear BK180
    clear BK181
    clear HB
    have BK178 := n0_
    have BK179 := n1_
    have BK180 := n2_
    have BK181 := n3_
    have HB := n4_
    clear n0_ n1_ n2_ n3_ n4_
    (try clear hb)
    (try clear hb2)
    (try clear hk)
    (try clear hi)
    refine hK.out _ _ ⟨gb192, gb193, gb194, m9_, m10_, m11_, (by rw [ha.out]; exact putSel_upk 2 hb_ rfl rfl rfl), (bk BK178.out), (bk BK179.out), (bk BK180.out), (bk BK181.out), (bw HB.out), Q_NB193_192, Q_NB192_193, Q_NB194_192, Q_NB192_194, Q_NB194_193, Q_NB193_194, z_BK192, Q_GW192, Q_GE192, Q_NB178_192, Q_NB192_178, Q_NB179_192, Q_NB192_179, Q_NB180_192, Q_NB192_180, Q_NB181_192, Q_NB192_181, z_BK193, Q_GW193, Q_GE193, Q_NB178_193, Q_NB193_178, Q_NB179_193, Q_NB193_179, Q_NB180_193, Q_NB193_180, Q_NB181_193, Q_NB193_181, z_BK194, Q_GW194, Q_GE194, Q_NB178_194, Q_NB194_178, Q_NB179_194, Q_NB194_179, Q_NB180_194, Q_NB194_180, Q_NB181_194, Q_NB194_181, fun h0_ => absurd ((hoff 12 (by kernel_rfl)).symm.trans h0_) (by decide), fun h0_ => absurd ((hoff 13 (by kernel_rfl)).symm.trans h0_) (by decide), fun h0_ => absurd ((hoff 14 (by kernel_rfl)).symm.trans h0_) (by decide), Q_X9_, Q_X10_, Q_X11_⟩
   refine steps_cons ?_ ?_
   ·rintro b a w' ⟨gb192, gb193, gb194, m9_, m10_, m11_, ha, Q_BK178, Q_BK179, Q_BK180, Q_BK181, Q_HB, Q_NB193_192, Q_NB192_193, Q_NB194_192, Q_NB192_194, Q_NB194_193, Q_NB193_194, Q_BK192, Q_GW192, Q_GE192, Q_NB178_192, Q_NB192_178, Q_NB179_192, Q_NB192_179, Q_NB180_192, Q_NB192_180, Q_NB181_192, Q_NB192_181, Q_BK193, Q_GW193, Q_GE193, Q_NB178_193, Q_NB193_178, Q_NB179_193, Q_NB193_179, Q_NB180_193, Q_NB193_180, Q_NB181_193, Q_NB193_181, Q_BK194, Q_GW194, Q_GE194, Q_NB178_194, Q_NB194_178, Q_NB179_194, Q_NB194_179, Q_NB180_194, Q_NB194_180, Q_NB181_194, Q_NB194_181, Q_BK192_e12, Q_BK193_e13, Q_BK194_e14, Q_X9_, Q_X10_, Q_X11_⟩ hb_ hon hoff
    refine ⟨_, rfl, fun K hK => ?_⟩
    have e7 : a.tmps[7]? = some (.pointer (some ⟨gb181, 0, none⟩)) := by rw [ha]; exact (putSel_off rfl).trans rfl
    replace ha := Aside0.mk ha
    have BK178 := Aside0.mk Q_BK178
    have BK179 := Aside0.mk Q_BK179
    have BK180 := Aside0.mk Q_BK180
    have BK181 := Aside0.mk Q_BK181
    have HB := Aside0.mk Q_HB
    have hc0_ : w'.cell? ⟨gb181, 0, none⟩ = some (.int .i64 a3_0) := (blk_cell BK181.out 0).trans rfl
    have hc1_ : w'.cell? ⟨gb181, 1, none⟩ = some (.int .i64 a3_1) := (blk_cell BK181.out 1).trans rfl
    refine value_ (w1 := w') (v := .agg #[.int .i64 a3_0, .int .i64 a3_1]) (by rfl) rfl ?_ ?_
    ·go_simp
     (try simp only [i64_w])
     try rfl
    refine hK.out _ _ ⟨gb192, gb193, gb194, m9_, m10_, m11_, (by rw [ha.out]; exact putSel_upk 3 hb_ rfl rfl rfl), Q_BK178, Q_BK179, Q_BK180, Q_BK181, Q_HB, Q_NB193_192, Q_NB192_193, Q_NB194_192, Q_NB192_194, Q_NB194_193, Q_NB193_194, Q_BK192, Q_GW192, Q_GE192, Q_NB178_192, Q_NB192_178, Q_NB179_192, Q_NB192_179, Q_NB180_192, Q_NB192_180, Q_NB181_192, Q_NB192_181, Q_BK193, Q_GW193, Q_GE193, Q_NB178_193, Q_NB193_178, Q_NB179_193, Q_NB193_179, Q_NB180_193, Q_NB193_180, Q_NB181_193, Q_NB193_181, Q_BK194, Q_GW194, Q_GE194, Q_NB178_194, Q_NB194_178, Q_NB179_194, Q_NB194_179, Q_NB180_194, Q_NB194_180, Q_NB181_194, Q_NB194_181, fun h0_ => absurd ((hoff 12 (by kernel_rfl)).symm.trans h0_) (by decide), fun h0_ => absurd ((hoff 13 (by kernel_rfl)).symm.trans h0_) (by decide), fun h0_ => absurd ((hoff 14 (by kernel_rfl)).symm.trans h0_) (by decide), Q_X9_, Q_X10_, Q_X11_⟩
   refine steps_cons ?_ ?_
   ·rintro b a w' ⟨gb192, gb193, gb194, m9_, m10_, m11_, ha, Q_BK178, Q_BK179, Q_BK180, Q_BK181, Q_HB, Q_NB193_192, Q_NB192_193, Q_NB194_192, Q_NB192_194, Q_NB194_193, Q_NB193_194, Q_BK192, Q_GW192, Q_GE192, Q_NB178_192, Q_NB192_178, Q_NB179_192, Q_NB192_179, Q_NB180_192, Q_NB192_180, Q_NB181_192, Q_NB192_181, Q_BK193, Q_GW193, Q_GE193, Q_NB178_193, Q_NB193_178, Q_NB179_193, Q_NB193_179, Q_NB180_193, Q_NB193_180, Q_NB181_193, Q_NB193_181, Q_BK194, Q_GW194, Q_GE194, Q_NB178_194, Q_NB194_178, Q_NB179_194, Q_NB194_179, Q_NB180_194, Q_NB194_180, Q_NB181_194, Q_NB194_181, Q_BK192_e12, Q_BK193_e13, Q_BK194_e14, Q_X9_, Q_X10_, Q_X11_⟩ hb_ hon hoff
    refine ⟨_, rfl, fun K hK => ?_⟩
    have e5 : a.tmps[5]? = some (.pointer (some ⟨gb179, 0, none⟩)) := by rw [ha]; exact (putSel_off rfl).trans rfl
    replace ha := Aside0.mk ha
    have BK178 := Aside0.mk Q_BK178
    have BK179 := Aside0.mk Q_BK179
    have BK180 := Aside0.mk Q_BK180
    have BK181 := Aside0.mk Q_BK181
    have HB := Aside0.mk Q_HB
    have hc0_ : w'.cell? ⟨gb179, 0, none⟩ = some (.int .i64 a1_0) := (blk_cell BK179.out 0).trans rfl
    have hc1_ : w'.cell? ⟨gb179, 1, none⟩ = some (.int .i64 a1_1) := (blk_cell BK179.out 1).trans rfl
    refine value_ (w1 := w') (v := .agg #[.int .i64 a1_0, .int .i64 a1_1]) (by rfl) rfl ?_ ?_
    ·go_simp
     (try simp only [i64_w])
     try rfl
    refine hK.out _ _ ⟨gb192, gb193, gb194, m9_, m10_, m11_, (by rw [ha.out]; exact putSel_upk 4 hb_ rfl rfl rfl), Q_BK178, Q_BK179, Q_BK180, Q_BK181, Q_HB, Q_NB193_192, Q_NB192_193, Q_NB194_192, Q_NB192_194, Q_NB194_193, Q_NB193_194, Q_BK192, Q_GW192, Q_GE192, Q_NB178_192, Q_NB192_178, Q_NB179_192, Q_NB192_179, Q_NB180_192, Q_NB192_180, Q_NB181_192, Q_NB192_181, Q_BK193, Q_GW193, Q_GE193, Q_NB178_193, Q_NB193_178, Q_NB179_193, Q_NB193_179, Q_NB180_193, Q_NB193_180, Q_NB181_193, Q_NB193_181, Q_BK194, Q_GW194, Q_GE194, Q_NB178_194, Q_NB194_178, Q_NB179_194, Q_NB194_179, Q_NB180_194, Q_NB194_180, Q_NB181_194, Q_NB194_181, fun h0_ => absurd ((hoff 12 (by kernel_rfl)).symm.trans h0_) (by decide), fun h0_ => absurd ((hoff 13 (by kernel_rfl)).symm.trans h0_) (by decide), fun h0_ => absurd ((hoff 14 (by kernel_rfl)).symm.trans h0_) (by decide), Q_X9_, Q_X10_, Q_X11_⟩
   refine steps_cons ?_ ?_
   ·rintro b a w' ⟨gb192, gb193, gb194, m9_, m10_, m11_, ha, Q_BK178, Q_BK179, Q_BK180, Q_BK181, Q_HB, Q_NB193_192, Q_NB192_193, Q_NB194_192, Q_NB192_194, Q_NB194_193, Q_NB193_194, Q_BK192, Q_GW192, Q_GE192, Q_NB178_192, Q_NB192_178, Q_NB179_192, Q_NB192_179, Q_NB180_192, Q_NB192_180, Q_NB181_192, Q_NB192_181, Q_BK193, Q_GW193, Q_GE193, Q_NB178_193, Q_NB193_178, Q_NB179_193, Q_NB193_179, Q_NB180_193, Q_NB193_180, Q_NB181_193, Q_NB193_181, Q_BK194, Q_GW194, Q_GE194, Q_NB178_194, Q_NB194_178, Q_NB179_194, Q_NB194_179, Q_NB180_194, Q_NB194_180, Q_NB181_194, Q_NB194_181, Q_BK192_e12, Q_BK193_e13, Q_BK194_e14, Q_X9_, Q_X10_, Q_X11_⟩ hb_ hon hoff
    refine ⟨_, rfl, fun K hK => ?_⟩
    have e23 : a.tmps[23]? = some (.agg #[.int .i64 a3_0, .int .i64 a3_1]) := by rw [ha]; exact putSel_on (e := (3, 23, .agg #[.int .i64 a3_0, .int .i64 a3_1])) 3 rfl rfl (hon 3 (by kernel_rfl)) rfl
    have e24 : a.tmps[24]? = some (.agg #[.int .i64 a1_0, .int .i64 a1_1]) := by rw [ha]; exact putSel_on (e := (4, 24, .agg #[.int .i64 a1_0, .int .i64 a1_1])) 4 rfl rfl (hon 4 (by kernel_rfl)) rfl
    replace ha := Aside0.mk ha
    have BK178 := Aside0.mk Q_BK178
    have BK179 := Aside0.mk Q_BK179
    have BK180 := Aside0.mk Q_BK180
    have BK181 := Aside0.mk Q_BK181
    have HB := Aside0.mk Q_HB
    refine goes_ Try.func42 (by kernel_rfl) rfl #[.agg #[.int .i64 a3_0, .int .i64 a3_1], .agg #[.int .i64 a1_0, .int .i64 a1_1]] (by rfl) rfl rfl (by first | (simp only [List.map_toArray, List.map_cons, List.map_nil, Act.eval, Array.getD_eq_getD_getElem?, Option.getD_some, e23, e24]; done) | (simp only [List.map_toArray, List.map_cons, List.map_nil, Act.eval, Array.getD_eq_getD_getElem?, Option.getD_some, e23, e24]; rfl)) ?_
    with_reducible refine (pred_way.calls a3_0 a3_1 a1_0 a1_1 t188 t189 _ A8.out).mono ?_
    rintro e w43 ⟨rfl, hb⟩
    refine ⟨_, rfl, ?_⟩
    have n0_ := u1 BK178 hb
    have n1_ := u1 BK179 hb
    have n2_ := u1 BK180 hb
    have n3_ := u1 BK181 hb
    have n4_ := Aside0.mk (below_step (bw HB.out) hb)
    have z_BK192 := fun (h0_ : b 9 = true) (h1_ : b 12 = false) => (show w43.heap[gb192]? = some (.cells #[.int .i64 0, .int .i64 0] 23 (0, 0)) from by first | exact (blk_below (g := gb192) (o := .cells #[.int .i64 0, .int .i64 0] 23 (0, 0)) (bk (Q_BK192 h0_ h1_)) hb))
    have z_BK193 := fun (h0_ : b 10 = true) (h1_ : b 13 = false) => (show w43.heap[gb193]? = some (.cells #[.int .i64 0, .int .i64 0] 23 (0, 0)) from by first | exact (blk_below (g := gb193) (o := .cells #[.int .i64 0, .int .i64 0] 23 (0, 0)) (bk (Q_BK193 h0_ h1_)) hb))
    have z_BK194 := fun (h0_ : b 11 = true) (h1_ : b 14 = false) => (show w43.heap[gb194]? = some (.cells #[.int .i64 0, .int .i64 0] 23 (0, 0)) from by first | exact (blk_below (g := gb194) (o := .cells #[.int .i64 0, .int .i64 0] 23 (0, 0)) (bk (Q_BK194 h0_ h1_)) hb))
    clear BK178
    clear BK179
    clear BK180
    clear BK181
    clear HB
    have BK178 := n0_
    have BK179 := n1_
    have BK180 := n2_
    have BK181 := n3_
    have HB := n4_
    clear n0_ n1_ n2_ n3_ n4_
    (try clear hb)
    (try clear hb2)
    (try clear hk)
    (try clear hi)
    refine hK.out _ _ ⟨gb192, gb193, gb194, m9_, m10_, m11_, (by rw [ha.out]; exact putSel_upk 5 hb_ rfl rfl rfl), (bk BK178.out), (bk BK179.out), (bk BK180.out), (bk BK181.out), (bw HB.out), Q_NB193_192, Q_NB192_193, Q_NB194_192, Q_NB192_194, Q_NB194_193, Q_NB193_194, z_BK192, Q_GW192, Q_GE192, Q_NB178_192, Q_NB192_178, Q_NB179_192, Q_NB192_179, Q_NB180_192, Q_NB192_180, Q_NB181_192, Q_NB192_181, z_BK193, Q_GW193, Q_GE193, Q_NB178_193, Q_NB193_178, Q_NB179_193, Q_NB193_179, Q_NB180_193, Q_NB193_180, Q_NB181_193, Q_NB193_181, z_BK194, Q_GW194, Q_GE194, Q_NB178_194, Q_NB194_178, Q_NB179_194, Q_NB194_179, Q_NB180_194, Q_NB194_180, Q_NB181_194, Q_NB194_181, fun h0_ => absurd ((hoff 12 (by kernel_rfl)).symm.trans h0_) (by decide), fun h0_ => absurd ((hoff 13 (by kernel_rfl)).symm.trans h0_) (by decide), fun h0_ => absurd ((hoff 14 (by kernel_rfl)).symm.trans h0_) (by decide), Q_X9_, Q_X10_, Q_X11_⟩
   refine steps_cons ?_ ?_
   ·rintro b a w' ⟨gb192, gb193, gb194, m9_, m10_, m11_, ha, Q_BK178, Q_BK179, Q_BK180, Q_BK181, Q_HB, Q_NB193_192, Q_NB192_193, Q_NB194_192, Q_NB192_194, Q_NB194_193, Q_NB193_194, Q_BK192, Q_GW192, Q_GE192, Q_NB178_192, Q_NB192_178, Q_NB179_192, Q_NB192_179, Q_NB180_192, Q_NB192_180, Q_NB181_192, Q_NB192_181, Q_BK193, Q_GW193, Q_GE193, Q_NB178_193, Q_NB193_178, Q_NB179_193, Q_NB193_179, Q_NB180_193, Q_NB193_180, Q_NB181_193, Q_NB193_181, Q_BK194, Q_GW194, Q_GE194, Q_NB178_194, Q_NB194_178, Q_NB179_194, Q_NB194_179, Q_NB180_194, Q_NB194_180, Q_NB181_194, Q_NB194_181, Q_BK192_e12, Q_BK193_e13, Q_BK194_e14, Q_X9_, Q_X10_, Q_X11_⟩ hb_ hon hoff
    refine ⟨_, rfl, fun K hK => ?_⟩
    have e7 : a.tmps[7]? = some (.pointer (some ⟨gb181, 0, none⟩)) := by rw [ha]; exact (putSel_off rfl).trans rfl
    replace ha := Aside0.mk ha
    have BK178 := Aside0.mk Q_BK178
    have BK179 := Aside0.mk Q_BK179
    have BK180 := Aside0.mk Q_BK180
    have BK181 := Aside0.mk Q_BK181
    have HB := Aside0.mk Q_HB
    have hc0_ : w'.cell? ⟨gb181, 0, none⟩ = some (.int .i64 a3_0) := (blk_cell BK181.out 0).trans rfl
    have hc1_ : w'.cell? ⟨gb181, 1, none⟩ = some (.int .i64 a3_1) := (blk_cell BK181.out 1).trans rfl
    refine value_ (w1 := w') (v := .agg #[.int .i64 a3_0, .int .i64 a3_1]) (by rfl) rfl ?_ ?_
    ·go_simp
     (try simp only [i64_w])
     try rfl
    refine hK.out _ _ ⟨gb192, gb193, gb194, m9_, m10_, m11_, (by rw [ha.out]; exact putSel_upk 6 hb_ rfl rfl rfl), Q_BK178, Q_BK179, Q_BK180, Q_BK181, Q_HB, Q_NB193_192, Q_NB192_193, Q_NB194_192, Q_NB192_194, Q_NB194_193, Q_NB193_194, Q_BK192, Q_GW192, Q_GE192, Q_NB178_192, Q_NB192_178, Q_NB179_192, Q_NB192_179, Q_NB180_192, Q_NB192_180, Q_NB181_192, Q_NB192_181, Q_BK193, Q_GW193, Q_GE193, Q_NB178_193, Q_NB193_178, Q_NB179_193, Q_NB193_179, Q_NB180_193, Q_NB193_180, Q_NB181_193, Q_NB193_181, Q_BK194, Q_GW194, Q_GE194, Q_NB178_194, Q_NB194_178, Q_NB179_194, Q_NB194_179, Q_NB180_194, Q_NB194_180, Q_NB181_194, Q_NB194_181, fun h0_ => absurd ((hoff 12 (by kernel_rfl)).symm.trans h0_) (by decide), fun h0_ => absurd ((hoff 13 (by kernel_rfl)).symm.trans h0_) (by decide), fun h0_ => absurd ((hoff 14 (by kernel_rfl)).symm.trans h0_) (by decide), Q_X9_, Q_X10_, Q_X11_⟩
   refine steps_cons ?_ ?_
   ·rintro b a w' ⟨gb192, gb193, gb194, m9_, m10_, m11_, ha, Q_BK178, Q_BK179, Q_BK180, Q_BK181, Q_HB, Q_NB193_192, Q_NB192_193, Q_NB194_192, Q_NB192_194, Q_NB194_193, Q_NB193_194, Q_BK192, Q_GW192, Q_GE192, Q_NB178_192, Q_NB192_178, Q_NB179_192, Q_NB192_179, Q_NB180_192, Q_NB192_180, Q_NB181_192, Q_NB192_181, Q_BK193, Q_GW193, Q_GE193, Q_NB178_193, Q_NB193_178, Q_NB179_193, Q_NB193_179, Q_NB180_193, Q_NB193_180, Q_NB181_193, Q_NB193_181, Q_BK194, Q_GW194, Q_GE194, Q_NB178_194, Q_NB194_178, Q_NB179_194, Q_NB194_179, Q_NB180_194, Q_NB194_180, Q_NB181_194, Q_NB194_181, Q_BK192_e12, Q_BK193_e13, Q_BK194_e14, Q_X9_, Q_X10_, Q_X11_⟩ hb_ hon hoff
    refine ⟨_, rfl, fun K hK => ?_⟩
    have e6 : a.tmps[6]? = some (.pointer (some ⟨gb180, 0, none⟩)) := by rw [ha]; exact (putSel_off rfl).trans rfl
    replace ha := Aside0.mk ha
    have BK178 := Aside0.mk Q_BK178
    have BK179 := Aside0.mk Q_BK179
    have BK180 := Aside0.mk Q_BK180
    have BK181 := Aside0.mk Q_BK181
    have HB := Aside0.mk Q_HB
    have hc0_ : w'.cell? ⟨gb180, 0, none⟩ = some (.int .i64 a2_0) := (blk_cell BK180.out 0).trans rfl
    have hc1_ : w'.cell? ⟨gb180, 1, none⟩ = some (.int .i64 a2_1) := (blk_cell BK180.out 1).trans rfl
    refine value_ (w1 := w') (v := .agg #[.int .i64 a2_0, .int .i64 a2_1]) (by rfl) rfl ?_ ?_
    ·go_simp
     (try simp only [i64_w])
     try rfl
    refine hK.out _ _ ⟨gb192, gb193, gb194, m9_, m10_, m11_, (by rw [ha.out]; exact putSel_upk 7 hb_ rfl rfl rfl), Q_BK178, Q_BK179, Q_BK180, Q_BK181, Q_HB, Q_NB193_192, Q_NB192_193, Q_NB194_192, Q_NB192_194, Q_NB194_193, Q_NB193_194, Q_BK192, Q_GW192, Q_GE192, Q_NB178_192, Q_NB192_178, Q_NB179_192, Q_NB192_179, Q_NB180_192, Q_NB192_180, Q_NB181_192, Q_NB192_181, Q_BK193, Q_GW193, Q_GE193, Q_NB178_193, Q_NB193_178, Q_NB179_193, Q_NB193_179, Q_NB180_193, Q_NB193_180, Q_NB181_193, Q_NB193_181, Q_BK194, Q_GW194, Q_GE194, Q_NB178_194, Q_NB194_178, Q_NB179_194, Q_NB194_179, Q_NB180_194, Q_NB194_180, Q_NB181_194, Q_NB194_181, fun h0_ => absurd ((hoff 12 (by kernel_rfl)).symm.trans h0_) (by decide), fun h0_ => absurd ((hoff 13 (by kernel_rfl)).symm.trans h0_) (by decide), fun h0_ => absurd ((hoff 14 (by kernel_rfl)).symm.trans h0_) (by decide), Q_X9_, Q_X10_, Q_X11_⟩
   refine steps_cons ?_ ?_
   ·rintro b a w' ⟨gb192, gb193, gb194, m9_, m10_, m11_, ha, Q_BK178, Q_BK179, Q_BK180, Q_BK181, Q_HB, Q_NB193_192, Q_NB192_193, Q_NB194_192, Q_NB192_194, Q_NB194_193, Q_NB193_194, Q_BK192, Q_GW192, Q_GE192, Q_NB178_192, Q_NB192_178, Q_NB179_192, Q_NB192_179, Q_NB180_192, Q_NB192_180, Q_NB181_192, Q_NB192_181, Q_BK193, Q_GW193, Q_GE193, Q_NB178_193, Q_NB193_178, Q_NB179_193, Q_NB193_179, Q_NB180_193, Q_NB193_180, Q_NB181_193, Q_NB193_181, Q_BK194, Q_GW194, Q_GE194, Q_NB178_194, Q_NB194_178, Q_NB179_194, Q_NB194_179, Q_NB180_194, Q_NB194_180, Q_NB181_194, Q_NB194_181, Q_BK192_e12, Q_BK193_e13, Q_BK194_e14, Q_X9_, Q_X10_, Q_X11_⟩ hb_ hon hoff
    refine ⟨_, rfl, fun K hK => ?_⟩
    have e26 : a.tmps[26]? = some (.agg #[.int .i64 a3_0, .int .i64 a3_1]) := by rw [ha]; exact putSel_on (e := (6, 26, .agg #[.int .i64 a3_0, .int .i64 a3_1])) 6 rfl rfl (hon 6 (by kernel_rfl)) rfl
    have e27 : a.tmps[27]? = some (.agg #[.int .i64 a2_0, .int .i64 a2_1]) := by rw [ha]; exact putSel_on (e := (7, 27, .agg #[.int .i64 a2_0, .int .i64 a2_1])) 7 rfl rfl (hon 7 (by kernel_rfl)) rfl
    replace ha := Aside0.mk ha
    have BK178 := Aside0.mk Q_BK178
    have BK179 := Aside0.mk Q_BK179
    have BK180 := Aside0.mk Q_BK180
    have BK181 := Aside0.mk Q_BK181
    have HB := Aside0.mk Q_HB
    refine goes_ Try.func42 (by kernel_rfl) rfl #[.agg #[.int .i64 a3_0, .int .i64 a3_1], .agg #[.int .i64 a2_0, .int .i64 a2_1]] (by rfl) rfl rfl (by first | (simp only [List.map_toArray, List.map_cons, List.map_nil, Act.eval, Array.getD_eq_getD_getElem?, Option.getD_some, e26, e27]; done) | (simp only [List.map_toArray, List.map_cons, List.map_nil, Act.eval, Array.getD_eq_getD_getElem?, Option.getD_some, e26, e27]; rfl)) ?_
    with_reducible refine (pred_way.calls a3_0 a3_1 a2_0 a2_1 t190 t191 _ A9.out).mono ?_
    rintro e w44 ⟨rfl, hb⟩
    refine ⟨_, rfl, ?_⟩
    have n0_ := u1 BK178 hb
    have n1_ := u1 BK179 hb
    have n2_ := u1 BK180 hb
    have n3_ := u1 BK181 hb
    have n4_ := Aside0.mk (below_step (bw HB.out) hb)
    have z_BK192 := fun (h0_ : b 9 = true) (h1_ : b 12 = false) => (show w44.heap[gb192]? = some (.cells #[.int .i64 0, .int .i64 0] 23 (0, 0)) from by first | exact (blk_below (g := gb192) (o := .cells #[.int .i64 0, .int .i64 0] 23 (0, 0)) (bk (Q_BK192 h0_ h1_)) hb))
    have z_BK193 := fun (h0_ : b 10 = true) (h1_ : b 13 = false) => (show w44.heap[gb193]? = some (.cells #[.int .i64 0, .int .i64 0] 23 (0, 0)) from by first | exact (blk_below (g := gb193) (o := .cells #[.int .i64 0, .int .i64 0] 23 (0, 0)) (bk (Q_BK193 h0_ h1_)) hb))
    have z_BK194 := fun (h0_ : b 11 = true) (h1_ : b 14 = false) => (show w44.heap[gb194]? = some (.cells #[.int .i64 0, .int .i64 0] 23 (0, 0)) from by first | exact (blk_below (g := gb194) (o := .cells #[.int .i64 0, .int .i64 0] 23 (0, 0)) (bk (Q_BK194 h0_ h1_)) hb))
    clear BK178
    clear BK179
    clear BK180
    clear BK181
    clear HB
    have BK178 := n0_
    have BK179 := n1_
    have BK180 := n2_
    have BK181 := n3_
    have HB := n4_
    clear n0_ n1_ n2_ n3_ n4_
    (try clear hb)
    (try clear hb2)
    (try clear hk)
    (try clear hi)
    refine hK.out _ _ ⟨gb192, gb193, gb194, m9_, m10_, m11_, (by rw [ha.out]; exact putSel_upk 8 hb_ rfl rfl rfl), (bk BK178.out), (bk BK179.out), (bk BK180.out), (bk BK181.out), (bw HB.out), Q_NB193_192, Q_NB192_193, Q_NB194_192, Q_NB192_194, Q_NB194_193, Q_NB193_194, z_BK192, Q_GW192, Q_GE192, Q_NB178_192, Q_NB192_178, Q_NB179_192, Q_NB192_179, Q_NB180_192, Q_NB192_180, Q_NB181_192, Q_NB192_181, z_BK193, Q_GW193, Q_GE193, Q_NB178_193, Q_NB193_178, Q_NB179_193, Q_NB193_179, Q_NB180_193, Q_NB193_180, Q_NB181_193, Q_NB193_181, z_BK194, Q_GW194, Q_GE194, Q_NB178_194, Q_NB194_178, Q_NB179_194, Q_NB194_179, Q_NB180_194, Q_NB194_180, Q_NB181_194, Q_NB194_181, fun h0_ => absurd ((hoff 12 (by kernel_rfl)).symm.trans h0_) (by decide), fun h0_ => absurd ((hoff 13 (by kernel_rfl)).symm.trans h0_) (by decide), fun h0_ => absurd ((hoff 14 (by kernel_rfl)).symm.trans h0_) (by decide), Q_X9_, Q_X10_, Q_X11_⟩
   refine steps_cons ?_ ?_
   ·rintro b a w' ⟨gb192, gb193, gb194, m9_, m10_, m11_, ha, Q_BK178, Q_BK179, Q_BK180, Q_BK181, Q_HB, Q_NB193_192, Q_NB192_193, Q_NB194_192, Q_NB192_194, Q_NB194_193, Q_NB193_194, Q_BK192, Q_GW192, Q_GE192, Q_NB178_192, Q_NB192_178, Q_NB179_192, Q_NB192_179, Q_NB180_192, Q_NB192_180, Q_NB181_192, Q_NB192_181, Q_BK193, Q_GW193, Q_GE193, Q_NB178_193, Q_NB193_178, Q_NB179_193, Q_NB193_179, Q_NB180_193, Q_NB193_180, Q_NB181_193, Q_NB193_181, Q_BK194, Q_GW194, Q_GE194, Q_NB178_194, Q_NB194_178, Q_NB179_194, Q_NB194_179, Q_NB180_194, Q_NB194_180, Q_NB181_194, Q_NB194_181, Q_BK192_e12, Q_BK193_e13, Q_BK194_e14, Q_X9_, Q_X10_, Q_X11_⟩ hb_ hon hoff
    refine ⟨_, rfl, fun K hK => ?_⟩
    replace ha := Aside0.mk ha
    have BK178 := Aside0.mk Q_BK178
    have BK179 := Aside0.mk Q_BK179
    have BK180 := Aside0.mk Q_BK180
    have BK181 := Aside0.mk Q_BK181
    have HB := Aside0.mk Q_HB
    refine box_step ?hg (N := 9) ?hd (cs := #[.int .i64 0, .int .i64 0]) (t := 23) ?hr ?_; (case hd => rfl); (case hg => rfl); (case hr => first | (go_simp; done) | (go_simp; rfl))
    intro gb192 hg w41 hbox hb
    have n0_ := u1 BK178 hb
    have n1_ := u1 BK179 hb
    have n2_ := u1 BK180 hb
    have n3_ := u1 BK181 hb
    have n4_ := Aside0.mk (below_step (bw HB.out) hb)
    have n5_ := Aside0.mk (hbox)
    have n6_ := Aside0.mk ((by rw [hg]; exact (below_size (bw HB.out)) : w.heap.size ≤ gb192))
    have n7_ := Aside0.mk ((by rw [hg]; exact (below_size (bw HB.out)) : w.heap.size ≤ gb192))
    have n8_ := Aside0.mk ((by rw [hg]; exact Nat.ne_of_lt (blk_lt (bk BK178.out)) : gb178 ≠ gb192))
    have n9_ := Aside0.mk ((by rw [hg]; exact Nat.ne_of_gt (blk_lt (bk BK178.out)) : gb192 ≠ gb178))
    have n10_ := Aside0.mk ((by rw [hg]; exact Nat.ne_of_lt (blk_lt (bk BK179.out)) : gb179 ≠ gb192))
    have n11_ := Aside0.mk ((by rw [hg]; exact Nat.ne_of_gt (blk_lt (bk BK179.out)) : gb192 ≠ gb179))
    have n12_ := Aside0.mk ((by rw [hg]; exact Nat.ne_of_lt (blk_lt (bk BK180.out)) : gb180 ≠ gb192))
    have n13_ := Aside0.mk ((by rw [hg]; exact Nat.ne_of_gt (blk_lt (bk BK180.out)) : gb192 ≠ gb180))
    have n14_ := Aside0.mk ((by rw [hg]; exact Nat.ne_of_lt (blk_lt (bk BK181.out)) : gb181 ≠ gb192))
    have n15_ := Aside0.mk ((by rw [hg]; exact Nat.ne_of_gt (blk_lt (bk BK181.out)) : gb192 ≠ gb181))
    have z_NB193_192 := fun (h0_ : up b 9 9 = true) (h1_ : up b 9 10 = true) => (show gb193 ≠ gb192 from ((by rw [hg]; exact Nat.ne_of_lt (blk_lt (g := gb193) (o := .cells #[.int .i64 0, .int .i64 0] 23 (0, 0)) (by (with_reducible repeat (first | refine blk_drewN ?_ _ | refine blk_drew ?_ | refine blk_alloc ?_ _)); exact (Q_BK193 ((up_ne (by decide : 10 ≠ 9)).symm.trans h1_) (hoff 13 (by kernel_rfl))))) : gb193 ≠ gb192)))
    have z_NB192_193 := fun (h0_ : up b 9 9 = true) (h1_ : up b 9 10 = true) => (show gb192 ≠ gb193 from ((by rw [hg]; exact Nat.ne_of_gt (blk_lt (g := gb193) (o := .cells #[.int .i64 0, .int .i64 0] 23 (0, 0)) (by (with_reducible repeat (first | refine blk_drewN ?_ _ | refine blk_drew ?_ | refine blk_alloc ?_ _)); exact (Q_BK193 ((up_ne (by decide : 10 ≠ 9)).symm.trans h1_) (hoff 13 (by kernel_rfl))))) : gb192 ≠ gb193)))
    have z_NB194_192 := fun (h0_ : up b 9 9 = true) (h1_ : up b 9 11 = true) => (show gb194 ≠ gb192 from ((by rw [hg]; exact Nat.ne_of_lt (blk_lt (g := gb194) (o := .cells #[.int .i64 0, .int .i64 0] 23 (0, 0)) (by (with_reducible repeat (first | refine blk_drewN ?_ _ | refine blk_drew ?_ | refine blk_alloc ?_ _)); exact (Q_BK194 ((up_ne (by decide : 11 ≠ 9)).symm.trans h1_) (hoff 14 (by kernel_rfl))))) : gb194 ≠ gb192)))
    have z_NB192_194 := fun (h0_ : up b 9 9 = true) (h1_ : up b 9 11 = true) => (show gb192 ≠ gb194 from ((by rw [hg]; exact Nat.ne_of_gt (blk_lt (g := gb194) (o := .cells #[.int .i64 0, .int .i64 0] 23 (0, 0)) (by (with_reducible repeat (first | refine blk_drewN ?_ _ | refine blk_drew ?_ | refine blk_alloc ?_ _)); exact (Q_BK194 ((up_ne (by decide : 11 ≠ 9)).symm.trans h1_) (hoff 14 (by kernel_rfl))))) : gb192 ≠ gb194)))
    have z_BK193 := fun (h0_ : b 10 = true) (h1_ : b 13 = false) => (show w41.heap[gb193]? = some (.cells #[.int .i64 0, .int .i64 0] 23 (0, 0)) from by first | exact (blk_below (g := gb193) (o := .cells #[.int .i64 0, .int .i64 0] 23 (0, 0)) (bk (Q_BK193 h0_ h1_)) hb))
    have z_BK194 := fun (h0_ : b 11 = true) (h1_ : b 14 = false) => (show w41.heap[gb194]? = some (.cells #[.int .i64 0, .int .i64 0] 23 (0, 0)) from by first | exact (blk_below (g := gb194) (o := .cells #[.int .i64 0, .int .i64 0] 23 (0, 0)) (bk (Q_BK194 h0_ h1_)) hb))
    clear BK178
    clear BK179
    clear BK180
    clear BK181
    clear HB
    have BK178 := n0_
    have BK179 := n1_
    have BK180 := n2_
    have BK181 := n3_
    have HB := n4_
    have BK192 := n5_
    have GW192 := n6_
    have GE192 := n7_
    have NB178_192 := n8_
    have NB192_178 := n9_
    have NB179_192 := n10_
    have NB192_179 := n11_
    have NB180_192 := n12_
    have NB192_180 := n13_
    have NB181_192 := n14_
    have NB192_181 := n15_
    clear n0_ n1_ n2_ n3_ n4_ n5_ n6_ n7_ n8_ n9_ n10_ n11_ n12_ n13_ n14_ n15_
    clear hb hbox hg
    refine hK.out _ _ ⟨gb192, gb193, gb194, (.pointer (some ⟨gb192, 0, none⟩)), m10_, m11_, (by rw [ha.out]; exact putSel_upk 9 hb_ rfl rfl rfl), (bk BK178.out), (bk BK179.out), (bk BK180.out), (bk BK181.out), (bw HB.out), @z_NB193_192, @z_NB192_193, @z_NB194_192, @z_NB192_194, Q_NB194_193, Q_NB193_194, fun _ _ => (bk BK192.out), fun _ => GW192.out, fun _ => GE192.out, fun _ => NB178_192.out, fun _ => NB192_178.out, fun _ => NB179_192.out, fun _ => NB192_179.out, fun _ => NB180_192.out, fun _ => NB192_180.out, fun _ => NB181_192.out, fun _ => NB192_181.out, z_BK193, Q_GW193, Q_GE193, Q_NB178_193, Q_NB193_178, Q_NB179_193, Q_NB193_179, Q_NB180_193, Q_NB193_180, Q_NB181_193, Q_NB193_181, z_BK194, Q_GW194, Q_GE194, Q_NB178_194, Q_NB194_178, Q_NB179_194, Q_NB194_179, Q_NB180_194, Q_NB194_180, Q_NB181_194, Q_NB194_181, fun h0_ => absurd ((hoff 12 (by kernel_rfl)).symm.trans h0_) (by decide), fun h0_ => absurd ((hoff 13 (by kernel_rfl)).symm.trans h0_) (by decide), fun h0_ => absurd ((hoff 14 (by kernel_rfl)).symm.trans h0_) (by decide), fun _ => rfl, Q_X10_, Q_X11_⟩
   refine steps_cons ?_ ?_
   ·rintro b a w' ⟨gb192, gb193, gb194, m9_, m10_, m11_, ha, Q_BK178, Q_BK179, Q_BK180, Q_BK181, Q_HB, Q_NB193_192, Q_NB192_193, Q_NB194_192, Q_NB192_194, Q_NB194_193, Q_NB193_194, Q_BK192, Q_GW192, Q_GE192, Q_NB178_192, Q_NB192_178, Q_NB179_192, Q_NB192_179, Q_NB180_192, Q_NB192_180, Q_NB181_192, Q_NB192_181, Q_BK193, Q_GW193, Q_GE193, Q_NB178_193, Q_NB193_178, Q_NB179_193, Q_NB193_179, Q_NB180_193, Q_NB193_180, Q_NB181_193, Q_NB193_181, Q_BK194, Q_GW194, Q_GE194, Q_NB178_194, Q_NB194_178, Q_NB179_194, Q_NB194_179, Q_NB180_194, Q_NB194_180, Q_NB181_194, Q_NB194_181, Q_BK192_e12, Q_BK193_e13, Q_BK194_e14, Q_X9_, Q_X10_, Q_X11_⟩ hb_ hon hoff
    refine ⟨_, rfl, fun K hK => ?_⟩
    replace ha := Aside0.mk ha
    have BK178 := Aside0.mk Q_BK178
    have BK179 := Aside0.mk Q_BK179
    have BK180 := Aside0.mk Q_BK180
    have BK181 := Aside0.mk Q_BK181
    have HB := Aside0.mk Q_HB
    refine box_step ?hg (N := 10) ?hd (cs := #[.int .i64 0, .int .i64 0]) (t := 23) ?hr ?_; (case hd => rfl); (case hg => rfl); (case hr => first | (go_simp; done) | (go_simp; rfl))
    intro gb193 hg w41 hbox hb
    have n0_ := u1 BK178 hb
    have n1_ := u1 BK179 hb
    have n2_ := u1 BK180 hb
    have n3_ := u1 BK181 hb
    have n4_ := Aside0.mk (below_step (bw HB.out) hb)
    have n5_ := Aside0.mk (hbox)
    have n6_ := Aside0.mk ((by rw [hg]; exact (below_size (bw HB.out)) : w.heap.size ≤ gb193))
    have n7_ := Aside0.mk ((by rw [hg]; exact (below_size (bw HB.out)) : w.heap.size ≤ gb193))
    have n8_ := Aside0.mk ((by rw [hg]; exact Nat.ne_of_lt (blk_lt (bk BK178.out)) : gb178 ≠ gb193))
    have n9_ := Aside0.mk ((by rw [hg]; exact Nat.ne_of_gt (blk_lt (bk BK178.out)) : gb193 ≠ gb178))
    have n10_ := Aside0.mk ((by rw [hg]; exact Nat.ne_of_lt (blk_lt (bk BK179.out)) : gb179 ≠ gb193))
    have n11_ := Aside0.mk ((by rw [hg]; exact Nat.ne_of_gt (blk_lt (bk BK179.out)) : gb193 ≠ gb179))
    have n12_ := Aside0.mk ((by rw [hg]; exact Nat.ne_of_lt (blk_lt (bk BK180.out)) : gb180 ≠ gb193))
    have n13_ := Aside0.mk ((by rw [hg]; exact Nat.ne_of_gt (blk_lt (bk BK180.out)) : gb193 ≠ gb180))
    have n14_ := Aside0.mk ((by rw [hg]; exact Nat.ne_of_lt (blk_lt (bk BK181.out)) : gb181 ≠ gb193))
    have n15_ := Aside0.mk ((by rw [hg]; exact Nat.ne_of_gt (blk_lt (bk BK181.out)) : gb193 ≠ gb181))
    have z_NB193_192 := fun (h0_ : up b 10 9 = true) (h1_ : up b 10 10 = true) => (show gb193 ≠ gb192 from ((by rw [hg]; exact Nat.ne_of_gt (blk_lt (g := gb192) (o := .cells #[.int .i64 0, .int .i64 0] 23 (0, 0)) (by (with_reducible repeat (first | refine blk_drewN ?_ _ | refine blk_drew ?_ | refine blk_alloc ?_ _)); exact (Q_BK192 ((up_ne (by decide : 9 ≠ 10)).symm.trans h0_) (hoff 12 (by kernel_rfl))))) : gb193 ≠ gb192)))
    have z_NB192_193 := fun (h0_ : up b 10 9 = true) (h1_ : up b 10 10 = true) => (show gb192 ≠ gb193 from ((by rw [hg]; exact Nat.ne_of_lt (blk_lt (g := gb192) (o := .cells #[.int .i64 0, .int .i64 0] 23 (0, 0)) (by (with_reducible repeat (first | refine blk_drewN ?_ _ | refine blk_drew ?_ | refine blk_alloc ?_ _)); exact (Q_BK192 ((up_ne (by decide : 9 ≠ 10)).symm.trans h0_) (hoff 12 (by kernel_rfl))))) : gb192 ≠ gb193)))
    have z_NB194_193 := fun (h0_ : up b 10 10 = true) (h1_ : up b 10 11 = true) => (show gb194 ≠ gb193 from ((by rw [hg]; exact Nat.ne_of_lt (blk_lt (g := gb194) (o := .cells #[.int .i64 0, .int .i64 0] 23 (0, 0)) (by (with_reducible repeat (first | refine blk_drewN ?_ _ | refine blk_drew ?_ | refine blk_alloc ?_ _)); exact (Q_BK194 ((up_ne (by decide : 11 ≠ 10)).symm.trans h1_) (hoff 14 (by kernel_rfl))))) : gb194 ≠ gb193)))
    have z_NB193_194 := fun (h0_ : up b 10 10 = true) (h1_ : up b 10 11 = true) => (show gb193 ≠ gb194 from ((by rw [hg]; exact Nat.ne_of_gt (blk_lt (g := gb194) (o := .cells #[.int .i64 0, .int .i64 0] 23 (0, 0)) (by (with_reducible repeat (first | refine blk_drewN ?_ _ | refine blk_drew ?_ | refine blk_alloc ?_ _)); exact (Q_BK194 ((up_ne (by decide : 11 ≠ 10)).symm.trans h1_) (hoff 14 (by kernel_rfl))))) : gb193 ≠ gb194)))
    have z_BK192 := fun (h0_ : b 9 = true) (h1_ : b 12 = false) => (show w41.heap[gb192]? = some (.cells #[.int .i64 0, .int .i64 0] 23 (0, 0)) from by first | exact (blk_below (g := gb192) (o := .cells #[.int .i64 0, .int .i64 0] 23 (0, 0)) (bk (Q_BK192 h0_ h1_)) hb))
    have z_BK194 := fun (h0_ : b 11 = true) (h1_ : b 14 = false) => (show w41.heap[gb194]? = some (.cells #[.int .i64 0, .int .i64 0] 23 (0, 0)) from by first | exact (blk_below (g := gb194) (o := .cells #[.int .i64 0, .int .i64 0] 23 (0, 0)) (bk (Q_BK194 h0_ h1_)) hb))
    clear BK178
    clear BK179
    clear BK180
    clear BK181
    clear HB
    have BK178 := n0_
    have BK179 := n1_
    have BK180 := n2_
    have BK181 := n3_
    have HB := n4_
    have BK193 := n5_
    have GW193 := n6_
    have GE193 := n7_
    have NB178_193 := n8_
    have NB193_178 := n9_
    have NB179_193 := n10_
    have NB193_179 := n11_
    have NB180_193 := n12_
    have NB193_180 := n13_
    have NB181_193 := n14_
    have NB193_181 := n15_
    clear n0_ n1_ n2_ n3_ n4_ n5_ n6_ n7_ n8_ n9_ n10_ n11_ n12_ n13_ n14_ n15_
    clear hb hbox hg
    refine hK.out _ _ ⟨gb192, gb193, gb194, m9_, (.pointer (some ⟨gb193, 0, none⟩)), m11_, (by rw [ha.out]; exact putSel_upk 10 hb_ rfl rfl rfl), (bk BK178.out), (bk BK179.out), (bk BK180.out), (bk BK181.out), (bw HB.out), @z_NB193_192, @z_NB192_193, Q_NB194_192, Q_NB192_194, @z_NB194_193, @z_NB193_194, z_BK192, Q_GW192, Q_GE192, Q_NB178_192, Q_NB192_178, Q_NB179_192, Q_NB192_179, Q_NB180_192, Q_NB192_180, Q_NB181_192, Q_NB192_181, fun _ _ => (bk BK193.out), fun _ => GW193.out, fun _ => GE193.out, fun _ => NB178_193.out, fun _ => NB193_178.out, fun _ => NB179_193.out, fun _ => NB193_179.out, fun _ => NB180_193.out, fun _ => NB193_180.out, fun _ => NB181_193.out, fun _ => NB193_181.out, z_BK194, Q_GW194, Q_GE194, Q_NB178_194, Q_NB194_178, Q_NB179_194, Q_NB194_179, Q_NB180_194, Q_NB194_180, Q_NB181_194, Q_NB194_181, fun h0_ => absurd ((hoff 12 (by kernel_rfl)).symm.trans h0_) (by decide), fun h0_ => absurd ((hoff 13 (by kernel_rfl)).symm.trans h0_) (by decide), fun h0_ => absurd ((hoff 14 (by kernel_rfl)).symm.trans h0_) (by decide), Q_X9_, fun _ => rfl, Q_X11_⟩
   refine steps_cons ?_ ?_
   ·rintro b a w' ⟨gb192, gb193, gb194, m9_, m10_, m11_, ha, Q_BK178, Q_BK179, Q_BK180, Q_BK181, Q_HB, Q_NB193_192, Q_NB192_193, Q_NB194_192, Q_NB192_194, Q_NB194_193, Q_NB193_194, Q_BK192, Q_GW192, Q_GE192, Q_NB178_192, Q_NB192_178, Q_NB179_192, Q_NB192_179, Q_NB180_192, Q_NB192_180, Q_NB181_192, Q_NB192_181, Q_BK193, Q_GW193, Q_GE193, Q_NB178_193, Q_NB193_178, Q_NB179_193, Q_NB193_179, Q_NB180_193, Q_NB193_180, Q_NB181_193, Q_NB193_181, Q_BK194, Q_GW194, Q_GE194, Q_NB178_194, Q_NB194_178, Q_NB179_194, Q_NB194_179, Q_NB180_194, Q_NB194_180, Q_NB181_194, Q_NB194_181, Q_BK192_e12, Q_BK193_e13, Q_BK194_e14, Q_X9_, Q_X10_, Q_X11_⟩ hb_ hon hoff
    refine ⟨_, rfl, fun K hK => ?_⟩
    replace ha := Aside0.mk ha
    have BK178 := Aside0.mk Q_BK178
    have BK179 := Aside0.mk Q_BK179
    have BK180 := Aside0.mk Q_BK180
    have BK181 := Aside0.mk Q_BK181
    have HB := Aside0.mk Q_HB
    refine box_step ?hg (N := 11) ?hd (cs := #[.int .i64 0, .int .i64 0]) (t := 23) ?hr ?_; (case hd => rfl); (case hg => rfl); (case hr => first | (go_simp; done) | (go_simp; rfl))
    intro gb194 hg w41 hbox hb
    have n0_ := u1 BK178 hb
    have n1_ := u1 BK179 hb
    have n2_ := u1 BK180 hb
    have n3_ := u1 BK181 hb
    have n4_ := Aside0.mk (below_step (bw HB.out) hb)
    have n5_ := Aside0.mk (hbox)
    have n6_ := Aside0.mk ((by rw [hg]; exact (below_size (bw HB.out)) : w.heap.size ≤ gb194))
    have n7_ := Aside0.mk ((by rw [hg]; exact (below_size (bw HB.out)) : w.heap.size ≤ gb194))
    have n8_ := Aside0.mk ((by rw [hg]; exact Nat.ne_of_lt (blk_lt (bk BK178.out)) : gb178 ≠ gb194))
    have n9_ := Aside0.mk ((by rw [hg]; exact Nat.ne_of_gt (blk_lt (bk BK178.out)) : gb194 ≠ gb178))
    have n10_ := Aside0.mk ((by rw [hg]; exact Nat.ne_of_lt (blk_lt (bk BK179.out)) : gb179 ≠ gb194))
    have n11_ := Aside0.mk ((by rw [hg]; exact Nat.ne_of_gt (blk_lt (bk BK179.out)) : gb194 ≠ gb179))
    have n12_ := Aside0.mk ((by rw [hg]; exact Nat.ne_of_lt (blk_lt (bk BK180.out)) : gb180 ≠ gb194))
    have n13_ := Aside0.mk ((by rw [hg]; exact Nat.ne_of_gt (blk_lt (bk BK180.out)) : gb194 ≠ gb180))
    have n14_ := Aside0.mk ((by rw [hg]; exact Nat.ne_of_lt (blk_lt (bk BK181.out)) : gb181 ≠ gb194))
    have n15_ := Aside0.mk ((by rw [hg]; exact Nat.ne_of_gt (blk_lt (bk BK181.out)) : gb194 ≠ gb181))
    have z_NB194_192 := fun (h0_ : up b 11 9 = true) (h1_ : up b 11 11 = true) => (show gb194 ≠ gb192 from ((by rw [hg]; exact Nat.ne_of_gt (blk_lt (g := gb192) (o := .cells #[.int .i64 0, .int .i64 0] 23 (0, 0)) (by (with_reducible repeat (first | refine blk_drewN ?_ _ | refine blk_drew ?_ | refine blk_alloc ?_ _)); exact (Q_BK192 ((up_ne (by decide : 9 ≠ 11)).symm.trans h0_) (hoff 12 (by kernel_rfl))))) : gb194 ≠ gb192)))
    have z_NB192_194 := fun (h0_ : up b 11 9 = true) (h1_ : up b 11 11 = true) => (show gb192 ≠ gb194 from ((by rw [hg]; exact Nat.ne_of_lt (blk_lt (g := gb192) (o := .cells #[.int .i64 0, .int .i64 0] 23 (0, 0)) (by (with_reducible repeat (first | refine blk_drewN ?_ _ | refine blk_drew ?_ | refine blk_alloc ?_ _)); exact (Q_BK192 ((up_ne (by decide : 9 ≠ 11)).symm.trans h0_) (hoff 12 (by kernel_rfl))))) : gb192 ≠ gb194)))
    have z_NB194_193 := fun (h0_ : up b 11 10 = true) (h1_ : up b 11 11 = true) => (show gb194 ≠ gb193 from ((by rw [hg]; exact Nat.ne_of_gt (blk_lt (g := gb193) (o := .cells #[.int .i64 0, .int .i64 0] 23 (0, 0)) (by (with_reducible repeat (first | refine blk_drewN ?_ _ | refine blk_drew ?_ | refine blk_alloc ?_ _)); exact (Q_BK193 ((up_ne (by decide : 10 ≠ 11)).symm.trans h0_) (hoff 13 (by kernel_rfl))))) : gb194 ≠ gb193)))
    have z_NB193_194 := fun (h0_ : up b 11 10 = true) (h1_ : up b 11 11 = true) => (show gb193 ≠ gb194 from ((by rw [hg]; exact Nat.ne_of_lt (blk_lt (g := gb193) (o := .cells #[.int .i64 0, .int .i64 0] 23 (0, 0)) (by (with_reducible repeat (first | refine blk_drewN ?_ _ | refine blk_drew ?_ | refine blk_alloc ?_ _)); exact (Q_BK193 ((up_ne (by decide : 10 ≠ 11)).symm.trans h0_) (hoff 13 (by kernel_rfl))))) : gb193 ≠ gb194)))
    have z_BK192 := fun (h0_ : b 9 = true) (h1_ : b 12 = false) => (show w41.heap[gb192]? = some (.cells #[.int .i64 0, .int .i64 0] 23 (0, 0)) from by first | exact (blk_below (g := gb192) (o := .cells #[.int .i64 0, .int .i64 0] 23 (0, 0)) (bk (Q_BK192 h0_ h1_)) hb))
    have z_BK193 := fun (h0_ : b 10 = true) (h1_ : b 13 = false) => (show w41.heap[gb193]? = some (.cells #[.int .i64 0, .int .i64 0] 23 (0, 0)) from by first | exact (blk_below (g := gb193) (o := .cells #[.int .i64 0, .int .i64 0] 23 (0, 0)) (bk (Q_BK193 h0_ h1_)) hb))
    clear BK178
    clear BK179
    clear BK180
    clear BK181
    clear HB
    have BK178 := n0_
    have BK179 := n1_
    have BK180 := n2_
    have BK181 := n3_
    have HB := n4_
    have BK194 := n5_
    have GW194 := n6_
    have GE194 := n7_
    have NB178_194 := n8_
    have NB194_178 := n9_
    have NB179_194 := n10_
    have NB194_179 := n11_
    have NB180_194 := n12_
    have NB194_180 := n13_
    have NB181_194 := n14_
    have NB194_181 := n15_
    clear n0_ n1_ n2_ n3_ n4_ n5_ n6_ n7_ n8_ n9_ n10_ n11_ n12_ n13_ n14_ n15_
    clear hb hbox hg
    refine hK.out _ _ ⟨gb192, gb193, gb194, m9_, m10_, (.pointer (some ⟨gb194, 0, none⟩)), (by rw [ha.out]; exact putSel_upk 11 hb_ rfl rfl rfl), (bk BK178.out), (bk BK179.out), (bk BK180.out), (bk BK181.out), (bw HB.out), Q_NB193_192, Q_NB192_193, @z_NB194_192, @z_NB192_194, @z_NB194_193, @z_NB193_194, z_BK192, Q_GW192, Q_GE192, Q_NB178_192, Q_NB192_178, Q_NB179_192, Q_NB192_179, Q_NB180_192, Q_NB192_180, Q_NB181_192, Q_NB192_181, z_BK193, Q_GW193, Q_GE193, Q_NB178_193, Q_NB193_178, Q_NB179_193, Q_NB193_179, Q_NB180_193, Q_NB193_180, Q_NB181_193, Q_NB193_181, fun _ _ => (bk BK194.out), fun _ => GW194.out, fun _ => GE194.out, fun _ => NB178_194.out, fun _ => NB194_178.out, fun _ => NB179_194.out, fun _ => NB194_179.out, fun _ => NB180_194.out, fun _ => NB194_180.out, fun _ => NB181_194.out, fun _ => NB194_181.out, fun h0_ => absurd ((hoff 12 (by kernel_rfl)).symm.trans h0_) (by decide), fun h0_ => absurd ((hoff 13 (by kernel_rfl)).symm.trans h0_) (by decide), fun h0_ => absurd ((hoff 14 (by kernel_rfl)).symm.trans h0_) (by decide), Q_X9_, Q_X10_, fun _ => rfl⟩
   refine steps_cons ?_ ?_
   ·rintro b a w' ⟨gb192, gb193, gb194, m9_, m10_, m11_, ha, Q_BK178, Q_BK179, Q_BK180, Q_BK181, Q_HB, Q_NB193_192, Q_NB192_193, Q_NB194_192, Q_NB192_194, Q_NB194_193, Q_NB193_194, Q_BK192, Q_GW192, Q_GE192, Q_NB178_192, Q_NB192_178, Q_NB179_192, Q_NB192_179, Q_NB180_192, Q_NB192_180, Q_NB181_192, Q_NB192_181, Q_BK193, Q_GW193, Q_GE193, Q_NB178_193, Q_NB193_178, Q_NB179_193, Q_NB193_179, Q_NB180_193, Q_NB193_180, Q_NB181_193, Q_NB193_181, Q_BK194, Q_GW194, Q_GE194, Q_NB178_194, Q_NB194_178, Q_NB179_194, Q_NB194_179, Q_NB180_194, Q_NB194_180, Q_NB181_194, Q_NB194_181, Q_BK192_e12, Q_BK193_e13, Q_BK194_e14, Q_X9_, Q_X10_, Q_X11_⟩ hb_ hon hoff
    refine ⟨_, rfl, fun K hK => ?_⟩
    have e9 : a.tmps[9]? = some (m9_) := by rw [ha]; exact putSel_on (e := (9, 9, m9_)) 9 rfl rfl (hon 9 (by kernel_rfl)) rfl
    rw [Q_X9_ (hon 9 (by kernel_rfl))] at e9
    have e22 : a.tmps[22]? = some (.agg #[.int .i64 t186, .int .i64 t187]) := by rw [ha]; exact putSel_on (e := (2, 22, .agg #[.int .i64 t186, .int .i64 t187])) 2 rfl rfl (hon 2 (by kernel_rfl)) rfl
    replace ha := Aside0.mk ha
    have BK178 := Aside0.mk Q_BK178
    have BK179 := Aside0.mk Q_BK179
    have BK180 := Aside0.mk Q_BK180
    have BK181 := Aside0.mk Q_BK181
    have HB := Aside0.mk Q_HB
    have NB193_192 := Aside0.mk (Q_NB193_192 (hon 9 (by kernel_rfl)) (hon 10 (by kernel_rfl)))
    have NB192_193 := Aside0.mk (Q_NB192_193 (hon 9 (by kernel_rfl)) (hon 10 (by kernel_rfl)))
    have NB194_192 := Aside0.mk (Q_NB194_192 (hon 9 (by kernel_rfl)) (hon 11 (by kernel_rfl)))
    have NB192_194 := Aside0.mk (Q_NB192_194 (hon 9 (by kernel_rfl)) (hon 11 (by kernel_rfl)))
    have NB194_193 := Aside0.mk (Q_NB194_193 (hon 10 (by kernel_rfl)) (hon 11 (by kernel_rfl)))
    have NB193_194 := Aside0.mk (Q_NB193_194 (hon 10 (by kernel_rfl)) (hon 11 (by kernel_rfl)))
    have BK192 := Aside0.mk (Q_BK192 (hon 9 (by kernel_rfl)) hb_)
    have GW192 := Aside0.mk (Q_GW192 (hon 9 (by kernel_rfl)))
    have GE192 := Aside0.mk (Q_GE192 (hon 9 (by kernel_rfl)))
    have NB178_192 := Aside0.mk (Q_NB178_192 (hon 9 (by kernel_rfl)))
    have NB192_178 := Aside0.mk (Q_NB192_178 (hon 9 (by kernel_rfl)))
    have NB179_192 := Aside0.mk (Q_NB179_192 (hon 9 (by kernel_rfl)))
    have NB192_179 := Aside0.mk (Q_NB192_179 (hon 9 (by kernel_rfl)))
    have NB180_192 := Aside0.mk (Q_NB180_192 (hon 9 (by kernel_rfl)))
    have NB192_180 := Aside0.mk (Q_NB192_180 (hon 9 (by kernel_rfl)))
    have NB181_192 := Aside0.mk (Q_NB181_192 (hon 9 (by kernel_rfl)))
    have NB192_181 := Aside0.mk (Q_NB192_181 (hon 9 (by kernel_rfl)))
    have BK193 := Aside0.mk (Q_BK193 (hon 10 (by kernel_rfl)) (hoff 13 (by kernel_rfl)))
    have GW193 := Aside0.mk (Q_GW193 (hon 10 (by kernel_rfl)))
    have GE193 := Aside0.mk (Q_GE193 (hon 10 (by kernel_rfl)))
    have NB178_193 := Aside0.mk (Q_NB178_193 (hon 10 (by kernel_rfl)))
    have NB193_178 := Aside0.mk (Q_NB193_178 (hon 10 (by kernel_rfl)))
    have NB179_193 := Aside0.mk (Q_NB179_193 (hon 10 (by kernel_rfl)))
    have NB193_179 := Aside0.mk (Q_NB193_179 (hon 10 (by kernel_rfl)))
    have NB180_193 := Aside0.mk (Q_NB180_193 (hon 10 (by kernel_rfl)))
    have NB193_180 := Aside0.mk (Q_NB193_180 (hon 10 (by kernel_rfl)))
    have NB181_193 := Aside0.mk (Q_NB181_193 (hon 10 (by kernel_rfl)))
    have NB193_181 := Aside0.mk (Q_NB193_181 (hon 10 (by kernel_rfl)))
    have BK194 := Aside0.mk (Q_BK194 (hon 11 (by kernel_rfl)) (hoff 14 (by kernel_rfl)))
    have GW194 := Aside0.mk (Q_GW194 (hon 11 (by kernel_rfl)))
    have GE194 := Aside0.mk (Q_GE194 (hon 11 (by kernel_rfl)))
    have NB178_194 := Aside0.mk (Q_NB178_194 (hon 11 (by kernel_rfl)))
    have NB194_178 := Aside0.mk (Q_NB194_178 (hon 11 (by kernel_rfl)))
    have NB179_194 := Aside0.mk (Q_NB179_194 (hon 11 (by kernel_rfl)))
    have NB194_179 := Aside0.mk (Q_NB194_179 (hon 11 (by kernel_rfl)))
    have NB180_194 := Aside0.mk (Q_NB180_194 (hon 11 (by kernel_rfl)))
    have NB194_180 := Aside0.mk (Q_NB194_180 (hon 11 (by kernel_rfl)))
    have NB181_194 := Aside0.mk (Q_NB181_194 (hon 11 (by kernel_rfl)))
    have NB194_181 := Aside0.mk (Q_NB194_181 (hon 11 (by kernel_rfl)))
    have hs48 : w'.cell? ⟨gb192, 0, none⟩ = some (.int .i64 0) := (blk_cell BK192.out 0).trans rfl
    have hfs48 := blk_frozen BK192.out 0
    have hns48_0 := NB178_192.out
    have hns48_1 := NB179_192.out
    have hns48_2 := NB180_192.out
    have hns48_3 := NB181_192.out
    have hns48_5 := NB193_192.out
    have hns48_6 := NB194_192.out
    have hms48_0 := NB192_178.out
    have hms48_1 := NB192_179.out
    have hms48_2 := NB192_180.out
    have hms48_3 := NB192_181.out
    have hms48_5 := NB192_193.out
    have hms48_6 := NB192_194.out
    have hs49 : w'.cell? ⟨gb192, 1, none⟩ = some (.int .i64 0) := (blk_cell BK192.out 1).trans rfl
    have hfs49 := blk_frozen BK192.out 1
    have hns49_0 := NB178_192.out
    have hns49_1 := NB179_192.out
    have hns49_2 := NB180_192.out
    have hns49_3 := NB181_192.out
    have hns49_5 := NB193_192.out
    have hns49_6 := NB194_192.out
    have hms49_0 := NB192_178.out
    have hms49_1 := NB192_179.out
    have hms49_2 := NB192_180.out
    have hms49_3 := NB192_181.out
    have hms49_5 := NB192_193.out
    have hms49_6 := NB192_194.out
    refine skip_ (w1 := ?_) (by rfl) rfl ?_ ?_
    rotate_left
    ·go_simp
     rfl
    refine hK.out _ _ ⟨gb192, gb193, gb194, m9_, m10_, m11_, (by rw [ha.out]; exact putSel_none (v := undef) rfl), (by (with_reducible repeat (first | refine blk_drewN ?_ _ | refine blk_drew ?_ | refine blk_alloc ?_ _)); refine blk_far ?_ NB178_192.out _; (with_reducible repeat (first | refine blk_drewN ?_ _ | refine blk_drew ?_ | refine blk_alloc ?_ _)); refine blk_far ?_ NB178_192.out _; (with_reducible repeat (first | refine blk_drewN ?_ _ | refine blk_drew ?_ | refine blk_alloc ?_ _)); exact BK178.out), (by (with_reducible repeat (first | refine blk_drewN ?_ _ | refine blk_drew ?_ | refine blk_alloc ?_ _)); refine blk_far ?_ NB179_192.out _; (with_reducible repeat (first | refine blk_drewN ?_ _ | refine blk_drew ?_ | refine blk_alloc ?_ _)); refine blk_far ?_ NB179_192.out _; (with_reducible repeat (first | refine blk_drewN ?_ _ | refine blk_drew ?_ | refine blk_alloc ?_ _)); exact BK179.out), (by (with_reducible repeat (first | refine blk_drewN ?_ _ | refine blk_drew ?_ | refine blk_alloc ?_ _)); refine blk_far ?_ NB180_192.out _; (with_reducible repeat (first | refine blk_drewN ?_ _ | refine blk_drew ?_ | refine blk_alloc ?_ _)); refine blk_far ?_ NB180_192.out _; (with_reducible repeat (first | refine blk_drewN ?_ _ | refine blk_drew ?_ | refine blk_alloc ?_ _)); exact BK180.out), (by (with_reducible repeat (first | refine blk_drewN ?_ _ | refine blk_drew ?_ | refine blk_alloc ?_ _)); refine blk_far ?_ NB181_192.out _; (with_reducible repeat (first | refine blk_drewN ?_ _ | refine blk_drew ?_ | refine blk_alloc ?_ _)); refine blk_far ?_ NB181_192.out _; (with_reducible repeat (first | refine blk_drewN ?_ _ | refine blk_drew ?_ | refine blk_alloc ?_ _)); exact BK181.out), (by repeat (first | (with_reducible first | exact HB.out | apply below_alloc | apply pw_below_drewN | apply below_drew1 | refine below_set ?_ GE178.out | refine below_set ?_ GE179.out | refine below_set ?_ GE180.out | refine below_set ?_ GE181.out | refine below_set ?_ GE192.out | refine below_set ?_ GE193.out | refine below_set ?_ GE194.out) | exact HB.out)), fun _ _ => NB193_192.out, fun _ _ => NB192_193.out, fun _ _ => NB194_192.out, fun _ _ => NB192_194.out, fun _ _ => NB194_193.out, fun _ _ => NB193_194.out, fun _ h1_ => absurd ((up_self b 12).symm.trans h1_) (by decide), fun _ => GW192.out, fun _ => GE192.out, fun _ => NB178_192.out, fun _ => NB192_178.out, fun _ => NB179_192.out, fun _ => NB192_179.out, fun _ => NB180_192.out, fun _ => NB192_180.out, fun _ => NB181_192.out, fun _ => NB192_181.out, fun _ _ => (by (with_reducible repeat (first | refine blk_drewN ?_ _ | refine blk_drew ?_ | refine blk_alloc ?_ _)); refine blk_far ?_ NB193_192.out _; (with_reducible repeat (first | refine blk_drewN ?_ _ | refine blk_drew ?_ | refine blk_alloc ?_ _)); refine blk_far ?_ NB193_192.out _; (with_reducible repeat (first | refine blk_drewN ?_ _ | refine blk_drew ?_ | refine blk_alloc ?_ _)); exact BK193.out), fun _ => GW193.out, fun _ => GE193.out, fun _ => NB178_193.out, fun _ => NB193_178.out, fun _ => NB179_193.out, fun _ => NB193_179.out, fun _ => NB180_193.out, fun _ => NB193_180.out, fun _ => NB181_193.out, fun _ => NB193_181.out, fun _ _ => (by (with_reducible repeat (first | refine blk_drewN ?_ _ | refine blk_drew ?_ | refine blk_alloc ?_ _)); refine blk_far ?_ NB194_192.out _; (with_reducible repeat (first | refine blk_drewN ?_ _ | refine blk_drew ?_ | refine blk_alloc ?_ _)); refine blk_far ?_ NB194_192.out _; (with_reducible repeat (first | refine blk_drewN ?_ _ | refine blk_drew ?_ | refine blk_alloc ?_ _)); exact BK194.out), fun _ => GW194.out, fun _ => GE194.out, fun _ => NB178_194.out, fun _ => NB194_178.out, fun _ => NB179_194.out, fun _ => NB194_179.out, fun _ => NB180_194.out, fun _ => NB194_180.out, fun _ => NB181_194.out, fun _ => NB194_181.out, fun _ => (by (with_reducible repeat (first | refine blk_drewN ?_ _ | refine blk_drew ?_ | refine blk_alloc ?_ _)); refine blk_put (cs := #[.int .i64 t186, .int .i64 0]) ?_ 1 _ rfl; (with_reducible repeat (first | refine blk_drewN ?_ _ | refine blk_drew ?_ | refine blk_alloc ?_ _)); refine blk_put (cs := #[.int .i64 0, .int .i64 0]) ?_ 0 _ rfl; (with_reducible repeat (first | refine blk_drewN ?_ _ | refine blk_drew ?_ | refine blk_alloc ?_ _)); exact BK192.out), fun h0_ => absurd ((hoff 13 (by kernel_rfl)).symm.trans h0_) (by decide), fun h0_ => absurd ((hoff 14 (by kernel_rfl)).symm.trans h0_) (by decide), Q_X9_, Q_X10_, Q_X11_⟩
   refine steps_cons ?_ ?_
   ·rintro b a w' ⟨gb192, gb193, gb194, m9_, m10_, m11_, ha, Q_BK178, Q_BK179, Q_BK180, Q_BK181, Q_HB, Q_NB193_192, Q_NB192_193, Q_NB194_192, Q_NB192_194, Q_NB194_193, Q_NB193_194, Q_BK192, Q_GW192, Q_GE192, Q_NB178_192, Q_NB192_178, Q_NB179_192, Q_NB192_179, Q_NB180_192, Q_NB192_180, Q_NB181_192, Q_NB192_181, Q_BK193, Q_GW193, Q_GE193, Q_NB178_193, Q_NB193_178, Q_NB179_193, Q_NB193_179, Q_NB180_193, Q_NB193_180, Q_NB181_193, Q_NB193_181, Q_BK194, Q_GW194, Q_GE194, Q_NB178_194, Q_NB194_178, Q_NB179_194, Q_NB194_179, Q_NB180_194, Q_NB194_180, Q_NB181_194, Q_NB194_181, Q_BK192_e12, Q_BK193_e13, Q_BK194_e14, Q_X9_, Q_X10_, Q_X11_⟩ hb_ hon hoff
    refine ⟨_, rfl, fun K hK => ?_⟩
    have e10 : a.tmps[10]? = some (m10_) := by rw [ha]; exact putSel_on (e := (10, 10, m10_)) 10 rfl rfl (hon 10 (by kernel_rfl)) rfl
    rw [Q_X10_ (hon 10 (by kernel_rfl))] at e10
    have e25 : a.tmps[25]? = some (.agg #[.int .i64 t188, .int .i64 t189]) := by rw [ha]; exact putSel_on (e := (5, 25, .agg #[.int .i64 t188, .int .i64 t189])) 5 rfl rfl (hon 5 (by kernel_rfl)) rfl
    replace ha := Aside0.mk ha
    have BK178 := Aside0.mk Q_BK178
    have BK179 := Aside0.mk Q_BK179
    have BK180 := Aside0.mk Q_BK180
    have BK181 := Aside0.mk Q_BK181
    have HB := Aside0.mk Q_HB
    have NB193_192 := Aside0.mk (Q_NB193_192 (hon 9 (by kernel_rfl)) (hon 10 (by kernel_rfl)))
    have NB192_193 := Aside0.mk (Q_NB192_193 (hon 9 (by kernel_rfl)) (hon 10 (by kernel_rfl)))
    have NB194_192 := Aside0.mk (Q_NB194_192 (hon 9 (by kernel_rfl)) (hon 11 (by kernel_rfl)))
    have NB192_194 := Aside0.mk (Q_NB192_194 (hon 9 (by kernel_rfl)) (hon 11 (by kernel_rfl)))
    have NB194_193 := Aside0.mk (Q_NB194_193 (hon 10 (by kernel_rfl)) (hon 11 (by kernel_rfl)))
    have NB193_194 := Aside0.mk (Q_NB193_194 (hon 10 (by kernel_rfl)) (hon 11 (by kernel_rfl)))
    have GW192 := Aside0.mk (Q_GW192 (hon 9 (by kernel_rfl)))
    have GE192 := Aside0.mk (Q_GE192 (hon 9 (by kernel_rfl)))
    have NB178_192 := Aside0.mk (Q_NB178_192 (hon 9 (by kernel_rfl)))
    have NB192_178 := Aside0.mk (Q_NB192_178 (hon 9 (by kernel_rfl)))
    have NB179_192 := Aside0.mk (Q_NB179_192 (hon 9 (by kernel_rfl)))
    have NB192_179 := Aside0.mk (Q_NB192_179 (hon 9 (by kernel_rfl)))
    have NB180_192 := Aside0.mk (Q_NB180_192 (hon 9 (by kernel_rfl)))
    have NB192_180 := Aside0.mk (Q_NB192_180 (hon 9 (by kernel_rfl)))
    have NB181_192 := Aside0.mk (Q_NB181_192 (hon 9 (by kernel_rfl)))
    have NB192_181 := Aside0.mk (Q_NB192_181 (hon 9 (by kernel_rfl)))
    have BK193 := Aside0.mk (Q_BK193 (hon 10 (by kernel_rfl)) hb_)
    have GW193 := Aside0.mk (Q_GW193 (hon 10 (by kernel_rfl)))
    have GE193 := Aside0.mk (Q_GE193 (hon 10 (by kernel_rfl)))
    have NB178_193 := Aside0.mk (Q_NB178_193 (hon 10 (by kernel_rfl)))
    have NB193_178 := Aside0.mk (Q_NB193_178 (hon 10 (by kernel_rfl)))
    have NB179_193 := Aside0.mk (Q_NB179_193 (hon 10 (by kernel_rfl)))
    have NB193_179 := Aside0.mk (Q_NB193_179 (hon 10 (by kernel_rfl)))
    have NB180_193 := Aside0.mk (Q_NB180_193 (hon 10 (by kernel_rfl)))
    have NB193_180 := Aside0.mk (Q_NB193_180 (hon 10 (by kernel_rfl)))
    have NB181_193 := Aside0.mk (Q_NB181_193 (hon 10 (by kernel_rfl)))
    have NB193_181 := Aside0.mk (Q_NB193_181 (hon 10 (by kernel_rfl)))
    have BK194 := Aside0.mk (Q_BK194 (hon 11 (by kernel_rfl)) (hoff 14 (by kernel_rfl)))
    have GW194 := Aside0.mk (Q_GW194 (hon 11 (by kernel_rfl)))
    have GE194 := Aside0.mk (Q_GE194 (hon 11 (by kernel_rfl)))
    have NB178_194 := Aside0.mk (Q_NB178_194 (hon 11 (by kernel_rfl)))
    have NB194_178 := Aside0.mk (Q_NB194_178 (hon 11 (by kernel_rfl)))
    have NB179_194 := Aside0.mk (Q_NB179_194 (hon 11 (by kernel_rfl)))
    have NB194_179 := Aside0.mk (Q_NB194_179 (hon 11 (by kernel_rfl)))
    have NB180_194 := Aside0.mk (Q_NB180_194 (hon 11 (by kernel_rfl)))
    have NB194_180 := Aside0.mk (Q_NB194_180 (hon 11 (by kernel_rfl)))
    have NB181_194 := Aside0.mk (Q_NB181_194 (hon 11 (by kernel_rfl)))
    have NB194_181 := Aside0.mk (Q_NB194_181 (hon 11 (by kernel_rfl)))
    have BK192 := Aside0.mk (Q_BK192_e12 (hon 12 (by kernel_rfl)))
    have hs50 : w'.cell? ⟨gb193, 0, none⟩ = some (.int .i64 0) := (blk_cell BK193.out 0).trans rfl
    have hfs50 := blk_frozen BK193.out 0
    have hns50_0 := NB178_193.out
    have hns50_1 := NB179_193.out
    have hns50_2 := NB180_193.out
    have hns50_3 := NB181_193.out
    have hns50_4 := NB192_193.out
    have hns50_6 := NB194_193.out
    have hms50_0 := NB193_178.out
    have hms50_1 := NB193_179.out
    have hms50_2 := NB193_180.out
    have hms50_3 := NB193_181.out
    have hms50_4 := NB193_192.out
    have hms50_6 := NB193_194.out
    have hs51 : w'.cell? ⟨gb193, 1, none⟩ = some (.int .i64 0) := (blk_cell BK193.out 1).trans rfl
    have hfs51 := blk_frozen BK193.out 1
    have hns51_0 := NB178_193.out
    have hns51_1 := NB179_193.out
    have hns51_2 := NB180_193.out
    have hns51_3 := NB181_193.out
    have hns51_4 := NB192_193.out
    have hns51_6 := NB194_193.out
    have hms51_0 := NB193_178.out
    have hms51_1 := NB193_179.out
    have hms51_2 := NB193_180.out
    have hms51_3 := NB193_181.out
    have hms51_4 := NB193_192.out
    have hms51_6 := NB193_194.out
    refine skip_ (w1 := ?_) (by rfl) rfl ?_ ?_
    rotate_left
    ·go_simp
     rfl
    refine hK.out _ _ ⟨gb192, gb193, gb194, m9_, m10_, m11_, (by rw [ha.out]; exact putSel_none (v := undef) rfl), (by (with_reducible repeat (first | refine blk_drewN ?_ _ | refine blk_drew ?_ | refine blk_alloc ?_ _)); refine blk_far ?_ NB178_193.out _; (with_reducible repeat (first | refine blk_drewN ?_ _ | refine blk_drew ?_ | refine blk_alloc ?_ _)); refine blk_far ?_ NB178_193.out _; (with_reducible repeat (first | refine blk_drewN ?_ _ | refine blk_drew ?_ | refine blk_alloc ?_ _)); exact BK178.out), (by (with_reducible repeat (first | refine blk_drewN ?_ _ | refine blk_drew ?_ | refine blk_alloc ?_ _)); refine blk_far ?_ NB179_193.out _; (with_reducible repeat (first | refine blk_drewN ?_ _ | refine blk_drew ?_ | refine blk_alloc ?_ _)); refine blk_far ?_ NB179_193.out _; (with_reducible repeat (first | refine blk_drewN ?_ _ | refine blk_drew ?_ | refine blk_alloc ?_ _)); exact BK179.out), (by (with_reducible repeat (first | refine blk_drewN ?_ _ | refine blk_drew ?_ | refine blk_alloc ?_ _)); refine blk_far ?_ NB180_193.out _; (with_reducible repeat (first | refine blk_drewN ?_ _ | refine blk_drew ?_ | refine blk_alloc ?_ _)); refine blk_far ?_ NB180_193.out _; (with_reducible repeat (first | refine blk_drewN ?_ _ | refine blk_drew ?_ | refine blk_alloc ?_ _)); exact BK180.out), (by (with_reducible repeat (first | refine blk_drewN ?_ _ | refine blk_drew ?_ | refine blk_alloc ?_ _)); refine blk_far ?_ NB181_193.out _; (with_reducible repeat (first | refine blk_drewN ?_ _ | refine blk_drew ?_ | refine blk_alloc ?_ _)); refine blk_far ?_ NB181_193.out _; (with_reducible repeat (first | refine blk_drewN ?_ _ | refine blk_drew ?_ | refine blk_alloc ?_ _)); exact BK181.out), (by repeat (first | (with_reducible first | exact HB.out | apply below_alloc | apply pw_below_drewN | apply below_drew1 | refine below_set ?_ GE178.out | refine below_set ?_ GE179.out | refine below_set ?_ GE180.out | refine below_set ?_ GE181.out | refine below_set ?_ GE192.out | refine below_set ?_ GE193.out | refine below_set ?_ GE194.out) | exact HB.out)), fun _ _ => NB193_192.out, fun _ _ => NB192_193.out, fun _ _ => NB194_192.out, fun _ _ => NB192_194.out, fun _ _ => NB194_193.out, fun _ _ => NB193_194.out, fun _ h1_ => absurd ((hon 12 (by kernel_rfl)).symm.trans h1_) (by decide), fun _ => GW192.out, fun _ => GE192.out, fun _ => NB178_192.out, fun _ => NB192_178.out, fun _ => NB179_192.out, fun _ => NB192_179.out, fun _ => NB180_192.out, fun _ => NB192_180.out, fun _ => NB181_192.out, fun _ => NB192_181.out, fun _ h1_ => absurd ((up_self b 13).symm.trans h1_) (by decide), fun _ => GW193.out, fun _ => GE193.out, fun _ => NB178_193.out, fun _ => NB193_178.out, fun _ => NB179_193.out, fun _ => NB193_179.out, fun _ => NB180_193.out, fun _ => NB193_180.out, fun _ => NB181_193.out, fun _ => NB193_181.out, fun _ _ => (by (with_reducible repeat (first | refine blk_drewN ?_ _ | refine blk_drew ?_ | refine blk_alloc ?_ _)); refine blk_far ?_ NB194_193.out _; (with_reducible repeat (first | refine blk_drewN ?_ _ | refine blk_drew ?_ | refine blk_alloc ?_ _)); refine blk_far ?_ NB194_193.out _; (with_reducible repeat (first | refine blk_drewN ?_ _ | refine blk_drew ?_ | refine blk_alloc ?_ _)); exact BK194.out), fun _ => GW194.out, fun _ => GE194.out, fun _ => NB178_194.out, fun _ => NB194_178.out, fun _ => NB179_194.out, fun _ => NB194_179.out, fun _ => NB180_194.out, fun _ => NB194_180.out, fun _ => NB181_194.out, fun _ => NB194_181.out, fun _ => (by (with_reducible repeat (first | refine blk_drewN ?_ _ | refine blk_drew ?_ | refine blk_alloc ?_ _)); refine blk_far ?_ NB192_193.out _; (with_reducible repeat (first | refine blk_drewN ?_ _ | refine blk_drew ?_ | refine blk_alloc ?_ _)); refine blk_far ?_ NB192_193.out _; (with_reducible repeat (first | refine blk_drewN ?_ _ | refine blk_drew ?_ | refine blk_alloc ?_ _)); exact BK192.out), fun _ => (by (with_reducible repeat (first | refine blk_drewN ?_ _ | refine blk_drew ?_ | refine blk_alloc ?_ _)); refine blk_put (cs := #[.int .i64 t188, .int .i64 0]) ?_ 1 _ rfl; (with_reducible repeat (first | refine blk_drewN ?_ _ | refine blk_drew ?_ | refine blk_alloc ?_ _)); refine blk_put (cs := #[.int .i64 0, .int .i64 0]) ?_ 0 _ rfl; (with_reducible repeat (first | refine blk_drewN ?_ _ | refine blk_drew ?_ | refine blk_alloc ?_ _)); exact BK193.out), fun h0_ => absurd ((hoff 14 (by kernel_rfl)).symm.trans h0_) (by decide), Q_X9_, Q_X10_, Q_X11_⟩
   refine steps_cons ?_ ?_
   ·rintro b a w' ⟨gb192, gb193, gb194, m9_, m10_, m11_, ha, Q_BK178, Q_BK179, Q_BK180, Q_BK181, Q_HB, Q_NB193_192, Q_NB192_193, Q_NB194_192, Q_NB192_194, Q_NB194_193, Q_NB193_194, Q_BK192, Q_GW192, Q_GE192, Q_NB178_192, Q_NB192_178, Q_NB179_192, Q_NB192_179, Q_NB180_192, Q_NB192_180, Q_NB181_192, Q_NB192_181, Q_BK193, Q_GW193, Q_GE193, Q_NB178_193, Q_NB193_178, Q_NB179_193, Q_NB193_179, Q_NB180_193, Q_NB193_180, Q_NB181_193, Q_NB193_181, Q_BK194, Q_GW194, Q_GE194, Q_NB178_194, Q_NB194_178, Q_NB179_194, Q_NB194_179, Q_NB180_194, Q_NB194_180, Q_NB181_194, Q_NB194_181, Q_BK192_e12, Q_BK193_e13, Q_BK194_e14, Q_X9_, Q_X10_, Q_X11_⟩ hb_ hon hoff
    refine ⟨_, rfl, fun K hK => ?_⟩
    have e11 : a.tmps[11]? = some (m11_) := by rw [ha]; exact putSel_on (e := (11, 11, m11_)) 11 rfl rfl (hon 11 (by kernel_rfl)) rfl
    rw [Q_X11_ (hon 11 (by kernel_rfl))] at e11
    have e28 : a.tmps[28]? = some (.agg #[.int .i64 t190, .int .i64 t191]) := by rw [ha]; exact putSel_on (e := (8, 28, .agg #[.int .i64 t190, .int .i64 t191])) 8 rfl rfl (hon 8 (by kernel_rfl)) rfl
    replace ha := Aside0.mk ha
    have BK178 := Aside0.mk Q_BK178
    have BK179 := Aside0.mk Q_BK179
    have BK180 := Aside0.mk Q_BK180
    have BK181 := Aside0.mk Q_BK181
    have HB := Aside0.mk Q_HB
    have NB193_192 := Aside0.mk (Q_NB193_192 (hon 9 (by kernel_rfl)) (hon 10 (by kernel_rfl)))
    have NB192_193 := Aside0.mk (Q_NB192_193 (hon 9 (by kernel_rfl)) (hon 10 (by kernel_rfl)))
    have NB194_192 := Aside0.mk (Q_NB194_192 (hon 9 (by kernel_rfl)) (hon 11 (by kernel_rfl)))
    have NB192_194 := Aside0.mk (Q_NB192_194 (hon 9 (by kernel_rfl)) (hon 11 (by kernel_rfl)))
    have NB194_193 := Aside0.mk (Q_NB194_193 (hon 10 (by kernel_rfl)) (hon 11 (by kernel_rfl)))
    have NB193_194 := Aside0.mk (Q_NB193_194 (hon 10 (by kernel_rfl)) (hon 11 (by kernel_rfl)))
    have GW192 := Aside0.mk (Q_GW192 (hon 9 (by kernel_rfl)))
    have GE192 := Aside0.mk (Q_GE192 (hon 9 (by kernel_rfl)))
    have NB178_192 := Aside0.mk (Q_NB178_192 (hon 9 (by kernel_rfl)))
    have NB192_178 := Aside0.mk (Q_NB192_178 (hon 9 (by kernel_rfl)))
    have NB179_192 := Aside0.mk (Q_NB179_192 (hon 9 (by kernel_rfl)))
    have NB192_179 := Aside0.mk (Q_NB192_179 (hon 9 (by kernel_rfl)))
    have NB180_192 := Aside0.mk (Q_NB180_192 (hon 9 (by kernel_rfl)))
    have NB192_180 := Aside0.mk (Q_NB192_180 (hon 9 (by kernel_rfl)))
    have NB181_192 := Aside0.mk (Q_NB181_192 (hon 9 (by kernel_rfl)))
    have NB192_181 := Aside0.mk (Q_NB192_181 (hon 9 (by kernel_rfl)))
    have GW193 := Aside0.mk (Q_GW193 (hon 10 (by kernel_rfl)))
    have GE193 := Aside0.mk (Q_GE193 (hon 10 (by kernel_rfl)))
    have NB178_193 := Aside0.mk (Q_NB178_193 (hon 10 (by kernel_rfl)))
    have NB193_178 := Aside0.mk (Q_NB193_178 (hon 10 (by kernel_rfl)))
    have NB179_193 := Aside0.mk (Q_NB179_193 (hon 10 (by kernel_rfl)))
    have NB193_179 := Aside0.mk (Q_NB193_179 (hon 10 (by kernel_rfl)))
    have NB180_193 := Aside0.mk (Q_NB180_193 (hon 10 (by kernel_rfl)))
    have NB193_180 := Aside0.mk (Q_NB193_180 (hon 10 (by kernel_rfl)))
    have NB181_193 := Aside0.mk (Q_NB181_193 (hon 10 (by kernel_rfl)))
    have NB193_181 := Aside0.mk (Q_NB193_181 (hon 10 (by kernel_rfl)))
    have BK194 := Aside0.mk (Q_BK194 (hon 11 (by kernel_rfl)) hb_)
    have GW194 := Aside0.mk (Q_GW194 (hon 11 (by kernel_rfl)))
    have GE194 := Aside0.mk (Q_GE194 (hon 11 (by kernel_rfl)))
    have NB178_194 := Aside0.mk (Q_NB178_194 (hon 11 (by kernel_rfl)))
    have NB194_178 := Aside0.mk (Q_NB194_178 (hon 11 (by kernel_rfl)))
    have NB179_194 := Aside0.mk (Q_NB179_194 (hon 11 (by kernel_rfl)))
    have NB194_179 := Aside0.mk (Q_NB194_179 (hon 11 (by kernel_rfl)))
    have NB180_194 := Aside0.mk (Q_NB180_194 (hon 11 (by kernel_rfl)))
    have NB194_180 := Aside0.mk (Q_NB194_180 (hon 11 (by kernel_rfl)))
    have NB181_194 := Aside0.mk (Q_NB181_194 (hon 11 (by kernel_rfl)))
    have NB194_181 := Aside0.mk (Q_NB194_181 (hon 11 (by kernel_rfl)))
    have BK192 := Aside0.mk (Q_BK192_e12 (hon 12 (by kernel_rfl)))
    have BK193 := Aside0.mk (Q_BK193_e13 (hon 13 (by kernel_rfl)))
    have hs52 : w'.cell? ⟨gb194, 0, none⟩ = some (.int .i64 0) := (blk_cell BK194.out 0).trans rfl
    have hfs52 := blk_frozen BK194.out 0
    have hns52_0 := NB178_194.out
    have hns52_1 := NB179_194.out
    have hns52_2 := NB180_194.out
    have hns52_3 := NB181_194.out
    have hns52_4 := NB192_194.out
    have hns52_5 := NB193_194.out
    have hms52_0 := NB194_178.out
    have hms52_1 := NB194_179.out
    have hms52_2 := NB194_180.out
    have hms52_3 := NB194_181.out
    have hms52_4 := NB194_192.out
    have hms52_5 := NB194_193.out
    have hs53 : w'.cell? ⟨gb194, 1, none⟩ = some (.int .i64 0) := (blk_cell BK194.out 1).trans rfl
    have hfs53 := blk_frozen BK194.out 1
    have hns53_0 := NB178_194.out
    have hns53_1 := NB179_194.out
    have hns53_2 := NB180_194.out
    have hns53_3 := NB181_194.out
    have hns53_4 := NB192_194.out
    have hns53_5 := NB193_194.out
    have hms53_0 := NB194_178.out
    have hms53_1 := NB194_179.out
    have hms53_2 := NB194_180.out
    have hms53_3 := NB194_181.out
    have hms53_4 := NB194_192.out
    have hms53_5 := NB194_193.out
    refine skip_ (w1 := ?_) (by rfl) rfl ?_ ?_
    rotate_left
    ·go_simp
     rfl
    refine hK.out _ _ ⟨gb192, gb193, gb194, m9_, m10_, m11_, (by rw [ha.out]; exact putSel_none (v := undef) rfl), (by (with_reducible repeat (first | refine blk_drewN ?_ _ | refine blk_drew ?_ | refine blk_alloc ?_ _)); refine blk_far ?_ NB178_194.out _; (with_reducible repeat (first | refine blk_drewN ?_ _ | refine blk_drew ?_ | refine blk_alloc ?_ _)); refine blk_far ?_ NB178_194.out _; (with_reducible repeat (first | refine blk_drewN ?_ _ | refine blk_drew ?_ | refine blk_alloc ?_ _)); exact BK178.out), (by (with_reducible repeat (first | refine blk_drewN ?_ _ | refine blk_drew ?_ | refine blk_alloc ?_ _)); refine blk_far ?_ NB179_194.out _; (with_reducible repeat (first | refine blk_drewN ?_ _ | refine blk_drew ?_ | refine blk_alloc ?_ _)); refine blk_far ?_ NB179_194.out _; (with_reducible repeat (first | refine blk_drewN ?_ _ | refine blk_drew ?_ | refine blk_alloc ?_ _)); exact BK179.out), (by (with_reducible repeat (first | refine blk_drewN ?_ _ | refine blk_drew ?_ | refine blk_alloc ?_ _)); refine blk_far ?_ NB180_194.out _; (with_reducible repeat (first | refine blk_drewN ?_ _ | refine blk_drew ?_ | refine blk_alloc ?_ _)); refine blk_far ?_ NB180_194.out _; (with_reducible repeat (first | refine blk_drewN ?_ _ | refine blk_drew ?_ | refine blk_alloc ?_ _)); exact BK180.out), (by (with_reducible repeat (first | refine blk_drewN ?_ _ | refine blk_drew ?_ | refine blk_alloc ?_ _)); refine blk_far ?_ NB181_194.out _; (with_reducible repeat (first | refine blk_drewN ?_ _ | refine blk_drew ?_ | refine blk_alloc ?_ _)); refine blk_far ?_ NB181_194.out _; (with_reducible repeat (first | refine blk_drewN ?_ _ | refine blk_drew ?_ | refine blk_alloc ?_ _)); exact BK181.out), (by repeat (first | (with_reducible first | exact HB.out | apply below_alloc | apply pw_below_drewN | apply below_drew1 | refine below_set ?_ GE178.out | refine below_set ?_ GE179.out | refine below_set ?_ GE180.out | refine below_set ?_ GE181.out | refine below_set ?_ GE192.out | refine below_set ?_ GE193.out | refine below_set ?_ GE194.out) | exact HB.out)), fun _ _ => NB193_192.out, fun _ _ => NB192_193.out, fun _ _ => NB194_192.out, fun _ _ => NB192_194.out, fun _ _ => NB194_193.out, fun _ _ => NB193_194.out, fun _ h1_ => absurd ((hon 12 (by kernel_rfl)).symm.trans h1_) (by decide), fun _ => GW192.out, fun _ => GE192.out, fun _ => NB178_192.out, fun _ => NB192_178.out, fun _ => NB179_192.out, fun _ => NB192_179.out, fun _ => NB180_192.out, fun _ => NB192_180.out, fun _ => NB181_192.out, fun _ => NB192_181.out, fun _ h1_ => absurd ((hon 13 (by kernel_rfl)).symm.trans h1_) (by decide), fun _ => GW193.out, fun _ => GE193.out, fun _ => NB178_193.out, fun _ => NB193_178.out, fun _ => NB179_193.out, fun _ => NB193_179.out, fun _ => NB180_193.out, fun _ => NB193_180.out, fun _ => NB181_193.out, fun _ => NB193_181.out, fun _ h1_ => absurd ((up_self b 14).symm.trans h1_) (by decide), fun _ => GW194.out, fun _ => GE194.out, fun _ => NB178_194.out, fun _ => NB194_178.out, fun _ => NB179_194.out, fun _ => NB194_179.out, fun _ => NB180_194.out, fun _ => NB194_180.out, fun _ => NB181_194.out, fun _ => NB194_181.out, fun _ => (by (with_reducible repeat (first | refine blk_drewN ?_ _ | refine blk_drew ?_ | refine blk_alloc ?_ _)); refine blk_far ?_ NB192_194.out _; (with_reducible repeat (first | refine blk_drewN ?_ _ | refine blk_drew ?_ | refine blk_alloc ?_ _)); refine blk_far ?_ NB192_194.out _; (with_reducible repeat (first | refine blk_drewN ?_ _ | refine blk_drew ?_ | refine blk_alloc ?_ _)); exact BK192.out), fun _ => (by (with_reducible repeat (first | refine blk_drewN ?_ _ | refine blk_drew ?_ | refine blk_alloc ?_ _)); refine blk_far ?_ NB193_194.out _; (with_reducible repeat (first | refine blk_drewN ?_ _ | refine blk_drew ?_ | refine blk_alloc ?_ _)); refine blk_far ?_ NB193_194.out _; (with_reducible repeat (first | refine blk_drewN ?_ _ | refine blk_drew ?_ | refine blk_alloc ?_ _)); exact BK193.out), fun _ => (by (with_reducible repeat (first | refine blk_drewN ?_ _ | refine blk_drew ?_ | refine blk_alloc ?_ _)); refine blk_put (cs := #[.int .i64 t190, .int .i64 0]) ?_ 1 _ rfl; (with_reducible repeat (first | refine blk_drewN ?_ _ | refine blk_drew ?_ | refine blk_alloc ?_ _)); refine blk_put (cs := #[.int .i64 0, .int .i64 0]) ?_ 0 _ rfl; (with_reducible repeat (first | refine blk_drewN ?_ _ | refine blk_drew ?_ | refine blk_alloc ?_ _)); exact BK194.out), Q_X9_, Q_X10_, Q_X11_⟩
   exact steps_nil
  rintro b a w53 hall ⟨gb192, gb193, gb194, m9_, m10_, m11_, ha, Q_BK178, Q_BK179, Q_BK180, Q_BK181, Q_HB, Q_NB193_192, Q_NB192_193, Q_NB194_192, Q_NB192_194, Q_NB194_193, Q_NB193_194, Q_BK192, Q_GW192, Q_GE192, Q_NB178_192, Q_NB192_178, Q_NB179_192, Q_NB192_179, Q_NB180_192, Q_NB192_180, Q_NB181_192, Q_NB192_181, Q_BK193, Q_GW193, Q_GE193, Q_NB178_193, Q_NB193_178, Q_NB179_193, Q_NB193_179, Q_NB180_193, Q_NB193_180, Q_NB181_193, Q_NB193_181, Q_BK194, Q_GW194, Q_GE194, Q_NB178_194, Q_NB194_178, Q_NB179_194, Q_NB194_179, Q_NB180_194, Q_NB194_180, Q_NB181_194, Q_NB194_181, Q_BK192_e12, Q_BK193_e13, Q_BK194_e14, Q_X9_, Q_X10_, Q_X11_⟩
  clear BK178 BK179 BK180 BK181 HB
  have hb0_ := hall 0 (by kernel_rfl)
  have hb1_ := hall 1 (by kernel_rfl)
  have hb2_ := hall 2 (by kernel_rfl)
  have hb3_ := hall 3 (by kernel_rfl)
  have hb4_ := hall 4 (by kernel_rfl)
  have hb5_ := hall 5 (by kernel_rfl)
  have hb6_ := hall 6 (by kernel_rfl)
  have hb7_ := hall 7 (by kernel_rfl)
  have hb8_ := hall 8 (by kernel_rfl)
  have hb9_ := hall 9 (by kernel_rfl)
  have hb10_ := hall 10 (by kernel_rfl)
  have hb11_ := hall 11 (by kernel_rfl)
  have hb12_ := hall 12 (by kernel_rfl)
  have hb13_ := hall 13 (by kernel_rfl)
  have hb14_ := hall 14 (by kernel_rfl)
  subst ha
  obtain rfl := Q_X9_ hb9_
  obtain rfl := Q_X10_ hb10_
  obtain rfl := Q_X11_ hb11_
  simp only [putSel, hb0_, hb1_, hb2_, hb3_, hb4_, hb5_, hb6_, hb7_, hb8_, hb9_, hb10_, hb11_, hb12_, hb13_, hb14_, if_true, Act.put, List.setIfInBounds_toArray, List.set_cons_zero, List.set_cons_succ]
  have BK178 := Aside0.mk Q_BK178
  clear Q_BK178
  have BK179 := Aside0.mk Q_BK179
  clear Q_BK179
  have BK180 := Aside0.mk Q_BK180
  clear Q_BK180
  have BK181 := Aside0.mk Q_BK181
  clear Q_BK181
  have HB := Aside0.mk Q_HB
  clear Q_HB
  have NB193_192 := Aside0.mk (Q_NB193_192 hb9_ hb10_)
  clear Q_NB193_192
  have NB192_193 := Aside0.mk (Q_NB192_193 hb9_ hb10_)
  clear Q_NB192_193
  have NB194_192 := Aside0.mk (Q_NB194_192 hb9_ hb11_)
  clear Q_NB194_192
  have NB192_194 := Aside0.mk (Q_NB192_194 hb9_ hb11_)
  clear Q_NB192_194
  have NB194_193 := Aside0.mk (Q_NB194_193 hb10_ hb11_)
  clear Q_NB194_193
  have NB193_194 := Aside0.mk (Q_NB193_194 hb10_ hb11_)
  clear Q_NB193_194
  clear Q_BK192
  have GW192 := Aside0.mk (Q_GW192 hb9_)
  clear Q_GW192
  have GE192 := Aside0.mk (Q_GE192 hb9_)
  clear Q_GE192
  have NB178_192 := Aside0.mk (Q_NB178_192 hb9_)
  clear Q_NB178_192
  have NB192_178 := Aside0.mk (Q_NB192_178 hb9_)
  clear Q_NB192_178
  have NB179_192 := Aside0.mk (Q_NB179_192 hb9_)
  clear Q_NB179_192
  have NB192_179 := Aside0.mk (Q_NB192_179 hb9_)
  clear Q_NB192_179
  have NB180_192 := Aside0.mk (Q_NB180_192 hb9_)
  clear Q_NB180_192
  have NB192_180 := Aside0.mk (Q_NB192_180 hb9_)
  clear Q_NB192_180
  have NB181_192 := Aside0.mk (Q_NB181_192 hb9_)
  clear Q_NB181_192
  have NB192_181 := Aside0.mk (Q_NB192_181 hb9_)
  clear Q_NB192_181
  clear Q_BK193
  have GW193 := Aside0.mk (Q_GW193 hb10_)
  clear Q_GW193
  have GE193 := Aside0.mk (Q_GE193 hb10_)
  clear Q_GE193
  have NB178_193 := Aside0.mk (Q_NB178_193 hb10_)
  clear Q_NB178_193
  have NB193_178 := Aside0.mk (Q_NB193_178 hb10_)
  clear Q_NB193_178
  have NB179_193 := Aside0.mk (Q_NB179_193 hb10_)
  clear Q_NB179_193
  have NB193_179 := Aside0.mk (Q_NB193_179 hb10_)
  clear Q_NB193_179
  have NB180_193 := Aside0.mk (Q_NB180_193 hb10_)
  clear Q_NB180_193
  have NB193_180 := Aside0.mk (Q_NB193_180 hb10_)
  clear Q_NB193_180
  have NB181_193 := Aside0.mk (Q_NB181_193 hb10_)
  clear Q_NB181_193
  have NB193_181 := Aside0.mk (Q_NB193_181 hb10_)
  clear Q_NB193_181
  clear Q_BK194
  have GW194 := Aside0.mk (Q_GW194 hb11_)
  clear Q_GW194
  have GE194 := Aside0.mk (Q_GE194 hb11_)
  clear Q_GE194
  have NB178_194 := Aside0.mk (Q_NB178_194 hb11_)
  clear Q_NB178_194
  have NB194_178 := Aside0.mk (Q_NB194_178 hb11_)
  clear Q_NB194_178
  have NB179_194 := Aside0.mk (Q_NB179_194 hb11_)
  clear Q_NB179_194
  have NB194_179 := Aside0.mk (Q_NB194_179 hb11_)
  clear Q_NB194_179
  have NB180_194 := Aside0.mk (Q_NB180_194 hb11_)
  clear Q_NB180_194
  have NB194_180 := Aside0.mk (Q_NB194_180 hb11_)
  clear Q_NB194_180
  have NB181_194 := Aside0.mk (Q_NB181_194 hb11_)
  clear Q_NB181_194
  have NB194_181 := Aside0.mk (Q_NB194_181 hb11_)
  clear Q_NB194_181
  have BK192 := Aside0.mk (Q_BK192_e12 hb12_)
  clear Q_BK192_e12
  have BK193 := Aside0.mk (Q_BK193_e13 hb13_)
  clear Q_BK193_e13
  have BK194 := Aside0.mk (Q_BK194_e14 hb14_)
  clear Q_BK194_e14
  clear hall hb0_ hb1_ hb2_ hb3_ hb4_ hb5_ hb6_ hb7_ hb8_ hb9_ hb10_ hb11_ hb12_ hb13_ hb14_
  try go_wp2
  have n0_ := Aside0.mk (blk_drew BK192.out)
  have n1_ := Aside0.mk (blk_drew BK193.out)
  have n2_ := Aside0.mk (blk_drew BK194.out)
  have n3_ := Aside0.mk (below_drew1 HB.out)
  clear BK192
  clear BK193
  clear BK194
  clear HB
  have BK192 := n0_
  have BK193 := n1_
  have BK194 := n2_
  have HB := n3_
  clear n0_ n1_ n2_ n3_
  refine start_ (n := 8) (S := fun w' => True) (ds := []) #[F_,F_,F_,F_,F_,F_,F_,F_] (by kernel_rfl) rfl rfl trivial (fun hHeld => ?_); refine with_tabW pred_InCircle.tab4 pred_InCircle.bits4 (fun HT_ HW_ => ?_)
  generalize w53.drew = w54 at BK192 BK193 BK194 HB hHeld ⊢
  refine inv_at [0, 1, 2, 3, 4, 5, 6, 7] (fun a0_ b a w' => ∃ (gb203 : Nat) (m6_ : Value), a = putSel a0_ b [(0, 29, .agg #[.int .i64 t186, .int .i64 t187]), (1, 30, .agg #[.int .i64 t195, .int .u64 t196]), (2, 31, .agg #[.int .i64 t188, .int .i64 t189]), (3, 32, .agg #[.int .i64 t190, .int .i64 t191]), (4, 33, .agg #[.int .i64 t197, .int .u64 t198]), (5, 34, .agg #[.int .u64 t199, .int .u64 t200, .int .u64 t201, .int .u64 t202]), (6, 12, m6_)] ∧ (w'.heap[gb192]? = some (.cells #[.int .i64 t186, .int .i64 t187] 23 (0, 0))) ∧ (w'.heap[gb193]? = some (.cells #[.int .i64 t188, .int .i64 t189] 23 (0, 0))) ∧ (w'.heap[gb194]? = some (.cells #[.int .i64 t190, .int .i64 t191] 23 (0, 0))) ∧ (Below w.heap.size w w') ∧ (b 6 = true → b 7 = false → w'.heap[gb203]? = some (.cells #[.int .u64 0, .int .u64 0, .int .u64 0, .int .u64 0] 62 (0, 0))) ∧ (b 6 = true → w.heap.size ≤ gb203) ∧ (b 6 = true → w.heap.size ≤ gb203) ∧ (b 6 = true → gb192 ≠ gb203) ∧ (b 6 = true → gb203 ≠ gb192) ∧ (b 6 = true → gb193 ≠ gb203) ∧ (b 6 = true → gb203 ≠ gb193) ∧ (b 6 = true → gb194 ≠ gb203) ∧ (b 6 = true → gb203 ≠ gb194) ∧ (b 7 = true → w'.heap[gb203]? = some (.cells #[.int .u64 t199, .int .u64 t200, .int .u64 t201, .int .u64 t202] 62 (0, 0))) ∧ (b 6 = true → (m6_ : Value) = .pointer (some ⟨gb203, 0, none⟩))) HT_.out HW_.out (by kernel_rfl) (by kernel_rfl) ?_ ?_ ?_
  ·exact ⟨0, .bool false, by simp only [putSel, Bool.false_eq_true, if_false], BK192.out, BK193.out, BK194.out, HB.out, fun h_ => absurd h_ (by decide), fun h_ => absurd h_ (by decide), fun h_ => absurd h_ (by decide), fun h_ => absurd h_ (by decide), fun h_ => absurd h_ (by decide), fun h_ => absurd h_ (by decide), fun h_ => absurd h_ (by decide), fun h_ => absurd h_ (by decide), fun h_ => absurd h_ (by decide), fun h_ => absurd h_ (by decide), fun h_ => absurd h_ (by decide)⟩
  ·skip
   clear BK192 BK193 BK194 HB
   refine steps_cons ?_ ?_
   ·rintro b a w' ⟨gb203, m6_, ha, Q_BK192, Q_BK193, Q_BK194, Q_HB, Q_BK203, Q_GW203, Q_GE203, Q_NB192_203, Q_NB203_192, Q_NB193_203, Q_NB203_193, Q_NB194_203, Q_NB203_194, Q_BK203_e7, Q_X6_⟩ hb_ hon hoff
    refine ⟨_, rfl, fun K hK => ?_⟩
    have e9 : a.tmps[9]? = some (.pointer (some ⟨gb192, 0, none⟩)) := by rw [ha]; exact (putSel_off rfl).trans rfl
    replace ha := Aside0.mk ha
    have BK192 := Aside0.mk Q_BK192
    have BK193 := Aside0.mk Q_BK193
    have BK194 := Aside0.mk Q_BK194
    have HB := Aside0.mk Q_HB
    have hc0_ : w'.cell? ⟨gb192, 0, none⟩ = some (.int .i64 t186) := (blk_cell BK192.out 0).trans rfl
    have hc1_ : w'.cell? ⟨gb192, 1, none⟩ = some (.int .i64 t187) := (blk_cell BK192.out 1).trans rfl
    refine value_ (w1 := w') (v := .agg #[.int .i64 t186, .int .i64 t187]) (by rfl) rfl ?_ ?_
    ·go_simp
     (try simp only [i64_w])
     try rfl
    refine hK.out _ _ ⟨gb203, m6_, (by rw [ha.out]; exact putSel_upk 0 hb_ rfl rfl rfl), Q_BK192, Q_BK193, Q_BK194, Q_HB, Q_BK203, Q_GW203, Q_GE203, Q_NB192_203, Q_NB203_192, Q_NB193_203, Q_NB203_193, Q_NB194_203, Q_NB203_194, fun h0_ => absurd ((hoff 7 (by kernel_rfl)).symm.trans h0_) (by decide), Q_X6_⟩
   refine steps_cons ?_ ?_
   ·rintro b a w' ⟨gb203, m6_, ha, Q_BK192, Q_BK193, Q_BK194, Q_HB, Q_BK203, Q_GW203, Q_GE203, Q_NB192_203, Q_NB203_192, Q_NB193_203, Q_NB203_193, Q_NB194_203, Q_NB203_194, Q_BK203_e7, Q_X6_⟩ hb_ hon hoff
    refine ⟨_, rfl, fun K hK => ?_⟩
    have e29 : a.tmps[29]? = some (.agg #[.int .i64 t186, .int .i64 t187]) := by rw [ha]; exact putSel_on (e := (0, 29, .agg #[.int .i64 t186, .int .i64 t187])) 0 rfl rfl (hon 0 (by kernel_rfl)) rfl
    replace ha := Aside0.mk ha
    have BK192 := Aside0.mk Q_BK192
    have BK193 := Aside0.mk Q_BK193
    have BK194 := Aside0.mk Q_BK194
    have HB := Aside0.mk Q_HB
    refine goes_ Try.func44 (by kernel_rfl) rfl #[.agg #[.int .i64 t186, .int .i64 t187]] (by rfl) rfl rfl (by first | (simp only [List.map_toArray, List.map_cons, List.map_nil, Act.eval, Array.getD_eq_getD_getElem?, Option.getD_some, e29]; done) | (simp only [List.map_toArray, List.map_cons, List.map_nil, Act.eval, Array.getD_eq_getD_getElem?, Option.getD_some, e29]; rfl)) ?_
    with_reducible refine (pred_square.calls t186 t187 t195 t196 _ A10.out).mono ?_
    rintro e w55 ⟨rfl, hb⟩
    refine ⟨_, rfl, ?_⟩
    have n0_ := u1 BK192 hb
    have n1_ := u1 BK193 hb
    have n2_ := u1 BK194 hb
    have n3_ := Aside0.mk (below_step (bw HB.out) hb)
    have z_BK203 := fun (h0_ : b 6 = true) (h1_ : b 7 = false) => (show w55.heap[gb203]? = some (.cells #[.int .u64 0, .int .u64 0, .int .u64 0, .int .u64 0] 62 (0, 0)) from by first | exact (blk_below (g := gb203) (o := .cells #[.int .u64 0, .int .u64 0, .int .u64 0, .int .u64 0] 62 (0, 0)) (bk (Q_BK203 h0_ h1_)) hb))
    clear BK192
    clear BK193
    clear BK194
    clear HB
    have BK192 := n0_
    have BK193 := n1_
    have BK194 := n2_
    have HB := n3_
    clear n0_ n1_ n2_ n3_
    (try clear hb)
    (try clear hb2)
    (try clear hk)
    (try clear hi)
    refine hK.out _ _ ⟨gb203, m6_, (by rw [ha.out]; exact putSel_upk 1 hb_ rfl rfl rfl), (bk BK192.out), (bk BK193.out), (bk BK194.out), (bw HB.out), z_BK203, Q_GW203, Q_GE203, Q_NB192_203, Q_NB203_192, Q_NB193_203, Q_NB203_193, Q_NB194_203, Q_NB203_194, fun h0_ => absurd ((hoff 7 (by kernel_rfl)).symm.trans h0_) (by decide), Q_X6_⟩
   refine steps_cons ?_ ?_
   ·rintro b a w' ⟨gb203, m6_, ha, Q_BK192, Q_BK193, Q_BK194, Q_HB, Q_BK203, Q_GW203, Q_GE203, Q_NB192_203, Q_NB203_192, Q_NB193_203, Q_NB203_193, Q_NB194_203, Q_NB203_194, Q_BK203_e7, Q_X6_⟩ hb_ hon hoff
    refine ⟨_, rfl, fun K hK => ?_⟩
    have e10 : a.tmps[10]? = some (.pointer (some ⟨gb193, 0, none⟩)) := by rw [ha]; exact (putSel_off rfl).trans rfl
    replace ha := Aside0.mk ha
    have BK192 := Aside0.mk Q_BK192
    have BK193 := Aside0.mk Q_BK193
    have BK194 := Aside0.mk Q_BK194
    have HB := Aside0.mk Q_HB
    have hc0_ : w'.cell? ⟨gb193, 0, none⟩ = some (.int .i64 t188) := (blk_cell BK193.out 0).trans rfl
    have hc1_ : w'.cell? ⟨gb193, 1, none⟩ = some (.int .i64 t189) := (blk_cell BK193.out 1).trans rfl
    refine value_ (w1 := w') (v := .agg #[.int .i64 t188, .int .i64 t189]) (by rfl) rfl ?_ ?_
    ·go_simp
     (try simp only [i64_w])
     try rfl
    refine hK.out _ _ ⟨gb203, m6_, (by rw [ha.out]; exact putSel_upk 2 hb_ rfl rfl rfl), Q_BK192, Q_BK193, Q_BK194, Q_HB, Q_BK203, Q_GW203, Q_GE203, Q_NB192_203, Q_NB203_192, Q_NB193_203, Q_NB203_193, Q_NB194_203, Q_NB203_194, fun h0_ => absurd ((hoff 7 (by kernel_rfl)).symm.trans h0_) (by decide), Q_X6_⟩
   refine steps_cons ?_ ?_
   ·rintro b a w' ⟨gb203, m6_, ha, Q_BK192, Q_BK193, Q_BK194, Q_HB, Q_BK203, Q_GW203, Q_GE203, Q_NB192_203, Q_NB203_192, Q_NB193_203, Q_NB203_193, Q_NB194_203, Q_NB203_194, Q_BK203_e7, Q_X6_⟩ hb_ hon hoff
    refine ⟨_, rfl, fun K hK => ?_⟩
    have e11 : a.tmps[11]? = some (.pointer (some ⟨gb194, 0, none⟩)) := by rw [ha]; exact (putSel_off rfl).trans rfl
    replace ha := Aside0.mk ha
    have BK192 := Aside0.mk Q_BK192
    have BK193 := Aside0.mk Q_BK193
    have BK194 := Aside0.mk Q_BK194
    have HB := Aside0.mk Q_HB
    have hc0_ : w'.cell? ⟨gb194, 0, none⟩ = some (.int .i64 t190) := (blk_cell BK194.out 0).trans rfl
    have hc1_ : w'.cell? ⟨gb194, 1, none⟩ = some (.int .i64 t191) := (blk_cell BK194.out 1).trans rfl
    refine value_ (w1 := w') (v := .agg #[.int .i64 t190, .int .i64 t191]) (by rfl) rfl ?_ ?_
    ·go_simp
     (try simp only [i64_w])
     try rfl
    refine hK.out _ _ ⟨gb203, m6_, (by rw [ha.out]; exact putSel_upk 3 hb_ rfl rfl rfl), Q_BK192, Q_BK193, Q_BK194, Q_HB, Q_BK203, Q_GW203, Q_GE203, Q_NB192_203, Q_NB203_192, Q_NB193_203, Q_NB203_193, Q_NB194_203, Q_NB203_194, fun h0_ => absurd ((hoff 7 (by kernel_rfl)).symm.trans h0_) (by decide), Q_X6_⟩
   refine steps_cons ?_ ?_
   ·rintro b a w' ⟨gb203, m6_, ha, Q_BK192, Q_BK193, Q_BK194, Q_HB, Q_BK203, Q_GW203, Q_GE203, Q_NB192_203, Q_NB203_192, Q_NB193_203, Q_NB203_193, Q_NB194_203, Q_NB203_194, Q_BK203_e7, Q_X6_⟩ hb_ hon hoff
    refine ⟨_, rfl, fun K hK => ?_⟩
    have e31 : a.tmps[31]? = some (.agg #[.int .i64 t188, .int .i64 t189]) := by rw [ha]; exact putSel_on (e := (2, 31, .agg #[.int .i64 t188, .int .i64 t189])) 2 rfl rfl (hon 2 (by kernel_rfl)) rfl
    have e32 : a.tmps[32]? = some (.agg #[.int .i64 t190, .int .i64 t191]) := by rw [ha]; exact putSel_on (e := (3, 32, .agg #[.int .i64 t190, .int .i64 t191])) 3 rfl rfl (hon 3 (by kernel_rfl)) rfl
    replace ha := Aside0.mk ha
    have BK192 := Aside0.mk Q_BK192
    have BK193 := Aside0.mk Q_BK193
    have BK194 := Aside0.mk Q_BK194
    have HB := Aside0.mk Q_HB
    refine goes_ Try.func45 (by kernel_rfl) rfl #[.agg #[.int .i64 t188, .int .i64 t189], .agg #[.int .i64 t190, .int .i64 t191]] (by rfl) rfl rfl (by first | (simp only [List.map_toArray, List.map_cons, List.map_nil, Act.eval, Array.getD_eq_getD_getElem?, Option.getD_some, e31, e32]; done) | (simp only [List.map_toArray, List.map_cons, List.map_nil, Act.eval, Array.getD_eq_getD_getElem?, Option.getD_some, e31, e32]; rfl)) ?_
    with_reducible refine (pred_across.calls t188 t189 t190 t191 t197 t198 _ A11.out).mono ?_
    rintro e w57 ⟨rfl, hb⟩
    refine ⟨_, rfl, ?_⟩
    have n0_ := u1 BK192 hb
    have n1_ := u1 BK193 hb
    have n2_ := u1 BK194 hb
    have n3_ := Aside0.mk (below_step (bw HB.out) hb)
    have z_BK203 := fun (h0_ : b 6 = true) (h1_ : b 7 = false) => (show w57.heap[gb203]? = some (.cells #[.int .u64 0, .int .u64 0, .int .u64 0, .int .u64 0] 62 (0, 0)) from by first | exact (blk_below (g := gb203) (o := .cells #[.int .u64 0, .int .u64 0, .int .u64 0, .int .u64 0] 62 (0, 0)) (bk (Q_BK203 h0_ h1_)) hb))
    clear BK192
    clear BK193
    clear BK194
    clear HB
    have BK192 := n0_
    have BK193 := n1_
    have BK194 := n2_
    have HB := n3_
    clear n0_ n1_ n2_ n3_
    (try clear hb)
    (try clear hb2)
    (try clear hk)
    (try clear hi)
    refine hK.out _ _ ⟨gb203, m6_, (by rw [ha.out]; exact putSel_upk 4 hb_ rfl rfl rfl), (bk BK192.out), (bk BK193.out), (bk BK194.out), (bw HB.out), z_BK203, Q_GW203, Q_GE203, Q_NB192_203, Q_NB203_192, Q_NB193_203, Q_NB203_193, Q_NB194_203, Q_NB203_194, fun h0_ => absurd ((hoff 7 (by kernel_rfl)).symm.trans h0_) (by decide), Q_X6_⟩
   refine steps_cons ?_ ?_
   ·rintro b a w' ⟨gb203, m6_, ha, Q_BK192, Q_BK193, Q_BK194, Q_HB, Q_BK203, Q_GW203, Q_GE203, Q_NB192_203, Q_NB203_192, Q_NB193_203, Q_NB203_193, Q_NB194_203, Q_NB203_194, Q_BK203_e7, Q_X6_⟩ hb_ hon hoff
    refine ⟨_, rfl, fun K hK => ?_⟩
    have e30 : a.tmps[30]? = some (.agg #[.int .i64 t195, .int .u64 t196]) := by rw [ha]; exact putSel_on (e := (1, 30, .agg #[.int .i64 t195, .int .u64 t196])) 1 rfl rfl (hon 1 (by kernel_rfl)) rfl
    have e33 : a.tmps[33]? = some (.agg #[.int .i64 t197, .int .u64 t198]) := by rw [ha]; exact putSel_on (e := (4, 33, .agg #[.int .i64 t197, .int .u64 t198])) 4 rfl rfl (hon 4 (by kernel_rfl)) rfl
    replace ha := Aside0.mk ha
    have BK192 := Aside0.mk Q_BK192
    have BK193 := Aside0.mk Q_BK193
    have BK194 := Aside0.mk Q_BK194
    have HB := Aside0.mk Q_HB
    refine goes_ Try.func43 (by kernel_rfl) rfl #[.agg #[.int .i64 t195, .int .u64 t196], .agg #[.int .i64 t197, .int .u64 t198]] (by rfl) rfl rfl (by first | (simp only [List.map_toArray, List.map_cons, List.map_nil, Act.eval, Array.getD_eq_getD_getElem?, Option.getD_some, e30, e33]; done) | (simp only [List.map_toArray, List.map_cons, List.map_nil, Act.eval, Array.getD_eq_getD_getElem?, Option.getD_some, e30, e33]; rfl)) ?_
    with_reducible refine (quad_Mul.calls t195 t196 t197 t198 t199 t200 t201 t202 _ A12.out).mono ?_
    rintro e w58 ⟨rfl, hb⟩
    refine ⟨_, rfl, ?_⟩
    have n0_ := u1 BK192 hb
    have n1_ := u1 BK193 hb
    have n2_ := u1 BK194 hb
    have n3_ := Aside0.mk (below_step (bw HB.out) hb)
    have z_BK203 := fun (h0_ : b 6 = true) (h1_ : b 7 = false) => (show w58.heap[gb203]? = some (.cells #[.int .u64 0, .int .u64 0, .int .u64 0, .int .u64 0] 62 (0, 0)) from by first | exact (blk_below (g := gb203) (o := .cells #[.int .u64 0, .int .u64 0, .int .u64 0, .int .u64 0] 62 (0, 0)) (bk (Q_BK203 h0_ h1_)) hb))
    clear BK192
    clear BK193
    clear BK194
    clear HB
    have BK192 := n0_
    have BK193 := n1_
    have BK194 := n2_
    have HB := n3_
    clear n0_ n1_ n2_ n3_
    (try clear hb)
    (try clear hb2)
    (try clear hk)
    (try clear hi)
    refine hK.out _ _ ⟨gb203, m6_, (by rw [ha.out]; exact putSel_upk 5 hb_ rfl rfl rfl), (bk BK192.out), (bk BK193.out), (bk BK194.out), (bw HB.out), z_BK203, Q_GW203, Q_GE203, Q_NB192_203, Q_NB203_192, Q_NB193_203, Q_NB203_193, Q_NB194_203, Q_NB203_194, fun h0_ => absurd ((hoff 7 (by kernel_rfl)).symm.trans h0_) (by decide), Q_X6_⟩
   refine steps_cons ?_ ?_
   ·rintro b a w' ⟨gb203, m6_, ha, Q_BK192, Q_BK193, Q_BK194, Q_HB, Q_BK203, Q_GW203, Q_GE203, Q_NB192_203, Q_NB203_192, Q_NB193_203, Q_NB203_193, Q_NB194_203, Q_NB203_194, Q_BK203_e7, Q_X6_⟩ hb_ hon hoff
    refine ⟨_, rfl, fun K hK => ?_⟩
    replace ha := Aside0.mk ha
    have BK192 := Aside0.mk Q_BK192
    have BK193 := Aside0.mk Q_BK193
    have BK194 := Aside0.mk Q_BK194
    have HB := Aside0.mk Q_HB
    refine box_step ?hg (N := 12) ?hd (cs := #[.int .u64 0, .int .u64 0, .int .u64 0, .int .u64 0]) (t := 62) ?hr ?_; (case hd => rfl); (case hg => rfl); (case hr => first | (go_simp; done) | (go_simp; rfl))
    intro gb203 hg w55 hbox hb
    have n0_ := u1 BK192 hb
    have n1_ := u1 BK193 hb
    have n2_ := u1 BK194 hb
    have n3_ := Aside0.mk (below_step (bw HB.out) hb)
    have n4_ := Aside0.mk (hbox)
    have n5_ := Aside0.mk ((by rw [hg]; exact (below_size (bw HB.out)) : w.heap.size ≤ gb203))
    have n6_ := Aside0.mk ((by rw [hg]; exact (below_size (bw HB.out)) : w.heap.size ≤ gb203))
    have n7_ := Aside0.mk ((by rw [hg]; exact Nat.ne_of_lt (blk_lt (bk BK192.out)) : gb192 ≠ gb203))
    have n8_ := Aside0.mk ((by rw [hg]; exact Nat.ne_of_gt (blk_lt (bk BK192.out)) : gb203 ≠ gb192))
    have n9_ := Aside0.mk ((by rw [hg]; exact Nat.ne_of_lt (blk_lt (bk BK193.out)) : gb193 ≠ gb203))
    have n10_ := Aside0.mk ((by rw [hg]; exact Nat.ne_of_gt (blk_lt (bk BK193.out)) : gb203 ≠ gb193))
    have n11_ := Aside0.mk ((by rw [hg]; exact Nat.ne_of_lt (blk_lt (bk BK194.out)) : gb194 ≠ gb203))
    have n12_ := Aside0.mk ((by rw [hg]; exact Nat.ne_of_gt (blk_lt (bk BK194.out)) : gb203 ≠ gb194))
    clear BK192
    clear BK193
    clear BK194
    clear HB
    have BK192 := n0_
    have BK193 := n1_
    have BK194 := n2_
    have HB := n3_
    have BK203 := n4_
    have GW203 := n5_
    have GE203 := n6_
    have NB192_203 := n7_
    have NB203_192 := n8_
    have NB193_203 := n9_
    have NB203_193 := n10_
    have NB194_203 := n11_
    have NB203_194 := n12_
    clear n0_ n1_ n2_ n3_ n4_ n5_ n6_ n7_ n8_ n9_ n10_ n11_ n12_
    clear hb hbox hg
    refine hK.out _ _ ⟨gb203, (.pointer (some ⟨gb203, 0, none⟩)), (by rw [ha.out]; exact putSel_upk 6 hb_ rfl rfl rfl), (bk BK192.out), (bk BK193.out), (bk BK194.out), (bw HB.out), fun _ _ => (bk BK203.out), fun _ => GW203.out, fun _ => GE203.out, fun _ => NB192_203.out, fun _ => NB203_192.out, fun _ => NB193_203.out, fun _ => NB203_193.out, fun _ => NB194_203.out, fun _ => NB203_194.out, fun h0_ => absurd ((hoff 7 (by kernel_rfl)).symm.trans h0_) (by decide), fun _ => rfl⟩
   refine steps_cons ?_ ?_
   ·rintro b a w' ⟨gb203, m6_, ha, Q_BK192, Q_BK193, Q_BK194, Q_HB, Q_BK203, Q_GW203, Q_GE203, Q_NB192_203, Q_NB203_192, Q_NB193_203, Q_NB203_193, Q_NB194_203, Q_NB203_194, Q_BK203_e7, Q_X6_⟩ hb_ hon hoff
    refine ⟨_, rfl, fun K hK => ?_⟩
    have e12 : a.tmps[12]? = some (m6_) := by rw [ha]; exact putSel_on (e := (6, 12, m6_)) 6 rfl rfl (hon 6 (by kernel_rfl)) rfl
    rw [Q_X6_ (hon 6 (by kernel_rfl))] at e12
    have e34 : a.tmps[34]? = some (.agg #[.int .u64 t199, .int .u64 t200, .int .u64 t201, .int .u64 t202]) := by rw [ha]; exact putSel_on (e := (5, 34, .agg #[.int .u64 t199, .int .u64 t200, .int .u64 t201, .int .u64 t202])) 5 rfl rfl (hon 5 (by kernel_rfl)) rfl
    replace ha := Aside0.mk ha
    have BK192 := Aside0.mk Q_BK192
    have BK193 := Aside0.mk Q_BK193
    have BK194 := Aside0.mk Q_BK194
    have HB := Aside0.mk Q_HB
    have BK203 := Aside0.mk (Q_BK203 (hon 6 (by kernel_rfl)) hb_)
    have GW203 := Aside0.mk (Q_GW203 (hon 6 (by kernel_rfl)))
    have GE203 := Aside0.mk (Q_GE203 (hon 6 (by kernel_rfl)))
    have NB192_203 := Aside0.mk (Q_NB192_203 (hon 6 (by kernel_rfl)))
    have NB203_192 := Aside0.mk (Q_NB203_192 (hon 6 (by kernel_rfl)))
    have NB193_203 := Aside0.mk (Q_NB193_203 (hon 6 (by kernel_rfl)))
    have NB203_193 := Aside0.mk (Q_NB203_193 (hon 6 (by kernel_rfl)))
    have NB194_203 := Aside0.mk (Q_NB194_203 (hon 6 (by kernel_rfl)))
    have NB203_194 := Aside0.mk (Q_NB203_194 (hon 6 (by kernel_rfl)))
    have hs60 : w'.cell? ⟨gb203, 0, none⟩ = some (.int .u64 0) := (blk_cell BK203.out 0).trans rfl
    have hfs60 := blk_frozen BK203.out 0
    have hns60_0 := NB192_203.out
    have hns60_1 := NB193_203.out
    have hns60_2 := NB194_203.out
    have hms60_0 := NB203_192.out
    have hms60_1 := NB203_193.out
    have hms60_2 := NB203_194.out
    have hs61 : w'.cell? ⟨gb203, 1, none⟩ = some (.int .u64 0) := (blk_cell BK203.out 1).trans rfl
    have hfs61 := blk_frozen BK203.out 1
    have hns61_0 := NB192_203.out
    have hns61_1 := NB193_203.out
    have hns61_2 := NB194_203.out
    have hms61_0 := NB203_192.out
    have hms61_1 := NB203_193.out
    have hms61_2 := NB203_194.out
    have hs62 : w'.cell? ⟨gb203, 2, none⟩ = some (.int .u64 0) := (blk_cell BK203.out 2).trans rfl
    have hfs62 := blk_frozen BK203.out 2
    have hns62_0 := NB192_203.out
    have hns62_1 := NB193_203.out
    have hns62_2 := NB194_203.out
    have hms62_0 := NB203_192.out
    have hms62_1 := NB203_193.out
    have hms62_2 := NB203_194.out
    have hs63 : w'.cell? ⟨gb203, 3, none⟩ = some (.int .u64 0) := (blk_cell BK203.out 3).trans rfl
    have hfs63 := blk_frozen BK203.out 3
    have hns63_0 := NB192_203.out
    have hns63_1 := NB193_203.out
    have hns63_2 := NB194_203.out
    have hms63_0 := NB203_192.out
    have hms63_1 := NB203_193.out
    have hms63_2 := NB203_194.out
    refine skip_ (w1 := ?_) (by rfl) rfl ?_ ?_
    rotate_left
    ·go_simp
     rfl
    refine hK.out _ _ ⟨gb203, m6_, (by rw [ha.out]; exact putSel_none (v := undef) rfl), (by (with_reducible repeat (first | refine blk_drewN ?_ _ | refine blk_drew ?_ | refine blk_alloc ?_ _)); refine blk_far ?_ NB192_203.out _; (with_reducible repeat (first | refine blk_drewN ?_ _ | refine blk_drew ?_ | refine blk_alloc ?_ _)); refine blk_far ?_ NB192_203.out _; (with_reducible repeat (first | refine blk_drewN ?_ _ | refine blk_drew ?_ | refine blk_alloc ?_ _)); refine blk_far ?_ NB192_203.out _; (with_reducible repeat (first | refine blk_drewN ?_ _ | refine blk_drew ?_ | refine blk_alloc ?_ _)); refine blk_far ?_ NB192_203.out _; (with_reducible repeat (first | refine blk_drewN ?_ _ | refine blk_drew ?_ | refine blk_alloc ?_ _)); exact BK192.out), (by (with_reducible repeat (first | refine blk_drewN ?_ _ | refine blk_drew ?_ | refine blk_alloc ?_ _)); refine blk_far ?_ NB193_203.out _; (with_reducible repeat (first | refine blk_drewN ?_ _ | refine blk_drew ?_ | refine blk_alloc ?_ _)); refine blk_far ?_ NB193_203.out _; (with_reducible repeat (first | refine blk_drewN ?_ _ | refine blk_drew ?_ | refine blk_alloc ?_ _)); refine blk_far ?_ NB193_203.out _; (with_reducible repeat (first | refine blk_drewN ?_ _ | refine blk_drew ?_ | refine blk_alloc ?_ _)); refine blk_far ?_ NB193_203.out _; (with_reducible repeat (first | refine blk_drewN ?_ _ | refine blk_drew ?_ | refine blk_alloc ?_ _)); exact BK193.out), (by (with_reducible repeat (first | refine blk_drewN ?_ _ | refine blk_drew ?_ | refine blk_alloc ?_ _)); refine blk_far ?_ NB194_203.out _; (with_reducible repeat (first | refine blk_drewN ?_ _ | refine blk_drew ?_ | refine blk_alloc ?_ _)); refine blk_far ?_ NB194_203.out _; (with_reducible repeat (first | refine blk_drewN ?_ _ | refine blk_drew ?_ | refine blk_alloc ?_ _)); refine blk_far ?_ NB194_203.out _; (with_reducible repeat (first | refine blk_drewN ?_ _ | refine blk_drew ?_ | refine blk_alloc ?_ _)); refine blk_far ?_ NB194_203.out _; (with_reducible repeat (first | refine blk_drewN ?_ _ | refine blk_drew ?_ | refine blk_alloc ?_ _)); exact BK194.out), (by repeat (first | (with_reducible first | exact HB.out | apply below_alloc | apply pw_below_drewN | apply below_drew1 | refine below_set ?_ GE192.out | refine below_set ?_ GE193.out | refine below_set ?_ GE194.out | refine below_set ?_ GE203.out) | exact HB.out)), fun _ h1_ => absurd ((up_self b 7).symm.trans h1_) (by decide), fun _ => GW203.out, fun _ => GE203.out, fun _ => NB192_203.out, fun _ => NB203_192.out, fun _ => NB193_203.out, fun _ => NB203_193.out, fun _ => NB194_203.out, fun _ => NB203_194.out, fun _ => (by (with_reducible repeat (first | refine blk_drewN ?_ _ | refine blk_drew ?_ | refine blk_alloc ?_ _)); refine blk_put (cs := #[.int .u64 t199, .int .u64 t200, .int .u64 t201, .int .u64 0]) ?_ 3 _ rfl; (with_reducible repeat (first | refine blk_drewN ?_ _ | refine blk_drew ?_ | refine blk_alloc ?_ _)); refine blk_put (cs := #[.int .u64 t199, .int .u64 t200, .int .u64 0, .int .u64 0]) ?_ 2 _ rfl; (with_reducible repeat (first | refine blk_drewN ?_ _ | refine blk_drew ?_ | refine blk_alloc ?_ _)); refine blk_put (cs := #[.int .u64 t199, .int .u64 0, .int .u64 0, .int .u64 0]) ?_ 1 _ rfl; (with_reducible repeat (first | refine blk_drewN ?_ _ | refine blk_drew ?_ | refine blk_alloc ?_ _)); refine blk_put (cs := #[.int .u64 0, .int .u64 0, .int .u64 0, .int .u64 0]) ?_ 0 _ rfl; (with_reducible repeat (first | refine blk_drewN ?_ _ | refine blk_drew ?_ | refine blk_alloc ?_ _)); exact BK203.out), Q_X6_⟩
   exact steps_nil
  rintro b a w63 hall ⟨gb203, m6_, ha, Q_BK192, Q_BK193, Q_BK194, Q_HB, Q_BK203, Q_GW203, Q_GE203, Q_NB192_203, Q_NB203_192, Q_NB193_203, Q_NB203_193, Q_NB194_203, Q_NB203_194, Q_BK203_e7, Q_X6_⟩
  clear BK192 BK193 BK194 HB
  have hb0_ := hall 0 (by kernel_rfl)
  have hb1_ := hall 1 (by kernel_rfl)
  have hb2_ := hall 2 (by kernel_rfl)
  have hb3_ := hall 3 (by kernel_rfl)
  have hb4_ := hall 4 (by kernel_rfl)
  have hb5_ := hall 5 (by kernel_rfl)
  have hb6_ := hall 6 (by kernel_rfl)
  have hb7_ := hall 7 (by kernel_rfl)
  subst ha
  obtain rfl := Q_X6_ hb6_
  simp only [putSel, hb0_, hb1_, hb2_, hb3_, hb4_, hb5_, hb6_, hb7_, if_true, Act.put, List.setIfInBounds_toArray, List.set_cons_zero, List.set_cons_succ]
  have BK192 := Aside0.mk Q_BK192
  clear Q_BK192
  have BK193 := Aside0.mk Q_BK193
  clear Q_BK193
  have BK194 := Aside0.mk Q_BK194
  clear Q_BK194
  have HB := Aside0.mk Q_HB
  clear Q_HB
  clear Q_BK203
  have GW203 := Aside0.mk (Q_GW203 hb6_)
  clear Q_GW203
  have GE203 := Aside0.mk (Q_GE203 hb6_)
  clear Q_GE203
  have NB192_203 := Aside0.mk (Q_NB192_203 hb6_)
  clear Q_NB192_203
  have NB203_192 := Aside0.mk (Q_NB203_192 hb6_)
  clear Q_NB203_192
  have NB193_203 := Aside0.mk (Q_NB193_203 hb6_)
  clear Q_NB193_203
  have NB203_193 := Aside0.mk (Q_NB203_193 hb6_)
  clear Q_NB203_193
  have NB194_203 := Aside0.mk (Q_NB194_203 hb6_)
  clear Q_NB194_203
  have NB203_194 := Aside0.mk (Q_NB203_194 hb6_)
  clear Q_NB203_194
  have BK203 := Aside0.mk (Q_BK203_e7 hb7_)
  clear Q_BK203_e7
  clear hall hb0_ hb1_ hb2_ hb3_ hb4_ hb5_ hb6_ hb7_
  try go_wp2
  have n0_ := Aside0.mk (blk_drew BK192.out)
  have n1_ := Aside0.mk (blk_drew BK193.out)
  have n2_ := Aside0.mk (blk_drew BK194.out)
  have n3_ := Aside0.mk (blk_drew BK203.out)
  have n4_ := Aside0.mk (below_drew1 HB.out)
  clear BK192
  clear BK193
  clear BK194
  clear BK203
  clear HB
  have BK192 := n0_
  have BK193 := n1_
  have BK194 := n2_
  have BK203 := n3_
  have HB := n4_
  clear n0_ n1_ n2_ n3_ n4_
  refine start_ (n := 9) (S := fun w' => w'.cell? ⟨gb203, 0, none⟩ = some (.int .u64 t199) ∧ w'.cell? ⟨gb203, 1, none⟩ = some (.int .u64 t200) ∧ w'.cell? ⟨gb203, 2, none⟩ = some (.int .u64 t201) ∧ w'.cell? ⟨gb203, 3, none⟩ = some (.int .u64 t202) ∧ w'.cell? ⟨gb193, 0, none⟩ = some (.int .i64 t188) ∧ w'.cell? ⟨gb193, 1, none⟩ = some (.int .i64 t189) ∧ w'.cell? ⟨gb194, 0, none⟩ = some (.int .i64 t190) ∧ w'.cell? ⟨gb194, 1, none⟩ = some (.int .i64 t191) ∧ w'.cell? ⟨gb192, 0, none⟩ = some (.int .i64 t186) ∧ w'.cell? ⟨gb192, 1, none⟩ = some (.int .i64 t187)) (ds := [8]) #[F_,F_,F_,F_,F_,F_,F_,F_,F_] (by kernel_rfl) rfl rfl ⟨(blk_cell BK203.out 0).trans rfl, (blk_cell BK203.out 1).trans rfl, (blk_cell BK203.out 2).trans rfl, (blk_cell BK203.out 3).trans rfl, (blk_cell BK193.out 0).trans rfl, (blk_cell BK193.out 1).trans rfl, (blk_cell BK194.out 0).trans rfl, (blk_cell BK194.out 1).trans rfl, (blk_cell BK192.out 0).trans rfl, (blk_cell BK192.out 1).trans rfl⟩ (fun hHeld => ?_); refine with_tabW pred_InCircle.tab5 pred_InCircle.bits5 (fun HT_ HW_ => ?_)
  generalize w63.drew = w64 at BK192 BK193 BK194 BK203 HB hHeld ⊢
  refine tA (i := 0) (N := some 35) (v := ?_) (a' := ?_) #[T_,F_,F_,F_,F_,F_,F_,F_,F_] rfl rfl HT_ HW_ (Or.inl ⟨by rfl, ?_⟩) hHeld ?_ ?_
  rotate_left
  ·rintro w' ⟨s0, s1, s2, s3, s4, s5, s6, s7, s8, s9⟩
   go_simp
   with_reducible rfl
  rotate_left
  ·simp only [Act.put, s1, s2, s3, i64_w, i32_w]
   rfl
  refine tA (i := 1) (N := some 36) (v := ?_) (a' := ?_) #[T_,T_,F_,F_,F_,F_,F_,F_,F_] rfl rfl HT_ HW_ (Or.inl ⟨by rfl, ?_⟩) hHeld ?_ ?_
  rotate_left
  ·rintro w' ⟨s0, s1, s2, s3, s4, s5, s6, s7, s8, s9⟩
   go_simp
   with_reducible rfl
  rotate_left
  ·simp only [Act.put, s1, s2, s3, i64_w, i32_w]
   rfl
  refine tA (i := 3) (N := some 38) (v := ?_) (a' := ?_) #[T_,T_,F_,T_,F_,F_,F_,F_,F_] rfl rfl HT_ HW_ (Or.inl ⟨by rfl, ?_⟩) hHeld ?_ ?_
  rotate_left
  ·rintro w' ⟨s0, s1, s2, s3, s4, s5, s6, s7, s8, s9⟩
   go_simp
   with_reducible rfl
  rotate_left
  ·simp only [Act.put, s1, s2, s3, i64_w, i32_w]
   rfl
  refine tA (i := 4) (N := some 39) (v := ?_) (a' := ?_) #[T_,T_,F_,T_,T_,F_,F_,F_,F_] rfl rfl HT_ HW_ (Or.inl ⟨by rfl, ?_⟩) hHeld ?_ ?_
  rotate_left
  ·rintro w' ⟨s0, s1, s2, s3, s4, s5, s6, s7, s8, s9⟩
   go_simp
   with_reducible rfl
  rotate_left
  ·simp only [Act.put, s1, s2, s3, i64_w, i32_w]
   rfl
  refine one_ (i := 2) (N := some 37) #[T_,T_,T_,T_,T_,F_,F_,F_,F_] rfl rfl (one_of HT_.out (by kernel_rfl)) (by decide) (fun K hK => ?_)
  refine goes_ Try.func44 (by kernel_rfl) rfl #[.agg #[.int .i64 t188, .int .i64 t189]] (by rfl) rfl rfl (by (try simp only [List.map_toArray, List.map_cons, List.map_nil]); first | done | rfl | (simp only [List.length_drop, List.length_take]; rfl)) ?_
  with_reducible refine (pred_square.calls t188 t189 t204 t205 _ A13.out).mono ?_
  rintro e w65 ⟨rfl, hb⟩
  refine ⟨_, rfl, ?_⟩
  have n0_ := u1 BK192 hb
  have n1_ := u1 BK193 hb
  have n2_ := u1 BK194 hb
  have n3_ := u1 BK203 hb
  have n4_ := Aside0.mk (below_step (bw HB.out) hb)
  clear BK192
  clear BK193
  clear BK194
  clear BK203
  clear HB
  have BK192 := n0_
  have BK193 := n1_
  have BK194 := n2_
  have BK203 := n3_
  have HB := n4_
  clear n0_ n1_ n2_ n3_ n4_
  (try clear hb)
  (try clear hb2)
  (try clear hk)
  (try clear hi)
  refine hK.out _ _ ⟨(blk_cell BK203.out 0).trans rfl, (blk_cell BK203.out 1).trans rfl, (blk_cell BK203.out 2).trans rfl, (blk_cell BK203.out 3).trans rfl, (blk_cell BK193.out 0).trans rfl, (blk_cell BK193.out 1).trans rfl, (blk_cell BK194.out 0).trans rfl, (blk_cell BK194.out 1).trans rfl, (blk_cell BK192.out 0).trans rfl, (blk_cell BK192.out 1).trans rfl⟩ (fun hHeld => ?_)
  clear hK K
  refine norm_ (a' := ?_) ?_ ?_
  rotate_left
  ·show Act.put _ (some 37) _ = _
   simp only [Act.put, s1, s2, s3, i64_w, i32_w]
   rfl
  refine one_ (i := 5) (N := some 40) #[T_,T_,T_,T_,T_,T_,F_,F_,F_] rfl rfl (one_of HT_.out (by kernel_rfl)) (by decide) (fun K hK => ?_)
  refine goes_ Try.func45 (by kernel_rfl) rfl #[.agg #[.int .i64 t190, .int .i64 t191], .agg #[.int .i64 t186, .int .i64 t187]] (by rfl) rfl rfl (by (try simp only [List.map_toArray, List.map_cons, List.map_nil]); first | done | rfl | (simp only [List.length_drop, List.length_take]; rfl)) ?_
  with_reducible refine (pred_across.calls t190 t191 t186 t187 t206 t207 _ A14.out).mono ?_
  rintro e w66 ⟨rfl, hb⟩
  refine ⟨_, rfl, ?_⟩
  have n0_ := u1 BK192 hb
  have n1_ := u1 BK193 hb
  have n2_ := u1 BK194 hb
  have n3_ := u1 BK203 hb
  have n4_ := Aside0.mk (below_step (bw HB.out) hb)
  clear BK192
  clear BK193
  clear BK194
  clear BK203
  clear HB
  have BK192 := n0_
  have BK193 := n1_
  have BK194 := n2_
  have BK203 := n3_
  have HB := n4_
  clear n0_ n1_ n2_ n3_ n4_
  (try clear hb)
  (try clear hb2)
  (try clear hk)
  (try clear hi)
  refine hK.out _ _ ⟨(blk_cell BK203.out 0).trans rfl, (blk_cell BK203.out 1).trans rfl, (blk_cell BK203.out 2).trans rfl, (blk_cell BK203.out 3).trans rfl, (blk_cell BK193.out 0).trans rfl, (blk_cell BK193.out 1).trans rfl, (blk_cell BK194.out 0).trans rfl, (blk_cell BK194.out 1).trans rfl, (blk_cell BK192.out 0).trans rfl, (blk_cell BK192.out 1).trans rfl⟩ (fun hHeld => ?_)
  clear hK K
  refine norm_ (a' := ?_) ?_ ?_
  rotate_left
  ·show Act.put _ (some 40) _ = _
   simp only [Act.put, s1, s2, s3, i64_w, i32_w]
   rfl
  refine one_ (i := 6) (N := some 41) #[T_,T_,T_,T_,T_,T_,T_,F_,F_] rfl rfl (one_of HT_.out (by kernel_rfl)) (by decide) (fun K hK => ?_)
  refine goes_ Try.func43 (by kernel_rfl) rfl #[.agg #[.int .i64 t204, .int .u64 t205], .agg #[.int .i64 t206, .int .u64 t207]] (by rfl) rfl rfl (by (try simp only [List.map_toArray, List.map_cons, List.map_nil]); first | done | rfl | (simp only [List.length_drop, List.length_take]; rfl)) ?_
  with_reducible refine (quad_Mul.calls t204 t205 t206 t207 t208 t209 t210 t211 _ A15.out).mono ?_
  rintro e w67 ⟨rfl, hb⟩
  refine ⟨_, rfl, ?_⟩
  have n0_ := u1 BK192 hb
  have n1_ := u1 BK193 hb
  have n2_ := u1 BK194 hb
  have n3_ := u1 BK203 hb
  have n4_ := Aside0.mk (below_step (bw HB.out) hb)
  clear BK192
  clear BK193
  clear BK194
  clear BK203
  clear HB
  have BK192 := n0_
  have BK193 := n1_
  have BK194 := n2_
  have BK203 := n3_
  have HB := n4_
  clear n0_ n1_ n2_ n3_ n4_
  (try clear hb)
  (try clear hb2)
  (try clear hk)
  (try clear hi)
  refine hK.out _ _ ⟨(blk_cell BK203.out 0).trans rfl, (blk_cell BK203.out 1).trans rfl, (blk_cell BK203.out 2).trans rfl, (blk_cell BK203.out 3).trans rfl, (blk_cell BK193.out 0).trans rfl, (blk_cell BK193.out 1).trans rfl, (blk_cell BK194.out 0).trans rfl, (blk_cell BK194.out 1).trans rfl, (blk_cell BK192.out 0).trans rfl, (blk_cell BK192.out 1).trans rfl⟩ (fun hHeld => ?_)
  clear hK K
  refine norm_ (a' := ?_) ?_ ?_
  rotate_left
  ·show Act.put _ (some 41) _ = _
   simp only [Act.put, s1, s2, s3, i64_w, i32_w]
   rfl
  refine one_ (i := 7) (N := some 42) #[T_,T_,T_,T_,T_,T_,T_,T_,F_] rfl rfl (one_of HT_.out (by kernel_rfl)) (by decide) (fun K hK => ?_)
  refine goes_ Try.func46 (by kernel_rfl) rfl #[.agg #[.int .u64 t199, .int .u64 t200, .int .u64 t201, .int .u64 t202], .agg #[.int .u64 t208, .int .u64 t209, .int .u64 t210, .int .u64 t211]] (by rfl) rfl rfl (by (try simp only [List.map_toArray, List.map_cons, List.map_nil]); first | done | rfl | (simp only [List.length_drop, List.length_take]; rfl)) ?_
  with_reducible refine (quad_Add.calls t199 t200 t201 t202 t208 t209 t210 t211 t212 t213 t214 t215 _ A16.out).mono ?_
  rintro e w68 ⟨rfl, hb⟩
  refine ⟨_, rfl, ?_⟩
  have n0_ := u1 BK192 hb
  have n1_ := u1 BK193 hb
  have n2_ := u1 BK194 hb
  have n3_ := u1 BK203 hb
  have n4_ := Aside0.mk (below_step (bw HB.out) hb)
  clear BK192
  clear BK193
  clear BK194
  clear BK203
  clear HB
  have BK192 := n0_
  have BK193 := n1_
  have BK194 := n2_
  have BK203 := n3_
  have HB := n4_
  clear n0_ n1_ n2_ n3_ n4_
  (try clear hb)
  (try clear hb2)
  (try clear hk)
  (try clear hi)
  refine hK.out _ _ ⟨(blk_cell BK203.out 0).trans rfl, (blk_cell BK203.out 1).trans rfl, (blk_cell BK203.out 2).trans rfl, (blk_cell BK203.out 3).trans rfl, (blk_cell BK193.out 0).trans rfl, (blk_cell BK193.out 1).trans rfl, (blk_cell BK194.out 0).trans rfl, (blk_cell BK194.out 1).trans rfl, (blk_cell BK192.out 0).trans rfl, (blk_cell BK192.out 1).trans rfl⟩ (fun hHeld => ?_)
  clear hK K
  refine norm_ (a' := ?_) ?_ ?_
  rotate_left
  ·show Act.put _ (some 42) _ = _
   simp only [Act.put, s1, s2, s3, i64_w, i32_w]
   rfl
  refine last_ (i := 8) (N := none) #[T_,T_,T_,T_,T_,T_,T_,T_,T_] rfl rfl (one_of HT_.out (by kernel_rfl)) (by decide) (fun K hK => ?_)
  have hs69 : w68.cell? ⟨gb203, 0, none⟩ = some (.int .u64 t199) := (blk_cell BK203.out 0).trans rfl
  have hfs69 := blk_frozen BK203.out 0
  have hns69_0 := NB192_203.out
  have hns69_1 := NB193_203.out
  have hns69_2 := NB194_203.out
  have hms69_0 := NB203_192.out
  have hms69_1 := NB203_193.out
  have hms69_2 := NB203_194.out
  have hs70 : w68.cell? ⟨gb203, 1, none⟩ = some (.int .u64 t200) := (blk_cell BK203.out 1).trans rfl
  have hfs70 := blk_frozen BK203.out 1
  have hns70_0 := NB192_203.out
  have hns70_1 := NB193_203.out
  have hns70_2 := NB194_203.out
  have hms70_0 := NB203_192.out
  have hms70_1 := NB203_193.out
  have hms70_2 := NB203_194.out
  have hs71 : w68.cell? ⟨gb203, 2, none⟩ = some (.int .u64 t201) := (blk_cell BK203.out 2).trans rfl
  have hfs71 := blk_frozen BK203.out 2
  have hns71_0 := NB192_203.out
  have hns71_1 := NB193_203.out
  have hns71_2 := NB194_203.out
  have hms71_0 := NB203_192.out
  have hms71_1 := NB203_193.out
  have hms71_2 := NB203_194.out
  have hs72 : w68.cell? ⟨gb203, 3, none⟩ = some (.int .u64 t202) := (blk_cell BK203.out 3).trans rfl
  have hfs72 := blk_frozen BK203.out 3
  have hns72_0 := NB192_203.out
  have hns72_1 := NB193_203.out
  have hns72_2 := NB194_203.out
  have hms72_0 := NB203_192.out
  have hms72_1 := NB203_193.out
  have hms72_2 := NB203_194.out
  refine skip_ (w1 := ?_) (by rfl) rfl ?_ ?_
  rotate_left
  ·go_simp
   rfl
  refine hK.out _ _ ?_
  clear hK K
  refine done_ (done_of HT_.out (by kernel_rfl)) ?_
  try go_wp2
  have n0_ : Aside0 (((((w68.setCell ⟨gb203, 0, none⟩ (.int .u64 t212)).setCell ⟨gb203, 1, none⟩ (.int .u64 t213)).setCell ⟨gb203, 2, none⟩ (.int .u64 t214)).setCell ⟨gb203, 3, none⟩ (.int .u64 t215)).heap[gb192]? = some (.cells #[.int .i64 t186, .int .i64 t187] 23 (0, 0))) := ⟨by (with_reducible repeat (first | refine blk_drewN ?_ _ | refine blk_drew ?_ | refine blk_alloc ?_ _)); refine blk_far ?_ NB192_203.out _; refine blk_far ?_ NB192_203.out _; refine blk_far ?_ NB192_203.out _; refine blk_far ?_ NB192_203.out _; (with_reducible repeat (first | refine blk_drewN ?_ _ | refine blk_drew ?_ | refine blk_alloc ?_ _)); exact BK192.out⟩
  have n1_ : Aside0 (((((w68.setCell ⟨gb203, 0, none⟩ (.int .u64 t212)).setCell ⟨gb203, 1, none⟩ (.int .u64 t213)).setCell ⟨gb203, 2, none⟩ (.int .u64 t214)).setCell ⟨gb203, 3, none⟩ (.int .u64 t215)).heap[gb193]? = some (.cells #[.int .i64 t188, .int .i64 t189] 23 (0, 0))) := ⟨by (with_reducible repeat (first | refine blk_drewN ?_ _ | refine blk_drew ?_ | refine blk_alloc ?_ _)); refine blk_far ?_ NB193_203.out _; refine blk_far ?_ NB193_203.out _; refine blk_far ?_ NB193_203.out _; refine blk_far ?_ NB193_203.out _; (with_reducible repeat (first | refine blk_drewN ?_ _ | refine blk_drew ?_ | refine blk_alloc ?_ _)); exact BK193.out⟩
  have n2_ : Aside0 (((((w68.setCell ⟨gb203, 0, none⟩ (.int .u64 t212)).setCell ⟨gb203, 1, none⟩ (.int .u64 t213)).setCell ⟨gb203, 2, none⟩ (.int .u64 t214)).setCell ⟨gb203, 3, none⟩ (.int .u64 t215)).heap[gb194]? = some (.cells #[.int .i64 t190, .int .i64 t191] 23 (0, 0))) := ⟨by (with_reducible repeat (first | refine blk_drewN ?_ _ | refine blk_drew ?_ | refine blk_alloc ?_ _)); refine blk_far ?_ NB194_203.out _; refine blk_far ?_ NB194_203.out _; refine blk_far ?_ NB194_203.out _; refine blk_far ?_ NB194_203.out _; (with_reducible repeat (first | refine blk_drewN ?_ _ | refine blk_drew ?_ | refine blk_alloc ?_ _)); exact BK194.out⟩
  have n3_ : Aside0 (((((w68.setCell ⟨gb203, 0, none⟩ (.int .u64 t212)).setCell ⟨gb203, 1, none⟩ (.int .u64 t213)).setCell ⟨gb203, 2, none⟩ (.int .u64 t214)).setCell ⟨gb203, 3, none⟩ (.int .u64 t215)).heap[gb203]? = some (.cells #[.int .u64 t212, .int .u64 t213, .int .u64 t214, .int .u64 t215] 62 (0, 0))) := ⟨by (with_reducible repeat (first | refine blk_drewN ?_ _ | refine blk_drew ?_ | refine blk_alloc ?_ _)); refine blk_put (cs := #[.int .u64 t212, .int .u64 t213, .int .u64 t214, .int .u64 t202]) ?_ 3 _ rfl; refine blk_put (cs := #[.int .u64 t212, .int .u64 t213, .int .u64 t201, .int .u64 t202]) ?_ 2 _ rfl; refine blk_put (cs := #[.int .u64 t212, .int .u64 t200, .int .u64 t201, .int .u64 t202]) ?_ 1 _ rfl; refine blk_put (cs := #[.int .u64 t199, .int .u64 t200, .int .u64 t201, .int .u64 t202]) ?_ 0 _ rfl; (with_reducible repeat (first | refine blk_drewN ?_ _ | refine blk_drew ?_ | refine blk_alloc ?_ _)); exact BK203.out⟩
  have n4_ : Aside0 (Below w.heap.size w ((((w68.setCell ⟨gb203, 0, none⟩ (.int .u64 t212)).setCell ⟨gb203, 1, none⟩ (.int .u64 t213)).setCell ⟨gb203, 2, none⟩ (.int .u64 t214)).setCell ⟨gb203, 3, none⟩ (.int .u64 t215))) := ⟨by repeat (first | (with_reducible first | exact HB.out | apply below_alloc | apply pw_below_drewN | apply below_drew1 | refine below_set ?_ GE192.out | refine below_set ?_ GE193.out | refine below_set ?_ GE194.out | refine below_set ?_ GE203.out) | exact HB.out)⟩
  (try clear BK192)
  (try clear BK193)
  (try clear BK194)
  (try clear BK203)
  (try clear HB)
  generalize ((((w68.setCell ⟨gb203, 0, none⟩ (.int .u64 t212)).setCell ⟨gb203, 1, none⟩ (.int .u64 t213)).setCell ⟨gb203, 2, none⟩ (.int .u64 t214)).setCell ⟨gb203, 3, none⟩ (.int .u64 t215)) = w73 at n0_ n1_ n2_ n3_ n4_ ⊢
  have BK192 := n0_
  have BK193 := n1_
  have BK194 := n2_
  have BK203 := n3_
  have HB := n4_
  clear n0_ n1_ n2_ n3_ n4_
  have n0_ := Aside0.mk (blk_drew BK192.out)
  have n1_ := Aside0.mk (blk_drew BK193.out)
  have n2_ := Aside0.mk (blk_drew BK194.out)
  have n3_ := Aside0.mk (blk_drew BK203.out)
  have n4_ := Aside0.mk (below_drew1 HB.out)
  clear BK192
  clear BK193
  clear BK194
  clear BK203
  clear HB
  have BK192 := n0_
  have BK193 := n1_
  have BK194 := n2_
  have BK203 := n3_
  have HB := n4_
  clear n0_ n1_ n2_ n3_ n4_
  refine start_ (n := 9) (S := fun w' => w'.cell? ⟨gb203, 0, none⟩ = some (.int .u64 t212) ∧ w'.cell? ⟨gb203, 1, none⟩ = some (.int .u64 t213) ∧ w'.cell? ⟨gb203, 2, none⟩ = some (.int .u64 t214) ∧ w'.cell? ⟨gb203, 3, none⟩ = some (.int .u64 t215) ∧ w'.cell? ⟨gb194, 0, none⟩ = some (.int .i64 t190) ∧ w'.cell? ⟨gb194, 1, none⟩ = some (.int .i64 t191) ∧ w'.cell? ⟨gb192, 0, none⟩ = some (.int .i64 t186) ∧ w'.cell? ⟨gb192, 1, none⟩ = some (.int .i64 t187) ∧ w'.cell? ⟨gb193, 0, none⟩ = some (.int .i64 t188) ∧ w'.cell? ⟨gb193, 1, none⟩ = some (.int .i64 t189)) (ds := [8]) #[F_,F_,F_,F_,F_,F_,F_,F_,F_] (by kernel_rfl) rfl rfl ⟨(blk_cell BK203.out 0).trans rfl, (blk_cell BK203.out 1).trans rfl, (blk_cell BK203.out 2).trans rfl, (blk_cell BK203.out 3).trans rfl, (blk_cell BK194.out 0).trans rfl, (blk_cell BK194.out 1).trans rfl, (blk_cell BK192.out 0).trans rfl, (blk_cell BK192.out 1).trans rfl, (blk_cell BK193.out 0).trans rfl, (blk_cell BK193.out 1).trans rfl⟩ (fun hHeld => ?_); refine with_tabW pred_InCircle.tab6 pred_InCircle.bits6 (fun HT_ HW_ => ?_)
  generalize w73.drew = w74 at BK192 BK193 BK194 BK203 HB hHeld ⊢
  refine tA (i := 0) (N := some 43) (v := ?_) (a' := ?_) #[T_,F_,F_,F_,F_,F_,F_,F_,F_] rfl rfl HT_ HW_ (Or.inl ⟨by rfl, ?_⟩) hHeld ?_ ?_
  rotate_left
  ·rintro w' ⟨s0, s1, s2, s3, s4, s5, s6, s7, s8, s9⟩
   go_simp
   with_reducible rfl
  rotate_left
  ·simp only [Act.put, s1, s2, s3, i64_w, i32_w]
   rfl
  refine tA (i := 1) (N := some 44) (v := ?_) (a' := ?_) #[T_,T_,F_,F_,F_,F_,F_,F_,F_] rfl rfl HT_ HW_ (Or.inl ⟨by rfl, ?_⟩) hHeld ?_ ?_
  rotate_left
  ·rintro w' ⟨s0, s1, s2, s3, s4, s5, s6, s7, s8, s9⟩
   go_simp
   with_reducible rfl
  rotate_left
  ·simp only [Act.put, s1, s2, s3, i64_w, i32_w]
   rfl
  refine tA (i := 3) (N := some 46) (v := ?_) (a' := ?_) #[T_,T_,F_,T_,F_,F_,F_,F_,F_] rfl rfl HT_ HW_ (Or.inl ⟨by rfl, ?_⟩) hHeld ?_ ?_
  rotate_left
  ·rintro w' ⟨s0, s1, s2, s3, s4, s5, s6, s7, s8, s9⟩
   go_simp
   with_reducible rfl
  rotate_left
  ·simp only [Act.put, s1, s2, s3, i64_w, i32_w]
   rfl
  refine tA (i := 4) (N := some 47) (v := ?_) (a' := ?_) #[T_,T_,F_,T_,T_,F_,F_,F_,F_] rfl rfl HT_ HW_ (Or.inl ⟨by rfl, ?_⟩) hHeld ?_ ?_
  rotate_left
  ·rintro w' ⟨s0, s1, s2, s3, s4, s5, s6, s7, s8, s9⟩
   go_simp
   with_reducible rfl
  rotate_left
  ·simp only [Act.put, s1, s2, s3, i64_w, i32_w]
   rfl
  refine one_ (i := 2) (N := some 45) #[T_,T_,T_,T_,T_,F_,F_,F_,F_] rfl rfl (one_of HT_.out (by kernel_rfl)) (by decide) (fun K hK => ?_)
  refine goes_ Try.func44 (by kernel_rfl) rfl #[.agg #[.int .i64 t190, .int .i64 t191]] (by rfl) rfl rfl (by (try simp only [List.map_toArray, List.map_cons, List.map_nil]); first | done | rfl | (simp only [List.length_drop, List.length_take]; rfl)) ?_
  with_reducible refine (pred_square.calls t190 t191 t216 t217 _ A17.out).mono ?_
  rintro e w75 ⟨rfl, hb⟩
  refine ⟨_, rfl, ?_⟩
  have n0_ := u1 BK192 hb
  have n1_ := u1 BK193 hb
  have n2_ := u1 BK194 hb
  have n3_ := u1 BK203 hb
  have n4_ := Aside0.mk (below_step (bw HB.out) hb)
  clear BK192
  clear BK193
  clear BK194
  clear BK203
  clear HB
  have BK192 := n0_
  have BK193 := n1_
  have BK194 := n2_
  have BK203 := n3_
  have HB := n4_
  clear n0_ n1_ n2_ n3_ n4_
  (try clear hb)
  (try clear hb2)
  (try clear hk)
  (try clear hi)
  refine hK.out _ _ ⟨(blk_cell BK203.out 0).trans rfl, (blk_cell BK203.out 1).trans rfl, (blk_cell BK203.out 2).trans rfl, (blk_cell BK203.out 3).trans rfl, (blk_cell BK194.out 0).trans rfl, (blk_cell BK194.out 1).trans rfl, (blk_cell BK192.out 0).trans rfl, (blk_cell BK192.out 1).trans rfl, (blk_cell BK193.out 0).trans rfl, (blk_cell BK193.out 1).trans rfl⟩ (fun hHeld => ?_)
  clear hK K
  refine norm_ (a' := ?_) ?_ ?_
  rotate_left
  ·show Act.put _ (some 45) _ = _
   simp only [Act.put, s1, s2, s3, i64_w, i32_w]
   rfl
  refine one_ (i := 5) (N := some 48) #[T_,T_,T_,T_,T_,T_,F_,F_,F_] rfl rfl (one_of HT_.out (by kernel_rfl)) (by decide) (fun K hK => ?_)
  refine goes_ Try.func45 (by kernel_rfl) rfl #[.agg #[.int .i64 t186, .int .i64 t187], .agg #[.int .i64 t188, .int .i64 t189]] (by rfl) rfl rfl (by (try simp only [List.map_toArray, List.map_cons, List.map_nil]); first | done | rfl | (simp only [List.length_drop, List.length_take]; rfl)) ?_
  with_reducible refine (pred_across.calls t186 t187 t188 t189 t218 t219 _ A18.out).mono ?_
  rintro e w76 ⟨rfl, hb⟩
  refine ⟨_, rfl, ?_⟩
  have n0_ := u1 BK192 hb
  have n1_ := u1 BK193 hb
  have n2_ := u1 BK194 hb
  have n3_ := u1 BK203 hb
  have n4_ := Aside0.mk (below_step (bw HB.out) hb)
  clear BK192
  clear BK193
  clear BK194
  clear BK203
  clear HB
  have BK192 := n0_
  have BK193 := n1_
  have BK194 := n2_
  have BK203 := n3_
  have HB := n4_
  clear n0_ n1_ n2_ n3_ n4_
  (try clear hb)
  (try clear hb2)
  (try clear hk)
  (try clear hi)
  refine hK.out _ _ ⟨(blk_cell BK203.out 0).trans rfl, (blk_cell BK203.out 1).trans rfl, (blk_cell BK203.out 2).trans rfl, (blk_cell BK203.out 3).trans rfl, (blk_cell BK194.out 0).trans rfl, (blk_cell BK194.out 1).trans rfl, (blk_cell BK192.out 0).trans rfl, (blk_cell BK192.out 1).trans rfl, (blk_cell BK193.out 0).trans rfl, (blk_cell BK193.out 1).trans rfl⟩ (fun hHeld => ?_)
  clear hK K
  refine norm_ (a' := ?_) ?_ ?_
  rotate_left
  ·show Act.put _ (some 48) _ = _
   simp only [Act.put, s1, s2, s3, i64_w, i32_w]
   rfl
  refine one_ (i := 6) (N := some 49) #[T_,T_,T_,T_,T_,T_,T_,F_,F_] rfl rfl (one_of HT_.out (by kernel_rfl)) (by decide) (fun K hK => ?_)
  refine goes_ Try.func43 (by kernel_rfl) rfl #[.agg #[.int .i64 t216, .int .u64 t217], .agg #[.int .i64 t218, .int .u64 t219]] (by rfl) rfl rfl (by (try simp only [List.map_toArray, List.map_cons, List.map_nil]); first | done | rfl | (simp only [List.length_drop, List.length_take]; rfl)) ?_
  with_reducible refine (quad_Mul.calls t216 t217 t218 t219 t220 t221 t222 t223 _ A19.out).mono ?_
  rintro e w77 ⟨rfl, hb⟩
  refine ⟨_, rfl, ?_⟩
  have n0_ := u1 BK192 hb
  have n1_ := u1 BK193 hb
  have n2_ := u1 BK194 hb
  have n3_ := u1 BK203 hb
  have n4_ := Aside0.mk (below_step (bw HB.out) hb)
  clear BK192
  clear BK193
  clear BK194
  clear BK203
  clear HB
  have BK192 := n0_
  have BK193 := n1_
  have BK194 := n2_
  have BK203 := n3_
  have HB := n4_
  clear n0_ n1_ n2_ n3_ n4_
  (try clear hb)
  (try clear hb2)
  (try clear hk)
  (try clear hi)
  refine hK.out _ _ ⟨(blk_cell BK203.out 0).trans rfl, (blk_cell BK203.out 1).trans rfl, (blk_cell BK203.out 2).trans rfl, (blk_cell BK203.out 3).trans rfl, (blk_cell BK194.out 0).trans rfl, (blk_cell BK194.out 1).trans rfl, (blk_cell BK192.out 0).trans rfl, (blk_cell BK192.out 1).trans rfl, (blk_cell BK193.out 0).trans rfl, (blk_cell BK193.out 1).trans rfl⟩ (fun hHeld => ?_)
  clear hK K
  refine norm_ (a' := ?_) ?_ ?_
  rotate_left
  ·show Act.put _ (some 49) _ = _
   simp only [Act.put, s1, s2, s3, i64_w, i32_w]
   rfl
  refine one_ (i := 7) (N := some 50) #[T_,T_,T_,T_,T_,T_,T_,T_,F_] rfl rfl (one_of HT_.out (by kernel_rfl)) (by decide) (fun K hK => ?_)
  refine goes_ Try.func46 (by kernel_rfl) rfl #[.agg #[.int .u64 t212, .int .u64 t213, .int .u64 t214, .int .u64 t215], .agg #[.int .u64 t220, .int .u64 t221, .int .u64 t222, .int .u64 t223]] (by rfl) rfl rfl (by (try simp only [List.map_toArray, List.map_cons, List.map_nil]); first | done | rfl | (simp only [List.length_drop, List.length_take]; rfl)) ?_
  with_reducible refine (quad_Add.calls t212 t213 t214 t215 t220 t221 t222 t223 t224 t225 t226 t227 _ A20.out).mono ?_
  rintro e w78 ⟨rfl, hb⟩
  refine ⟨_, rfl, ?_⟩
  have n0_ := u1 BK192 hb
  have n1_ := u1 BK193 hb
  have n2_ := u1 BK194 hb
  have n3_ := u1 BK203 hb
  have n4_ := Aside0.mk (below_step (bw HB.out) hb)
  clear BK192
  clear BK193
  clear BK194
  clear BK203
  clear HB
  have BK192 := n0_
  have BK193 := n1_
  have BK194 := n2_
  have BK203 := n3_
  have HB := n4_
  clear n0_ n1_ n2_ n3_ n4_
  (try clear hb)
  (try clear hb2)
  (try clear hk)
  (try clear hi)
  refine hK.out _ _ ⟨(blk_cell BK203.out 0).trans rfl, (blk_cell BK203.out 1).trans rfl, (blk_cell BK203.out 2).trans rfl, (blk_cell BK203.out 3).trans rfl, (blk_cell BK194.out 0).trans rfl, (blk_cell BK194.out 1).trans rfl, (blk_cell BK192.out 0).trans rfl, (blk_cell BK192.out 1).trans rfl, (blk_cell BK193.out 0).trans rfl, (blk_cell BK193.out 1).trans rfl⟩ (fun hHeld => ?_)
  clear hK K
  refine norm_ (a' := ?_) ?_ ?_
  rotate_left
  ·show Act.put _ (some 50) _ = _
   simp only [Act.put, s1, s2, s3, i64_w, i32_w]
   rfl
  refine last_ (i := 8) (N := none) #[T_,T_,T_,T_,T_,T_,T_,T_,T_] rfl rfl (one_of HT_.out (by kernel_rfl)) (by decide) (fun K hK => ?_)
  have hs79 : w78.cell? ⟨gb203, 0, none⟩ = some (.int .u64 t212) := (blk_cell BK203.out 0).trans rfl
  have hfs79 := blk_frozen BK203.out 0
  have hns79_0 := NB192_203.out
  have hns79_1 := NB193_203.out
  have hns79_2 := NB194_203.out
  have hms79_0 := NB203_192.out
  have hms79_1 := NB203_193.out
  have hms79_2 := NB203_194.out
  have hs80 : w78.cell? ⟨gb203, 1, none⟩ = some (.int .u64 t213) := (blk_cell BK203.out 1).trans rfl
  have hfs80 := blk_frozen BK203.out 1
  have hns80_0 := NB192_203.out
  have hns80_1 := NB193_203.out
  have hns80_2 := NB194_203.out
  have hms80_0 := NB203_192.out
  have hms80_1 := NB203_193.out
  have hms80_2 := NB203_194.out
  have hs81 : w78.cell? ⟨gb203, 2, none⟩ = some (.int .u64 t214) := (blk_cell BK203.out 2).trans rfl
  have hfs81 := blk_frozen BK203.out 2
  have hns81_0 := NB192_203.out
  have hns81_1 := NB193_203.out
  have hns81_2 := NB194_203.out
  have hms81_0 := NB203_192.out
  have hms81_1 := NB203_193.out
  have hms81_2 := NB203_194.out
  have hs82 : w78.cell? ⟨gb203, 3, none⟩ = some (.int .u64 t215) := (blk_cell BK203.out 3).trans rfl
  have hfs82 := blk_frozen BK203.out 3
  have hns82_0 := NB192_203.out
  have hns82_1 := NB193_203.out
  have hns82_2 := NB194_203.out
  have hms82_0 := NB203_192.out
  have hms82_1 := NB203_193.out
  have hms82_2 := NB203_194.out
  refine skip_ (w1 := ?_) (by rfl) rfl ?_ ?_
  rotate_left
  ·go_simp
   rfl
  refine hK.out _ _ ?_
  clear hK K
  refine done_ (done_of HT_.out (by kernel_rfl)) ?_
  have hnb83 := NB203_192.out
  have hnc83 := NB192_203.out
  have hnb84 := NB203_193.out
  have hnc84 := NB193_203.out
  have hnb85 := NB203_194.out
  have hnc85 := NB194_203.out
  obtain ⟨_, _, _, _, _, _, _, _⟩ := p4 BK203
  try go_wp2_with (first | ((with_reducible refine gate_callee (f := 47) rfl ?_); refine goesL_ (some 52) rfl rfl Try.func47 (by kernel_rfl) rfl #[.agg #[.int .u64 t224, .int .u64 t225, .int .u64 t226, .int .u64 t227]] rfl (by (try simp only [List.map_toArray, List.map_cons, List.map_nil]); first | done | rfl | (simp only [List.length_drop, List.length_take]; rfl)) ?_; (with_reducible refine (quad_Sign.calls t224 t225 t226 t227 t228 _ A21.out).mono ?_); rintro e w87 ⟨rfl, hb⟩; refine ⟨_, rfl, ?_⟩; have n0_ := Aside0.mk (blk_below (g := gb192) (o := .cells #[.int .i64 t186, .int .i64 t187] 23 (0, 0)) (by (with_reducible repeat (first | refine blk_drewN ?_ _ | refine blk_drew ?_ | refine blk_alloc ?_ _)); refine blk_far ?_ NB192_203.out _; (with_reducible repeat (first | refine blk_drewN ?_ _ | refine blk_drew ?_ | refine blk_alloc ?_ _)); refine blk_far ?_ NB192_203.out _; (with_reducible repeat (first | refine blk_drewN ?_ _ | refine blk_drew ?_ | refine blk_alloc ?_ _)); refine blk_far ?_ NB192_203.out _; (with_reducible repeat (first | refine blk_drewN ?_ _ | refine blk_drew ?_ | refine blk_alloc ?_ _)); refine blk_far ?_ NB192_203.out _; (with_reducible repeat (first | refine blk_drewN ?_ _ | refine blk_drew ?_ | refine blk_alloc ?_ _)); exact BK192.out) hb); have n1_ := Aside0.mk (blk_below (g := gb193) (o := .cells #[.int .i64 t188, .int .i64 t189] 23 (0, 0)) (by (with_reducible repeat (first | refine blk_drewN ?_ _ | refine blk_drew ?_ | refine blk_alloc ?_ _)); refine blk_far ?_ NB193_203.out _; (with_reducible repeat (first | refine blk_drewN ?_ _ | refine blk_drew ?_ | refine blk_alloc ?_ _)); refine blk_far ?_ NB193_203.out _; (with_reducible repeat (first | refine blk_drewN ?_ _ | refine blk_drew ?_ | refine blk_alloc ?_ _)); refine blk_far ?_ NB193_203.out _; (with_reducible repeat (first | refine blk_drewN ?_ _ | refine blk_drew ?_ | refine blk_alloc ?_ _)); refine blk_far ?_ NB193_203.out _; (with_reducible repeat (first | refine blk_drewN ?_ _ | refine blk_drew ?_ | refine blk_alloc ?_ _)); exact BK193.out) hb); have n2_ := Aside0.mk (blk_below (g := gb194) (o := .cells #[.int .i64 t190, .int .i64 t191] 23 (0, 0)) (by (with_reducible repeat (first | refine blk_drewN ?_ _ | refine blk_drew ?_ | refine blk_alloc ?_ _)); refine blk_far ?_ NB194_203.out _; (with_reducible repeat (first | refine blk_drewN ?_ _ | refine blk_drew ?_ | refine blk_alloc ?_ _)); refine blk_far ?_ NB194_203.out _; (with_reducible repeat (first | refine blk_drewN ?_ _ | refine blk_drew ?_ | refine blk_alloc ?_ _)); refine blk_far ?_ NB194_203.out _; (with_reducible repeat (first | refine blk_drewN ?_ _ | refine blk_drew ?_ | refine blk_alloc ?_ _)); refine blk_far ?_ NB194_203.out _; (with_reducible repeat (first | refine blk_drewN ?_ _ | refine blk_drew ?_ | refine blk_alloc ?_ _)); exact BK194.out) hb); have n3_ := Aside0.mk (blk_below (g := gb203) (o := .cells #[.int .u64 t224, .int .u64 t225, .int .u64 t226, .int .u64 t227] 62 (0, 0)) (by (with_reducible repeat (first | refine blk_drewN ?_ _ | refine blk_drew ?_ | refine blk_alloc ?_ _)); refine blk_put (cs := #[.int .u64 t224, .int .u64 t225, .int .u64 t226, .int .u64 t215]) ?_ 3 _ rfl; (with_reducible repeat (first | refine blk_drewN ?_ _ | refine blk_drew ?_ | refine blk_alloc ?_ _)); refine blk_put (cs := #[.int .u64 t224, .int .u64 t225, .int .u64 t214, .int .u64 t215]) ?_ 2 _ rfl; (with_reducible repeat (first | refine blk_drewN ?_ _ | refine blk_drew ?_ | refine blk_alloc ?_ _)); refine blk_put (cs := #[.int .u64 t224, .int .u64 t213, .int .u64 t214, .int .u64 t215]) ?_ 1 _ rfl; (with_reducible repeat (first | refine blk_drewN ?_ _ | refine blk_drew ?_ | refine blk_alloc ?_ _)); refine blk_put (cs := #[.int .u64 t212, .int .u64 t213, .int .u64 t214, .int .u64 t215]) ?_ 0 _ rfl; (with_reducible repeat (first | refine blk_drewN ?_ _ | refine blk_drew ?_ | refine blk_alloc ?_ _)); exact BK203.out) hb); have n4_ := Aside0.mk (below_step (by repeat (first | (with_reducible first | exact HB.out | apply below_alloc | apply pw_below_drewN | apply below_drew1 | refine below_set ?_ GE192.out | refine below_set ?_ GE193.out | refine below_set ?_ GE194.out | refine below_set ?_ GE203.out) | exact HB.out)) hb); clear BK192; clear BK193; clear BK194; clear BK203; clear HB; have BK192 := n0_; have BK193 := n1_; have BK194 := n2_; have BK203 := n3_; have HB := n4_; clear n0_ n1_ n2_ n3_ n4_; clear hb))
  go_ret
  exact ⟨by first | rfl | (simp [*, errW_none, errW_some] <;> rfl), bw HB.out⟩
 ·replace c6 := Bool.eq_false_iff.mpr c6
  subst c6
  rw [if_neg (show ¬ (false = true) by decide)] at H
  obtain rfl := Option.some.inj H
  go_enter Try.func28, Try.ntmps28
  go_wp2_with (first | ((with_reducible refine gate_dst (N := 4) rfl ?_); refine bx 4 #[.int .i64 a0_0, .int .i64 a0_1] 23 ?_; intro gb178 hg w88 hbox hb; have BK178 := Aside0.mk hbox; have GW178 := u3 hg HB; have GE178 := u3 hg HB; replace HB := u2 HB hb; clear hb hbox hg) | ((with_reducible refine gate_dst (N := 5) rfl ?_); refine bx 5 #[.int .i64 a1_0, .int .i64 a1_1] 23 ?_; intro gb179 hg w89 hbox hb; have BK179 := Aside0.mk hbox; have GW179 := u3 hg HB; have GE179 := u3 hg HB; have NB178_179 := u4 hg BK178; have NB179_178 := u5 hg BK178; replace BK178 := u1 BK178 hb; replace HB := u2 HB hb; clear hb hbox hg) | ((with_reducible refine gate_dst (N := 6) rfl ?_); refine bx 6 #[.int .i64 a2_0, .int .i64 a2_1] 23 ?_; intro gb180 hg w90 hbox hb; have BK180 := Aside0.mk hbox; have GW180 := u3 hg HB; have GE180 := u3 hg HB; have NB178_180 := u4 hg BK178; have NB180_178 := u5 hg BK178; have NB179_180 := u4 hg BK179; have NB180_179 := u5 hg BK179; replace BK178 := u1 BK178 hb; replace BK179 := u1 BK179 hb; replace HB := u2 HB hb; clear hb hbox hg) | ((with_reducible refine gate_dst (N := 7) rfl ?_); refine bx 7 #[.int .i64 a3_0, .int .i64 a3_1] 23 ?_; intro gb181 hg w91 hbox hb; have BK181 := Aside0.mk hbox; have GW181 := u3 hg HB; have GE181 := u3 hg HB; have NB178_181 := u4 hg BK178; have NB181_178 := u5 hg BK178; have NB179_181 := u4 hg BK179; have NB181_179 := u5 hg BK179; have NB180_181 := u4 hg BK180; have NB181_180 := u5 hg BK180; replace BK178 := u1 BK178 hb; replace BK179 := u1 BK179 hb; replace BK180 := u1 BK180 hb; replace HB := u2 HB hb; clear hb hbox hg; have hnb92 := NB178_179.out; have hnc92 := NB179_178.out; have hnb93 := NB178_180.out; have hnc93 := NB180_178.out; have hnb94 := NB178_181.out; have hnc94 := NB181_178.out; obtain ⟨_, _, _, _⟩ := p2 BK178; have hnb96 := NB179_180.out; have hnc96 := NB180_179.out; have hnb97 := NB179_181.out; have hnc97 := NB181_179.out; obtain ⟨_, _, _, _⟩ := p2 BK179; have hnb99 := NB180_181.out; have hnc99 := NB181_180.out; obtain ⟨_, _, _, _⟩ := p2 BK180; obtain ⟨_, _, _, _⟩ := p2 BK181) | ((with_reducible refine gate_dst (N := 17) rfl ?_); refine Kd.R_lit k23 _ 23 ?hg (N := 17) ?hd (xs := ([(⟨a0_0, a0_1⟩ : S23), (⟨a1_0, a1_1⟩ : S23), (⟨a2_0, a2_1⟩ : S23), (⟨a3_0, a3_1⟩ : S23)] : List (S23))) (inner := [.int .i64 a0_0, .int .i64 a0_1, .int .i64 a1_0, .int .i64 a1_1, .int .i64 a2_0, .int .i64 a2_1, .int .i64 a3_0, .int .i64 a3_1]) (ok := fun _ => True) (okp := fun _ => True) ?hr ?hp (fun _ hk => hk) trivial (Below.refl _ _) (Nat.le_refl _) (by simp) ?_; (case hd => rfl); (case hg => rfl); (case hr => first | (go_simp; done) | (go_simp; rfl)); (case hp => exact (Reps.c2 (show Kd.M k23 _ _ _ (⟨a0_0, a0_1⟩ : S23) [.int .i64 a0_0, .int .i64 a0_1] from (k23_mkM _ _ _ (⟨a0_0, a0_1⟩ : S23) )) (Reps.c2 (show Kd.M k23 _ _ _ (⟨a1_0, a1_1⟩ : S23) [.int .i64 a1_0, .int .i64 a1_1] from (k23_mkM _ _ _ (⟨a1_0, a1_1⟩ : S23) )) (Reps.c2 (show Kd.M k23 _ _ _ (⟨a2_0, a2_1⟩ : S23) [.int .i64 a2_0, .int .i64 a2_1] from (k23_mkM _ _ _ (⟨a2_0, a2_1⟩ : S23) )) (Reps.c2 (show Kd.M k23 _ _ _ (⟨a3_0, a3_1⟩ : S23) [.int .i64 a3_0, .int .i64 a3_1] from (k23_mkM _ _ _ (⟨a3_0, a3_1⟩ : S23) )) (Reps.none _ _)))))); intro v183 w102 ho103 hb hg_ hnew_; clear hg_ hnew_; (first | rw [← Ny182.out] at ho103 | (simp only [Int.reduceToNat] at ho103; rw [← Ny182.out] at ho103)); have n0_ := Aside0.mk (Kd.R_lower (Kd.R_newB (Kd.R_newB (Kd.R_newB (Kd.R_newB ho103 (bk BK178.out)) (bk BK179.out)) (bk BK180.out)) (bk BK181.out)) (below_size (bw HB.out))); have n1_ := u1 BK178 hb; have n2_ := u1 BK179 hb; have n3_ := u1 BK180 hb; have n4_ := u1 BK181 hb; have n5_ := u2 HB hb; clear BK178; clear BK179; clear BK180; clear BK181; clear HB; have HO184 := n0_; have BK178 := n1_; have BK179 := n2_; have BK180 := n3_; have BK181 := n4_; have HB := n5_; clear n0_ n1_ n2_ n3_ n4_ n5_; clear hb ho103; obtain ⟨Ao104, co104, eo104⟩ := Kd.R_slice HO184.out; subst eo104) | ((with_reducible refine gate_callee (f := 39) rfl ?_); refine gL (some 18) Try.func39 #[.slice Ao104 y182.length co104] rfl ?_; (with_reducible refine (pred_can.calls k _ _ y182 false _ ?side1 ?side2 A5.out).mono ?_); (case side1 => repeat (first | exact (Kd.R_reads' HO184.out).2.2 | (with_reducible refine Kd.C_alloc ?_ _) | (with_reducible refine Kd.C_drewN ?_ _) | (with_reducible refine Kd.C_drew ?_))); (case side2 => exact (Kd.R_reads' HO184.out).2.1); rintro e w105 ⟨rfl, hb⟩; refine ⟨_, rfl, ?_⟩; have n0_ := Aside0.mk (Kd.R_below (by (with_reducible repeat (first | apply Kd.R_alloc | apply Kd.R_drewN | apply Kd.R_drew)); exact HO184.out) hb); have n1_ := u1 BK178 hb; have n2_ := u1 BK179 hb; have n3_ := u1 BK180 hb; have n4_ := u1 BK181 hb; have n5_ := u2 HB hb; clear HO184; clear BK178; clear BK179; clear BK180; clear BK181; clear HB; have HO184 := n0_; have BK178 := n1_; have BK179 := n2_; have BK180 := n3_; have BK181 := n4_; have HB := n5_; clear n0_ n1_ n2_ n3_ n4_ n5_; clear hb))
  go_ret
  exact ⟨by first | rfl | (simp [*, errW_none, errW_some] <;> rfl), bw HB.out⟩
end Go.Proofs.Ytlkngfidohiepaa.F
end
section
namespace Go.Proofs.Ytlkngfidohiepaa.Pd
open Go RowKit YtlkngfidohiepaaW.PrintWords Ytlkngfidohiepaa.F Ytlkngfidohiepaa.Wd Ytlkngfidohiepaa.Pm
set_option linter.unusedVariables false
theorem q256 (n : Int) : qv (q0 n) (q1 n) (q2 n) (q3 n) = n % 115792089237316195423570985008687907853269984665640564039457584007913129639936 := by unfold qv q0 q1 q2 q3; omega
theorem qcong {n m : Int} (h : n % 115792089237316195423570985008687907853269984665640564039457584007913129639936 = m % 115792089237316195423570985008687907853269984665640564039457584007913129639936) : qq4 n = qq4 m := by
 have e : n = m + 115792089237316195423570985008687907853269984665640564039457584007913129639936 * (n / 115792089237316195423570985008687907853269984665640564039457584007913129639936 - m / 115792089237316195423570985008687907853269984665640564039457584007913129639936) := by omega
 generalize n / 115792089237316195423570985008687907853269984665640564039457584007913129639936 - m / 115792089237316195423570985008687907853269984665640564039457584007913129639936 = t at e
 subst e
 clear h
 unfold qq4 q0 q1 q2 q3
 have d1 : (m + 115792089237316195423570985008687907853269984665640564039457584007913129639936 * t) / 18446744073709551616 = m / 18446744073709551616 + 6277101735386680763835789423207666416102355444464034512896 * t := by omega
 have d2 : (m / 18446744073709551616 + 6277101735386680763835789423207666416102355444464034512896 * t) / 18446744073709551616 = m / 18446744073709551616 / 18446744073709551616 + 340282366920938463463374607431768211456 * t := by omega
 have d3 : (m / 18446744073709551616 / 18446744073709551616 + 340282366920938463463374607431768211456 * t) / 18446744073709551616 = m / 18446744073709551616 / 18446744073709551616 / 18446744073709551616 + 18446744073709551616 * t := by omega
 rw [d1, d2, d3]
 have c0 : (m + 115792089237316195423570985008687907853269984665640564039457584007913129639936 * t) % 18446744073709551616 = m % 18446744073709551616 := by omega
 have c1 : (m / 18446744073709551616 + 6277101735386680763835789423207666416102355444464034512896 * t) % 18446744073709551616 = m / 18446744073709551616 % 18446744073709551616 := by omega
 have c2 : (m / 18446744073709551616 / 18446744073709551616 + 340282366920938463463374607431768211456 * t) % 18446744073709551616 = m / 18446744073709551616 / 18446744073709551616 % 18446744073709551616 := by omega
 have c3 : (m / 18446744073709551616 / 18446744073709551616 / 18446744073709551616 + 18446744073709551616 * t) % 18446744073709551616 = m / 18446744073709551616 / 18446744073709551616 / 18446744073709551616 % 18446744073709551616 := by omega
 rw [c0, c1, c2, c3]
theorem qmul_w {n m : Int} {B C : Nat} (h : Am n B) (h' : Am m C) (hB : B ≤ 170141183460469231731687303715884105727) (hC : C ≤ 170141183460469231731687303715884105727) : quad_Mul.f (whi n) (wlo n) (whi m) (wlo m) = some (qq4 (n * m)) := by
 unfold quad_Mul.f
 rw [if_pos ⟨wok_of _, wok_of _⟩, am_w h hB, am_w h' hC]
theorem qadd_w (n m : Int) : quad_Add.f (q0 n) (q1 n) (q2 n) (q3 n) (q0 m) (q1 m) (q2 m) (q3 m) = some (qq4 (n + m)) := by
 unfold quad_Add.f
 rw [if_pos ⟨q_ok _, q_ok _⟩, qcong (m := n + m) (by rw [q256, q256]; omega)]
theorem qsign_w {n : Int} {B : Nat} (h : Am n B) (hB : B < 57896044618658097711785492504343953926634992332820282019728792003956564819968) : quad_Sign.f (q0 n) (q1 n) (q2 n) (q3 n) = some n.sign := by
 unfold quad_Sign.f
 rw [if_pos (q_ok n)]
 have b := h.le
 have e := q256 n
 obtain ⟨⟨a0, a1⟩, ⟨b0, b1⟩, ⟨c0, c1⟩, ⟨d0, d1⟩⟩ := q_ok n
 generalize q0 n = x0 at *; generalize q1 n = x1 at *; generalize q2 n = x2 at *; generalize q3 n = x3 at *
 unfold qv at e
 congr 1
 by_cases k : 9223372036854775808 ≤ x3
 ·rw [if_pos k, Int.sign_eq_neg_one_of_neg (by omega)]
 ·rw [if_neg k]
  by_cases z : x0 = 0 ∧ x1 = 0 ∧ x2 = 0 ∧ x3 = 0
  ·rw [if_pos z, show n = 0 by omega]; rfl
  ·rw [if_neg z, Int.sign_eq_one_of_pos (by omega)]
def icS (a0 a1 b0 b1 c0 c1 d0 d1 : Int) : Int := if CoP a0 a1 ∧ CoP b0 b1 ∧ CoP c0 c1 ∧ CoP d0 d1 then (dt a0 a1 b0 b1 c0 c1 d0 d1).sign else 0
theorem InCircle_f (a0 a1 b0 b1 c0 c1 d0 d1 : Int) {k : Nat} (hk : 2000 ≤ k) : pred_InCircle.f k a0 a1 b0 b1 c0 c1 d0 d1 = some (icS a0 a1 b0 b1 c0 c1 d0 d1) := by
 unfold pred_InCircle.f icS
 rw [can4 _ _ _ _ _ _ _ _ hk, Option.bind_some]
 by_cases h : CoP a0 a1 ∧ CoP b0 b1 ∧ CoP c0 c1 ∧ CoP d0 d1
 ·obtain ⟨ha, hb, hc, hd⟩ := h
  have u0 := ha.1.way hd.1; have u1 := ha.2.way hd.2
  have v0 := hb.1.way hd.1; have v1 := hb.2.way hd.2
  have t0 := hc.1.way hd.1; have t1 := hc.2.way hd.2
  have m1 := qmul_w (square_am u0 u1) (cross_am v0 v1 t0 t1) (by omega) (by omega)
  have m2 := qmul_w (square_am v0 v1) (cross_am t0 t1 u0 u1) (by omega) (by omega)
  have m3 := qmul_w (square_am t0 t1) (cross_am u0 u1 v0 v1) (by omega) (by omega)
  unfold qq4 at m1 m2 m3
  have A1 := qadd_w (((a0 - d0) * (a0 - d0) + (a1 - d1) * (a1 - d1)) * ((b0 - d0) * (c1 - d1) - (b1 - d1) * (c0 - d0))) (((b0 - d0) * (b0 - d0) + (b1 - d1) * (b1 - d1)) * ((c0 - d0) * (a1 - d1) - (c1 - d1) * (a0 - d0)))
  have A2 := qadd_w (((a0 - d0) * (a0 - d0) + (a1 - d1) * (a1 - d1)) * ((b0 - d0) * (c1 - d1) - (b1 - d1) * (c0 - d0)) + ((b0 - d0) * (b0 - d0) + (b1 - d1) * (b1 - d1)) * ((c0 - d0) * (a1 - d1) - (c1 - d1) * (a0 - d0))) (((c0 - d0) * (c0 - d0) + (c1 - d1) * (c1 - d1)) * ((a0 - d0) * (b1 - d1) - (a1 - d1) * (b0 - d0)))
  unfold qq4 at A1 A2
  have S := qsign_w (dt_am ha.1 ha.2 hb.1 hb.2 hc.1 hc.2 hd.1 hd.2) (by omega)
  unfold dt at S
  rw [if_pos (decide_eq_true ⟨ha, hb, hc, hd⟩), way_f hd ha, Option.bind_some, way_f hd hb, Option.bind_some, way_f hd hc, Option.bind_some, square_f u0 u1, Option.bind_some, across_f v0 v1 t0 t1, Option.bind_some, m1, Option.bind_some, square_f v0 v1, Option.bind_some, across_f t0 t1 u0 u1, Option.bind_some, m2, Option.bind_some, A1, Option.bind_some,
   square_f t0 t1, Option.bind_some, across_f u0 u1 v0 v1, Option.bind_some, m3, Option.bind_some, A2, Option.bind_some, S, Option.bind_some, if_pos ⟨ha, hb, hc, hd⟩]
  rfl
 ·rw [if_neg (by rw [decide_eq_true_eq]; exact h), if_neg h]
end Go.Proofs.Ytlkngfidohiepaa.Pd
end
section
namespace Go.Proofs.Ytlkngfidohiepaa.Tm
open Ytlkngfidohiepaa.Pm
set_option linter.unusedVariables false
abbrev Cq (n : Int) : Prop := -1099511627776 ≤ n ∧ n ≤ 1099511627776
def ky (a0 a1 : Int) : Int := 4398046511104 * a0 + a1
theorem ky_lt {a0 a1 b0 b1 : Int} (h1 : Cq a1) (h2 : Cq b1) : ky a0 a1 < ky b0 b1 ↔ (a0 < b0 ∨ a0 = b0 ∧ a1 < b1) := by unfold ky; omega
theorem ky_eq {a0 a1 b0 b1 : Int} (h1 : Cq a1) (h2 : Cq b1) : ky a0 a1 = ky b0 b1 ↔ (a0 = b0 ∧ a1 = b1) := by unfold ky; omega
theorem ky_by (a0 a1 x y : Int) : ky (a0 + x) (a1 + y) = ky a0 a1 + ky x y := by unfold ky; omega
def does (a0 a1 b0 b1 c0 c1 d0 d1 : Int) : Prop := 0 < dt a0 a1 b0 b1 c0 c1 d0 d1 ∨ dt a0 a1 b0 b1 c0 c1 d0 d1 = 0 ∧
 ((ky b0 b1 < ky a0 a1 ∧ ky c0 c1 < ky a0 a1 ∧ ky d0 d1 < ky a0 a1 ∧ 0 < ar d0 d1 b0 b1 c0 c1) ∨
  (ky a0 a1 < ky b0 b1 ∧ ky c0 c1 < ky b0 b1 ∧ ky d0 d1 < ky b0 b1 ∧ 0 < ar a0 a1 d0 d1 c0 c1) ∨
  (ky a0 a1 < ky c0 c1 ∧ ky b0 b1 < ky c0 c1 ∧ ky d0 d1 < ky c0 c1 ∧ 0 < ar a0 a1 b0 b1 d0 d1))
instance (a0 a1 b0 b1 c0 c1 d0 d1 : Int) : Decidable (does a0 a1 b0 b1 c0 c1 d0 d1) := by unfold does; infer_instance
section
variable {a0 a1 b0 b1 c0 c1 d0 d1 : Int}
theorem does_by (x y : Int) : does (a0 + x) (a1 + y) (b0 + x) (b1 + y) (c0 + x) (c1 + y) (d0 + x) (d1 + y) ↔ does a0 a1 b0 b1 c0 c1 d0 d1 := by
 unfold does
 rw [dt_move, ar_move, ar_move, ar_move, ky_by, ky_by, ky_by, ky_by]
 omega
end
section
variable {a0 a1 b0 b1 x0 x1 y0 y1 z0 z1 : Int}
theorem left_ne (hx : 0 < ar a0 a1 b0 b1 x0 x1) : ¬ (x0 = a0 ∧ x1 = a1) ∧ ¬ (x0 = b0 ∧ x1 = b1) ∧ ¬ (a0 = b0 ∧ a1 = b1) := by
 have e1 (p q r s : Int) : ar p q r s p q = 0 := by unfold ar; grind
 have e2 (p q r s : Int) : ar p q r s r s = 0 := by unfold ar; grind
 have e3 (p q r s : Int) : ar p q p q r s = 0 := by unfold ar; grind
 refine ⟨?_, ?_, ?_⟩
 ·rintro ⟨rfl, rfl⟩; rw [e1] at hx; omega
 ·rintro ⟨rfl, rfl⟩; rw [e2] at hx; omega
 ·rintro ⟨rfl, rfl⟩; rw [e3] at hx; omega
end
end Go.Proofs.Ytlkngfidohiepaa.Tm
end
section
namespace Go.Proofs.Ytlkngfidohiepaa.F
open RowKit YtlkngfidohiepaaW.PrintWords YtlkngfidohiepaaW.PrintLast YtlkngfidohiepaaW.PrintMore
set_option linter.unusedVariables false
set_option linter.unusedSimpArgs false
theorem eqA23 (d : Nat) (w : World) (x0 y0 : Int) (x1 y1 : Int) :
  (Op.equalIn (d + 2) 23 (.agg #[.int .i64 x0, .int .i64 x1]) (.agg #[.int .i64 y0, .int .i64 y1])).run Try.prog w = .ok (x0 == y0 && (x1 == y1)) w := by
 refine eqA_of Try.underlying23 (by kernel_rfl) ?_
 refine eqf_cons (by rfl) (by go_simp; rfl) (by go_simp; rfl) (by go_simp) ?_
 exact eqf_last (by rfl) (by go_simp; rfl) (by go_simp; rfl) (by go_simp)
end Go.Proofs.Ytlkngfidohiepaa.F
end
section
namespace Go.Proofs.Ytlkngfidohiepaa.F
open RowKit YtlkngfidohiepaaW.PrintWords YtlkngfidohiepaaW.PrintLast YtlkngfidohiepaaW.PrintMore
set_option linter.unusedVariables false
set_option linter.unusedSimpArgs false
def cmp_Or_int.l0 : Nat → Int → List Int → Int → Int → Option (Int)
 | 0, _, _, _, _ => none
 | k + 1, x3, x6, x7, x8 => if x8 < x7 then (if 0 ≤ x8 then (if x8 < (x6.length : Int) then (if (rd x6 x8) = x3 then (cmp_Or_int.l0 k x3 x6 x7 (wrap64 (x8 + 1))) else (some (rd x6 x8))) else (none)) else (none)) else (some x3)
def cmp_Or_int.f (k : Nat) (l0 : List Int) : Option (Int) := cmp_Or_int.l0 k 0 l0 (l0.length : Int) 0
theorem cmp_Or_int.mono_l : ∀ k, (∀ y0 y1 y2 y3, LeO (cmp_Or_int.l0 k y0 y1 y2 y3) (cmp_Or_int.l0 (k + 1) y0 y1 y2 y3))
 | 0 => fun _ _ _ _ r h => by simp [cmp_Or_int.l0] at h
 | k + 1 => by
  have ih0 := cmp_Or_int.mono_l k
  ·intro y0 y1 y2 y3
   unfold cmp_Or_int.l0
   repeat' first
   | (with_reducible exact ih0 _ _ _ _)
   | (with_reducible exact LeO.refl _)
   | (with_reducible exact LeO.none _)
   | (with_reducible refine LeO.ite ?_ ?_)
   | (with_reducible refine LeO.bind ?_ (fun _ => ?_))
   | exact ih0 _ _ _ _
   | exact LeO.none _
   | refine LeO.ite ?_ ?_
   | refine LeO.bind ?_ (fun _ => ?_)
theorem cmp_Or_int.mono : ∀ a0 k, LeO (cmp_Or_int.f k a0) (cmp_Or_int.f (k + 1) a0) := by
 intro a0 k
 have ih0 := cmp_Or_int.mono_l k
 unfold cmp_Or_int.f
 repeat' first
   | (with_reducible exact ih0 _ _ _ _)
   | (with_reducible exact LeO.refl _)
   | (with_reducible exact LeO.none _)
   | (with_reducible refine LeO.ite ?_ ?_)
   | (with_reducible refine LeO.bind ?_ (fun _ => ?_))
   | exact ih0 _ _ _ _
   | exact LeO.none _
   | refine LeO.ite ?_ ?_
   | refine LeO.bind ?_ (fun _ => ?_)
set_option maxHeartbeats 8000000 in
set_option maxRecDepth 100000 in
theorem cmp_Or_int.calls (k : Nat) (A0 : Option Addr) (c0 : Nat) (l0 : List Int) (r : Int) (w : World) (hr0 : Kd.C (Kd.int .i64) w A0 l0.length l0) (hc0 : l0.length ≤ c0) (h : cmp_Or_int.f k l0 = some r) :
  Calls Try.prog 66 #[.slice A0 l0.length c0] w fun e w' => e = .returned (.int .i64 r) ∧ Drawn0 w w' := by
 have HR0 := Aside0.mk hr0
 have HC0 := Aside0.mk hc0
 clear hr0 hc0
 have H : (cmp_Or_int.l0 k 0 l0 (l0.length : Int) 0) = some r := h
 clear h
 have H' := Aside0.mk H
 clear H
 go_enter Try.func66, Try.ntmps66
 go_wp2
 go_loopg [8] k (fun kq v8 w' => ∃ (x8_1 : Int), v8 = .int .i64 x8_1 ∧ Aside0 (cmp_Or_int.l0 kq 0 l0 (l0.length : Int) x8_1 = some r) ∧ Aside0 (kq ≤ k) ∧ Drawn0 w w')
 case atStart => exact ⟨(0), (by first | rfl | (simp; done) | (simp [*]; done)), H', ⟨Nat.le_refl _⟩, by repeat (first | exact Drawn0.refl _ | apply Drawn0.step)⟩
 case round =>
  clear H'
  obtain ⟨x8_1, rfl, HA, HK1, ⟨m1, rfl⟩⟩ := hrel
  cases gk with
  | zero => exact absurd HA.out (by simp [cmp_Or_int.l0])
  | succ k1 =>
   have H := HA.out
   clear HA
   simp only [cmp_Or_int.l0] at H
   by_cases c2 : x8_1 < (l0.length : Int)
   ·rw [if_pos c2] at H
    have c2b0 : decide (x8_1 < (l0.length : Int)) = true := decide_eq_true c2
    clear c2
    by_cases c3 : 0 ≤ x8_1
    ·rw [if_pos c3] at H
     have c3b0 : decide (0 ≤ x8_1) = true := decide_eq_true c3
     clear c3
     by_cases c4 : x8_1 < (l0.length : Int)
     ·rw [if_pos c4] at H
      have c4b0 : decide (x8_1 < (l0.length : Int)) = true := decide_eq_true c4
      clear c4
      by_cases c5 : (rd l0 x8_1) = 0
      ·rw [if_pos c5] at H
       have c5b0 : ((rd l0 x8_1) == 0) = true := beq_iff_eq.mpr c5
       have c5b1 : ((rd l0 x8_1) != 0) = false := bne_eq_false_iff_eq.mpr c5
       clear c5
       have H' := Aside0.mk H
       clear H
       have p229 : 0 ≤ (x8_1 : Int) := dt_
       have q229 : x8_1 < (l0.length : Int) := dt_
       obtain ⟨ad229, e229, hx229_0⟩ := Kd.at_int HR0.out x8_1 p229 q229
       cases e229
       replace p229 := eq_true p229
       replace q229 := eq_true q229
       go_wp2
       go_roundg k1
       case measure => have := HK1.out; omega
       case rel => exact ⟨(wrap64 (x8_1 + 1)), (by first | rfl | (simp; done) | (simp [*]; done)), H', ⟨by have := HK1.out; omega⟩, by repeat (first | exact Drawn0.refl _ | apply Drawn0.step)⟩
      ·rw [if_neg c5] at H
       have c5b0 : ((rd l0 x8_1) == 0) = false := beq_eq_false_iff_ne.mpr c5
       have c5b1 : ((rd l0 x8_1) != 0) = true := bne_iff_ne.mpr c5
       obtain rfl := Option.some.inj H
       have p229 : 0 ≤ (x8_1 : Int) := dt_
       have q229 : x8_1 < (l0.length : Int) := dt_
       obtain ⟨ad229, e229, hx229_0⟩ := Kd.at_int HR0.out x8_1 p229 q229
       cases e229
       replace p229 := eq_true p229
       replace q229 := eq_true q229
       go_wp2
       go_ret
       exact ⟨by first | rfl | (simp; done) | (simp [*]; done), by repeat (first | exact Drawn0.refl _ | apply Drawn0.step)⟩
     ·rw [if_neg c4] at H
      exact absurd H (by simp)
    ·rw [if_neg c3] at H
     exact absurd H (by simp)
   ·rw [if_neg c2] at H
    have c2b0 : decide (x8_1 < (l0.length : Int)) = false := decide_eq_false c2
    clear c2
    obtain rfl := Option.some.inj H
    go_wp2
    go_ret
    exact ⟨by first | rfl | (simp; done) | (simp [*]; done), by repeat (first | exact Drawn0.refl _ | apply Drawn0.step)⟩
end Go.Proofs.Ytlkngfidohiepaa.F
end
section
namespace Go.Proofs.Ytlkngfidohiepaa.F
open RowKit YtlkngfidohiepaaW.PrintWords YtlkngfidohiepaaW.PrintLast YtlkngfidohiepaaW.PrintMore
set_option linter.unusedVariables false
set_option linter.unusedSimpArgs false
def cmp_isNaN_int64.f (a0 : Int) : Option (Bool) := some (a0 != a0)
set_option maxHeartbeats 8000000 in
set_option maxRecDepth 100000 in
theorem cmp_isNaN_int64.calls (a0 : Int) (r : Bool) (w : World) (h : cmp_isNaN_int64.f a0 = some r) :
  Calls Try.prog 73 #[.int .i64 a0] w fun e w' => e = .returned (.bool r) ∧ Drawn0 w w' := by
 have H : (some (a0 != a0)) = some r := h
 clear h
 obtain rfl := Option.some.inj H
 go_enter Try.func73, Try.ntmps73
 go_wp2
 go_ret
 exact ⟨by first | rfl | (simp; done) | (simp [*]; done), by repeat (first | exact Drawn0.refl _ | apply Drawn0.step)⟩
end Go.Proofs.Ytlkngfidohiepaa.F
end
section
namespace Go.Proofs.Ytlkngfidohiepaa.F
open RowKit YtlkngfidohiepaaW.PrintWords YtlkngfidohiepaaW.PrintLast YtlkngfidohiepaaW.PrintMore
set_option linter.unusedVariables false
set_option linter.unusedSimpArgs false
def cmp_Compare_int64.f (a0 : Int) (a1 : Int) : Option (Int) := (cmp_isNaN_int64.f a0).bind fun t230 => ((cmp_isNaN_int64.f a1).bind fun t231 => (if t230 = true then (if t231 = true then (some 0) else (some (-1))) else (if t231 = true then (some 1) else (if a0 < a1 then (some (-1)) else (if a0 > a1 then (some 1) else (some 0))))))
set_option maxHeartbeats 8000000 in
set_option maxRecDepth 100000 in
theorem cmp_Compare_int64.calls (a0 : Int) (a1 : Int) (r : Int) (w : World) (h : cmp_Compare_int64.f a0 a1 = some r) :
  Calls Try.prog 67 #[.int .i64 a0, .int .i64 a1] w fun e w' => e = .returned (.int .i64 r) ∧ Drawn0 w w' := by
 have H : ((cmp_isNaN_int64.f a0).bind fun t230 => ((cmp_isNaN_int64.f a1).bind fun t231 => (if t230 = true then (if t231 = true then (some 0) else (some (-1))) else (if t231 = true then (some 1) else (if a0 < a1 then (some (-1)) else (if a0 > a1 then (some 1) else (some 0))))))) = some r := h
 clear h
 replace H := Option.bind_eq_some_iff.mp H
 obtain ⟨t230, A30, H⟩ := H
 try dsimp only at H
 have A3 := Aside0.mk A30
 clear A30
 replace H := Option.bind_eq_some_iff.mp H
 obtain ⟨t231, A40, H⟩ := H
 try dsimp only at H
 have A4 := Aside0.mk A40
 clear A40
 by_cases c5 : t230 = true
 ·subst c5
  rw [if_pos rfl] at H
  by_cases c6 : t231 = true
  ·subst c6
   rw [if_pos rfl] at H
   obtain rfl := Option.some.inj H
   go_enter Try.func67, Try.ntmps67
   go_wp2_with (first | ((with_reducible refine gate_callee (f := 73) rfl ?_); refine gL (some 8) Try.func73 #[.int .i64 a0] rfl ?_; (with_reducible refine (cmp_isNaN_int64.calls a0 true _ A3.out).mono ?_); rintro e w' ⟨rfl, ⟨nd, rfl⟩⟩; refine ⟨_, rfl, ?_⟩) | ((with_reducible refine gate_callee (f := 73) rfl ?_); refine gL (some 10) Try.func73 #[.int .i64 a1] rfl ?_; (with_reducible refine (cmp_isNaN_int64.calls a1 true _ A4.out).mono ?_); rintro e w' ⟨rfl, ⟨nd, rfl⟩⟩; refine ⟨_, rfl, ?_⟩))
   go_ret
   exact ⟨by first | rfl | (simp; done) | (simp [*]; done), by repeat (first | exact Drawn0.refl _ | apply Drawn0.step)⟩
  ·replace c6 := Bool.eq_false_iff.mpr c6
   subst c6
   rw [if_neg (show ¬ (false = true) by decide)] at H
   obtain rfl := Option.some.inj H
   go_enter Try.func67, Try.ntmps67
   go_wp2_with (first | ((with_reducible refine gate_callee (f := 73) rfl ?_); refine gL (some 8) Try.func73 #[.int .i64 a0] rfl ?_; (with_reducible refine (cmp_isNaN_int64.calls a0 true _ A3.out).mono ?_); rintro e w' ⟨rfl, ⟨nd, rfl⟩⟩; refine ⟨_, rfl, ?_⟩) | ((with_reducible refine gate_callee (f := 73) rfl ?_); refine gL (some 10) Try.func73 #[.int .i64 a1] rfl ?_; (with_reducible refine (cmp_isNaN_int64.calls a1 false _ A4.out).mono ?_); rintro e w' ⟨rfl, ⟨nd, rfl⟩⟩; refine ⟨_, rfl, ?_⟩))
   go_ret
   exact ⟨by first | rfl | (simp; done) | (simp [*]; done), by repeat (first | exact Drawn0.refl _ | apply Drawn0.step)⟩
 ·replace c5 := Bool.eq_false_iff.mpr c5
  subst c5
  rw [if_neg (show ¬ (false = true) by decide)] at H
  by_cases c7 : t231 = true
  ·subst c7
   rw [if_pos rfl] at H
   obtain rfl := Option.some.inj H
   go_enter Try.func67, Try.ntmps67
   go_wp2_with (first | ((with_reducible refine gate_callee (f := 73) rfl ?_); refine gL (some 8) Try.func73 #[.int .i64 a0] rfl ?_; (with_reducible refine (cmp_isNaN_int64.calls a0 false _ A3.out).mono ?_); rintro e w' ⟨rfl, ⟨nd, rfl⟩⟩; refine ⟨_, rfl, ?_⟩) | ((with_reducible refine gate_callee (f := 73) rfl ?_); refine gL (some 10) Try.func73 #[.int .i64 a1] rfl ?_; (with_reducible refine (cmp_isNaN_int64.calls a1 true _ A4.out).mono ?_); rintro e w' ⟨rfl, ⟨nd, rfl⟩⟩; refine ⟨_, rfl, ?_⟩))
   go_ret
   exact ⟨by first | rfl | (simp; done) | (simp [*]; done), by repeat (first | exact Drawn0.refl _ | apply Drawn0.step)⟩
  ·replace c7 := Bool.eq_false_iff.mpr c7
   subst c7
   rw [if_neg (show ¬ (false = true) by decide)] at H
   by_cases c8 : a0 < a1
   ·rw [if_pos c8] at H
    have c8b0 : decide (a0 < a1) = true := decide_eq_true c8
    clear c8
    obtain rfl := Option.some.inj H
    go_enter Try.func67, Try.ntmps67
    go_wp2_with (first | ((with_reducible refine gate_callee (f := 73) rfl ?_); refine gL (some 8) Try.func73 #[.int .i64 a0] rfl ?_; (with_reducible refine (cmp_isNaN_int64.calls a0 false _ A3.out).mono ?_); rintro e w' ⟨rfl, ⟨nd, rfl⟩⟩; refine ⟨_, rfl, ?_⟩) | ((with_reducible refine gate_callee (f := 73) rfl ?_); refine gL (some 10) Try.func73 #[.int .i64 a1] rfl ?_; (with_reducible refine (cmp_isNaN_int64.calls a1 false _ A4.out).mono ?_); rintro e w' ⟨rfl, ⟨nd, rfl⟩⟩; refine ⟨_, rfl, ?_⟩))
    go_ret
    exact ⟨by first | rfl | (simp; done) | (simp [*]; done), by repeat (first | exact Drawn0.refl _ | apply Drawn0.step)⟩
   ·rw [if_neg c8] at H
    have c8b0 : decide (a0 < a1) = false := decide_eq_false c8
    clear c8
    by_cases c9 : a0 > a1
    ·rw [if_pos c9] at H
     have c9b0 : decide (a1 < a0) = true := decide_eq_true c9
     clear c9
     obtain rfl := Option.some.inj H
     go_enter Try.func67, Try.ntmps67
     go_wp2_with (first | ((with_reducible refine gate_callee (f := 73) rfl ?_); refine gL (some 8) Try.func73 #[.int .i64 a0] rfl ?_; (with_reducible refine (cmp_isNaN_int64.calls a0 false _ A3.out).mono ?_); rintro e w' ⟨rfl, ⟨nd, rfl⟩⟩; refine ⟨_, rfl, ?_⟩) | ((with_reducible refine gate_callee (f := 73) rfl ?_); refine gL (some 10) Try.func73 #[.int .i64 a1] rfl ?_; (with_reducible refine (cmp_isNaN_int64.calls a1 false _ A4.out).mono ?_); rintro e w' ⟨rfl, ⟨nd, rfl⟩⟩; refine ⟨_, rfl, ?_⟩))
     go_ret
     exact ⟨by first | rfl | (simp; done) | (simp [*]; done), by repeat (first | exact Drawn0.refl _ | apply Drawn0.step)⟩
    ·rw [if_neg c9] at H
     have c9b0 : decide (a1 < a0) = false := decide_eq_false c9
     clear c9
     obtain rfl := Option.some.inj H
     go_enter Try.func67, Try.ntmps67
     go_wp2_with (first | ((with_reducible refine gate_callee (f := 73) rfl ?_); refine gL (some 8) Try.func73 #[.int .i64 a0] rfl ?_; (with_reducible refine (cmp_isNaN_int64.calls a0 false _ A3.out).mono ?_); rintro e w' ⟨rfl, ⟨nd, rfl⟩⟩; refine ⟨_, rfl, ?_⟩) | ((with_reducible refine gate_callee (f := 73) rfl ?_); refine gL (some 10) Try.func73 #[.int .i64 a1] rfl ?_; (with_reducible refine (cmp_isNaN_int64.calls a1 false _ A4.out).mono ?_); rintro e w' ⟨rfl, ⟨nd, rfl⟩⟩; refine ⟨_, rfl, ?_⟩))
     go_ret
     exact ⟨by first | rfl | (simp; done) | (simp [*]; done), by repeat (first | exact Drawn0.refl _ | apply Drawn0.step)⟩
end Go.Proofs.Ytlkngfidohiepaa.F
end
section
namespace Go.Proofs.Ytlkngfidohiepaa.F
open RowKit YtlkngfidohiepaaW.PrintWords YtlkngfidohiepaaW.PrintLast YtlkngfidohiepaaW.PrintMore
set_option linter.unusedVariables false
set_option linter.unusedSimpArgs false
def lift_Cmp.f (k : Nat) (a0_0 : Int) (a0_1 : Int) (a1_0 : Int) (a1_1 : Int) : Option (Int) := (cmp_Compare_int64.f a0_0 a1_0).bind fun t234 => ((cmp_Compare_int64.f a0_1 a1_1).bind fun t235 => ((cmp_Or_int.f k (([t234, t235] : List Int))).bind fun t239 => (some t239)))
theorem lift_Cmp.mono : ∀ a0 a1 a2 a3 k, LeO (lift_Cmp.f k a0 a1 a2 a3) (lift_Cmp.f (k + 1) a0 a1 a2 a3) := by
 intro a0 a1 a2 a3 k
 unfold lift_Cmp.f
 repeat' first
   | (with_reducible exact cmp_Or_int.mono _ _)
   | (with_reducible exact LeO.refl _)
   | (with_reducible exact LeO.none _)
   | (with_reducible refine LeO.ite ?_ ?_)
   | (with_reducible refine LeO.bind ?_ (fun _ => ?_))
   | exact cmp_Or_int.mono _ _
   | exact LeO.none _
   | refine LeO.ite ?_ ?_
   | refine LeO.bind ?_ (fun _ => ?_)
def lift_Cmp.T1 : Bool × List (List Nat × List Nat) := (true, [([], []), ([0], [0]), ([], []), ([2], [2]), ([1, 3], [1, 3]), ([], []), ([5], [5]), ([], []), ([7], [7]), ([6, 8, 4], [6, 8]), ([4, 9], [4, 9]), ([10, 9], [10]), ([11, 11, 0, 1, 2, 3, 4, 5, 6, 7, 8, 9, 10, 11], [11])])
def lift_Cmp.B1 : List Nat := [0, 1, 0, 4, 15, 0, 32, 0, 128, 511, 1023, 2047, 4095]
theorem lift_Cmp.tab1 : rtab .any (opsOf Try.f48 1) = lift_Cmp.T1 := by kernel_rfl
theorem lift_Cmp.bits1 : waitsOk lift_Cmp.T1.2 lift_Cmp.B1 = true := by kernel_rfl
set_option maxHeartbeats 8000000 in
set_option maxRecDepth 100000 in
theorem lift_Cmp.calls (k : Nat) (a0_0 : Int) (a0_1 : Int) (a1_0 : Int) (a1_1 : Int) (r : Int) (w : World) (h : lift_Cmp.f k a0_0 a0_1 a1_0 a1_1 = some r) :
  Calls Try.prog 48 #[.agg #[.int .i64 a0_0, .int .i64 a0_1], .agg #[.int .i64 a1_0, .int .i64 a1_1]] w fun e w' => e = .returned (.int .i64 r) ∧ Below w.heap.size w w' := by
 have hu23 := Try.underlying23
 have HB := Aside0.mk (Below.refl w.heap.size w)
 have H : ((cmp_Compare_int64.f a0_0 a1_0).bind fun t234 => ((cmp_Compare_int64.f a0_1 a1_1).bind fun t235 => ((cmp_Or_int.f k (([t234, t235] : List Int))).bind fun t239 => (some t239)))) = some r := h
 clear h
 replace H := Option.bind_eq_some_iff.mp H
 obtain ⟨t234, A30, H⟩ := H
 try dsimp only at H
 have A3 := Aside0.mk A30
 clear A30
 replace H := Option.bind_eq_some_iff.mp H
 obtain ⟨t235, A40, H⟩ := H
 try dsimp only at H
 have A4 := Aside0.mk A40
 clear A40
 obtain ⟨y236, hy236⟩ : ∃ y_ : List Int, y_ = (([t234, t235] : List Int)) := ⟨_, rfl⟩
 replace H : ((cmp_Or_int.f k y236).bind fun t239 => (some t239)) = some r := by first | (rw [hy236]; with_reducible exact H) | (have H2_ := (Option.bind_some _ _).symm.trans H; rw [hy236]; with_reducible exact H2_) | (have H2_ := (Option.bind_some _ _).symm.trans H; with_reducible exact H2_) | with_reducible exact H | (rw [hy236]; exact H) | exact H
 have Ny236 := Aside0.mk hy236
 clear hy236
 replace H := Option.bind_eq_some_iff.mp H
 obtain ⟨t239, A50, H⟩ := H
 try dsimp only at H
 have A5 := Aside0.mk A50
 clear A50
 obtain rfl := Option.some.inj H
 go_enter Try.func48, Try.ntmps48
 try go_wp2_with (first | ((with_reducible refine gate_dst (N := 2) rfl ?_); refine bx 2 #[.int .i64 a0_0, .int .i64 a0_1] 23 ?_; intro gb232 hg w6 hbox hb; have BK232 := Aside0.mk hbox; have GW232 := u3 hg HB; have GE232 := u3 hg HB; replace HB := u2 HB hb; clear hb hbox hg) | ((with_reducible refine gate_dst (N := 3) rfl ?_); refine bx 3 #[.int .i64 a1_0, .int .i64 a1_1] 23 ?_; intro gb233 hg w7 hbox hb; have BK233 := Aside0.mk hbox; have GW233 := u3 hg HB; have GE233 := u3 hg HB; have NB232_233 := u4 hg BK232; have NB233_232 := u5 hg BK232; replace BK232 := u1 BK232 hb; replace HB := u2 HB hb; clear hb hbox hg))
 have n0_ := Aside0.mk (blk_drew BK232.out)
 have n1_ := Aside0.mk (blk_drew BK233.out)
 have n2_ := Aside0.mk (below_drew1 HB.out)
 clear BK232
 clear BK233
 clear HB
 have BK232 := n0_
 have BK233 := n1_
 have HB := n2_
 clear n0_ n1_ n2_
 refine start_ (n := 13) (S := fun w' => w'.cell? ⟨gb232, 0, none⟩ = some (.int .i64 a0_0) ∧ w'.cell? ⟨gb232, 1, none⟩ = some (.int .i64 a0_1) ∧ w'.cell? ⟨gb233, 0, none⟩ = some (.int .i64 a1_0) ∧ w'.cell? ⟨gb233, 1, none⟩ = some (.int .i64 a1_1)) (ds := []) #[F_,F_,F_,F_,F_,F_,F_,F_,F_,F_,F_,F_,F_] (by kernel_rfl) rfl rfl ⟨(blk_cell BK232.out 0).trans rfl, (blk_cell BK232.out 1).trans rfl, (blk_cell BK233.out 0).trans rfl, (blk_cell BK233.out 1).trans rfl⟩ (fun hHeld => ?_); refine with_tabW lift_Cmp.tab1 lift_Cmp.bits1 (fun HT_ HW_ => ?_)
 generalize w7.drew = w8 at BK232 BK233 HB hHeld ⊢
 refine pA (i := 0) (N := some 5) (v := ?_) (a' := ?_) #[T_,F_,F_,F_,F_,F_,F_,F_,F_,F_,F_,F_,F_] rfl rfl HT_ (Or.inl ⟨by rfl, ?_⟩) ?_ ?_
 rotate_left
 ·intro w'
  go_simp
  with_reducible rfl
 rotate_left
 ·simp only [Act.put, s1, s2, s3, i64_w, i32_w]
  rfl
 refine pA (i := 2) (N := some 7) (v := ?_) (a' := ?_) #[T_,F_,T_,F_,F_,F_,F_,F_,F_,F_,F_,F_,F_] rfl rfl HT_ (Or.inl ⟨by rfl, ?_⟩) ?_ ?_
 rotate_left
 ·intro w'
  go_simp
  with_reducible rfl
 rotate_left
 ·simp only [Act.put, s1, s2, s3, i64_w, i32_w]
  rfl
 refine pA (i := 5) (N := some 10) (v := ?_) (a' := ?_) #[T_,F_,T_,F_,F_,T_,F_,F_,F_,F_,F_,F_,F_] rfl rfl HT_ (Or.inl ⟨by rfl, ?_⟩) ?_ ?_
 rotate_left
 ·intro w'
  go_simp
  with_reducible rfl
 rotate_left
 ·simp only [Act.put, s1, s2, s3, i64_w, i32_w]
  rfl
 refine pA (i := 7) (N := some 12) (v := ?_) (a' := ?_) #[T_,F_,T_,F_,F_,T_,F_,T_,F_,F_,F_,F_,F_] rfl rfl HT_ (Or.inl ⟨by rfl, ?_⟩) ?_ ?_
 rotate_left
 ·intro w'
  go_simp
  with_reducible rfl
 rotate_left
 ·simp only [Act.put, s1, s2, s3, i64_w, i32_w]
  rfl
 refine tA (i := 1) (N := some 6) (v := ?_) (a' := ?_) #[T_,T_,T_,F_,F_,T_,F_,T_,F_,F_,F_,F_,F_] rfl rfl HT_ HW_ (Or.inl ⟨by rfl, ?_⟩) hHeld ?_ ?_
 rotate_left
 ·rintro w' ⟨s0, s1, s2, s3⟩
  go_simp
  with_reducible rfl
 rotate_left
 ·simp only [Act.put, s1, s2, s3, i64_w, i32_w]
  rfl
 refine tA (i := 3) (N := some 8) (v := ?_) (a' := ?_) #[T_,T_,T_,T_,F_,T_,F_,T_,F_,F_,F_,F_,F_] rfl rfl HT_ HW_ (Or.inl ⟨by rfl, ?_⟩) hHeld ?_ ?_
 rotate_left
 ·rintro w' ⟨s0, s1, s2, s3⟩
  go_simp
  with_reducible rfl
 rotate_left
 ·simp only [Act.put, s1, s2, s3, i64_w, i32_w]
  rfl
 refine tA (i := 6) (N := some 11) (v := ?_) (a' := ?_) #[T_,T_,T_,T_,F_,T_,T_,T_,F_,F_,F_,F_,F_] rfl rfl HT_ HW_ (Or.inl ⟨by rfl, ?_⟩) hHeld ?_ ?_
 rotate_left
 ·rintro w' ⟨s0, s1, s2, s3⟩
  go_simp
  with_reducible rfl
 rotate_left
 ·simp only [Act.put, s1, s2, s3, i64_w, i32_w]
  rfl
 refine tA (i := 8) (N := some 13) (v := ?_) (a' := ?_) #[T_,T_,T_,T_,F_,T_,T_,T_,T_,F_,F_,F_,F_] rfl rfl HT_ HW_ (Or.inl ⟨by rfl, ?_⟩) hHeld ?_ ?_
 rotate_left
 ·rintro w' ⟨s0, s1, s2, s3⟩
  go_simp
  with_reducible rfl
 rotate_left
 ·simp only [Act.put, s1, s2, s3, i64_w, i32_w]
  rfl
 refine one_ (i := 4) (N := some 9) #[T_,T_,T_,T_,T_,T_,T_,T_,T_,F_,F_,F_,F_] rfl rfl (one_of HT_.out (by kernel_rfl)) (by decide) (fun K hK => ?_)
 refine goes_ Try.func67 (by kernel_rfl) rfl #[.int .i64 a0_0, .int .i64 a1_0] (by rfl) rfl rfl (by (try simp only [List.map_toArray, List.map_cons, List.map_nil]); first | done | rfl | (simp only [List.length_drop, List.length_take]; rfl)) ?_
 with_reducible refine (cmp_Compare_int64.calls a0_0 a1_0 t234 _ A3.out).mono ?_
 rintro e w' ⟨rfl, ⟨nd, rfl⟩⟩
 refine ⟨_, rfl, ?_⟩
 refine hK.out _ _ ⟨(blk_cell BK232.out 0).trans rfl, (blk_cell BK232.out 1).trans rfl, (blk_cell BK233.out 0).trans rfl, (blk_cell BK233.out 1).trans rfl⟩ (fun hHeld => ?_)
 clear hK K
 refine norm_ (a' := ?_) ?_ ?_
 rotate_left
 ·show Act.put _ (some 9) _ = _
  simp only [Act.put, s1, s2, s3, i64_w, i32_w]
  rfl
 refine one_ (i := 9) (N := some 14) #[T_,T_,T_,T_,T_,T_,T_,T_,T_,T_,F_,F_,F_] rfl rfl (one_of HT_.out (by kernel_rfl)) (by decide) (fun K hK => ?_)
 refine goes_ Try.func67 (by kernel_rfl) rfl #[.int .i64 a0_1, .int .i64 a1_1] (by rfl) rfl rfl (by (try simp only [List.map_toArray, List.map_cons, List.map_nil]); first | done | rfl | (simp only [List.length_drop, List.length_take]; rfl)) ?_
 with_reducible refine (cmp_Compare_int64.calls a0_1 a1_1 t235 _ A4.out).mono ?_
 rintro e w' ⟨rfl, ⟨nd, rfl⟩⟩
 refine ⟨_, rfl, ?_⟩
 refine hK.out _ _ ⟨(blk_cell BK232.out 0).trans rfl, (blk_cell BK232.out 1).trans rfl, (blk_cell BK233.out 0).trans rfl, (blk_cell BK233.out 1).trans rfl⟩ (fun hHeld => ?_)
 clear hK K
 refine norm_ (a' := ?_) ?_ ?_
 rotate_left
 ·show Act.put _ (some 14) _ = _
  simp only [Act.put, s1, s2, s3, i64_w, i32_w]
  rfl
 refine one_ (i := 10) (N := some 15) #[T_,T_,T_,T_,T_,T_,T_,T_,T_,T_,T_,F_,F_] rfl rfl (one_of HT_.out (by kernel_rfl)) (by decide) (fun K hK => ?_)
 refine Kd.R_lit_step (Kd.int .i64) _ 3 ?hg (N := 15) ?hd (xs := ([t234, t235] : List Int)) (inner := [.int .i64 t234, .int .i64 t235]) (ok := fun _ => True) (okp := fun _ => True) ?hr ?hp (fun _ hk => hk) trivial (Below.refl _ _) (Nat.le_refl _) (by simp) ?_; (case hd => rfl); (case hg => rfl); (case hr => first | (go_simp; done) | (go_simp; rfl)); (case hp => exact (Reps.one (show Kd.M (Kd.int .i64) _ _ _ t234 [.int .i64 t234] from rfl) (Reps.one (show Kd.M (Kd.int .i64) _ _ _ t235 [.int .i64 t235] from rfl) (Reps.none _ _))))
 intro v237 w9 ho10 hb hg_ hnew_
 clear hg_ hnew_
 (first | rw [← Ny236.out] at ho10 | (simp only [Int.reduceToNat] at ho10; rw [← Ny236.out] at ho10))
 have n0_ := Aside0.mk (Kd.R_lower ho10 (below_size (bw HB.out)))
 have n1_ := u1 BK232 hb
 have n2_ := u1 BK233 hb
 have n3_ := Aside0.mk (below_step (bw HB.out) hb)
 clear BK232
 clear BK233
 clear HB
 have HO238 := n0_
 have BK232 := n1_
 have BK233 := n2_
 have HB := n3_
 clear n0_ n1_ n2_ n3_
 clear hb ho10
 obtain ⟨Ao11, co11, eo11⟩ := Kd.R_slice HO238.out
 (first | subst eo11 | (injection eo11 with f1_ f2_ f3_; have f4_ := f1_.symm; have f5_ := f3_.symm; clear f1_ f2_ f3_; subst f4_; subst f5_))
 refine hK.out _ _ ⟨(blk_cell BK232.out 0).trans rfl, (blk_cell BK232.out 1).trans rfl, (blk_cell BK233.out 0).trans rfl, (blk_cell BK233.out 1).trans rfl⟩ (fun hHeld => ?_)
 clear hK K
 refine norm_ (a' := ?_) ?_ ?_
 rotate_left
 ·show Act.put _ (some 15) _ = _
  simp only [Act.put, s1, s2, s3, i64_w, i32_w]
  rfl
 refine one_ (i := 11) (N := some 16) #[T_,T_,T_,T_,T_,T_,T_,T_,T_,T_,T_,T_,F_] rfl rfl (one_of HT_.out (by kernel_rfl)) (by decide) (fun K hK => ?_)
 refine goes_ Try.func66 (by kernel_rfl) rfl #[.slice Ao11 y236.length co11] (by rfl) rfl rfl (by (try simp only [List.map_toArray, List.map_cons, List.map_nil]); first | done | rfl | (simp only [List.length_drop, List.length_take]; rfl)) ?_
 with_reducible refine (cmp_Or_int.calls k _ _ y236 t239 _ ?side1 ?side2 A5.out).mono ?_
 (case side1 => repeat (first | exact (Kd.R_reads' HO238.out).2.2 | (with_reducible refine Kd.C_alloc ?_ _) | (with_reducible refine Kd.C_drewN ?_ _) | (with_reducible refine Kd.C_drew ?_)))
 (case side2 => exact (Kd.R_reads' HO238.out).2.1)
 rintro e w' ⟨rfl, ⟨nd, rfl⟩⟩
 refine ⟨_, rfl, ?_⟩
 refine hK.out _ _ ⟨(blk_cell BK232.out 0).trans rfl, (blk_cell BK232.out 1).trans rfl, (blk_cell BK233.out 0).trans rfl, (blk_cell BK233.out 1).trans rfl⟩ (fun hHeld => ?_)
 clear hK K
 refine norm_ (a' := ?_) ?_ ?_
 rotate_left
 ·show Act.put _ (some 16) _ = _
  simp only [Act.put, s1, s2, s3, i64_w, i32_w]
  rfl
 refine pA (i := 12) (N := some 4) (v := ?_) (a' := ?_) #[T_,T_,T_,T_,T_,T_,T_,T_,T_,T_,T_,T_,T_] rfl rfl HT_ (Or.inl ⟨by rfl, ?_⟩) ?_ ?_
 rotate_left
 ·intro w'
  go_simp
  with_reducible rfl
 rotate_left
 ·simp only [Act.put, s1, s2, s3, i64_w, i32_w]
  rfl
 refine done_ (done_of HT_.out (by kernel_rfl)) ?_
 try go_wp2
 go_ret
 exact ⟨by first | rfl | (simp [*, errW_none, errW_some] <;> rfl), bw HB.out⟩
end Go.Proofs.Ytlkngfidohiepaa.F
end
section
namespace Go.Proofs.Ytlkngfidohiepaa.F
open RowKit YtlkngfidohiepaaW.PrintWords YtlkngfidohiepaaW.PrintLast YtlkngfidohiepaaW.PrintMore
set_option linter.unusedVariables false
set_option linter.unusedSimpArgs false
def tie_last.l0 : Nat → List (S23) → Int → Int → Int → Option (Int)
 | 0, _, _, _, _ => none
 | k + 1, x0, x3, x6, x7 => if x7 < x6 then (if 0 ≤ x7 then (if x7 < (x0.length : Int) then (if 0 ≤ x3 then (if x3 < (x0.length : Int) then ((lift_Cmp.f k ((rd_T23 x0 x7).f0) ((rd_T23 x0 x7).f1) ((rd_T23 x0 x3).f0) ((rd_T23 x0 x3).f1)).bind fun t242 => (if t242 > 0 then (tie_last.l0 k x0 x7 x6 (wrap64 (x7 + 1))) else (tie_last.l0 k x0 x3 x6 (wrap64 (x7 + 1))))) else (none)) else (none)) else (none)) else (none)) else (some x3)
def tie_last.f (k : Nat) (l0 : List (S23)) : Option (Int) := tie_last.l0 k l0 0 (l0.length : Int) 0
theorem tie_last.mono_l : ∀ k, (∀ y0 y1 y2 y3, LeO (tie_last.l0 k y0 y1 y2 y3) (tie_last.l0 (k + 1) y0 y1 y2 y3))
 | 0 => fun _ _ _ _ r h => by simp [tie_last.l0] at h
 | k + 1 => by
  have ih0 := tie_last.mono_l k
  ·intro y0 y1 y2 y3
   unfold tie_last.l0
   repeat' first
   | (with_reducible exact ih0 _ _ _ _)
   | (with_reducible exact lift_Cmp.mono _ _ _ _ _)
   | (with_reducible exact LeO.refl _)
   | (with_reducible exact LeO.none _)
   | (with_reducible refine LeO.ite ?_ ?_)
   | (with_reducible refine LeO.bind ?_ (fun _ => ?_))
   | exact ih0 _ _ _ _
   | exact lift_Cmp.mono _ _ _ _ _
   | exact LeO.none _
   | refine LeO.ite ?_ ?_
   | refine LeO.bind ?_ (fun _ => ?_)
theorem tie_last.mono : ∀ a0 k, LeO (tie_last.f k a0) (tie_last.f (k + 1) a0) := by
 intro a0 k
 have ih0 := tie_last.mono_l k
 unfold tie_last.f
 repeat' first
   | (with_reducible exact ih0 _ _ _ _)
   | (with_reducible exact lift_Cmp.mono _ _ _ _ _)
   | (with_reducible exact LeO.refl _)
   | (with_reducible exact LeO.none _)
   | (with_reducible refine LeO.ite ?_ ?_)
   | (with_reducible refine LeO.bind ?_ (fun _ => ?_))
   | exact ih0 _ _ _ _
   | exact lift_Cmp.mono _ _ _ _ _
   | exact LeO.none _
   | refine LeO.ite ?_ ?_
   | refine LeO.bind ?_ (fun _ => ?_)
def tie_last.T5 : Bool × List (List Nat × List Nat) := (true, [([], []), ([], []), ([0, 1], [0, 1]), ([2], [2]), ([], []), ([], []), ([4, 5], [4, 5]), ([6], [6]), ([3, 7], [3, 7]), ([8], [8])])
def tie_last.B5 : List Nat := [0, 0, 3, 7, 0, 0, 48, 112, 255, 511]
theorem tie_last.tab5 : rtab .any (opsOf Try.f29 5) = tie_last.T5 := by kernel_rfl
theorem tie_last.bits5 : waitsOk tie_last.T5.2 tie_last.B5 = true := by kernel_rfl
set_option maxHeartbeats 8000000 in
set_option maxRecDepth 100000 in
theorem tie_last.calls (k : Nat) (A0 : Option Addr) (c0 : Nat) (l0 : List (S23)) (r : Int) (w : World) (hr0 : Kd.C k23 w A0 l0.length l0) (hc0 : l0.length ≤ c0) (h : tie_last.f k l0 = some r) :
  Calls Try.prog 29 #[.slice A0 l0.length c0] w fun e w' => e = .returned (.int .i64 r) ∧ Below w.heap.size w w' := by
 have hu23 := Try.underlying23
 have HR0 := Aside0.mk hr0
 have HC0 := Aside0.mk hc0
 clear hr0 hc0
 have HB := Aside0.mk (Below.refl w.heap.size w)
 have H : (tie_last.l0 k l0 0 (l0.length : Int) 0) = some r := h
 clear h
 have H' := Aside0.mk H
 clear H
 go_enter Try.func29, Try.ntmps29
 go_wp2
 go_loopg [3, 7] k (fun kq v3 v7 w' => ∃ (x3_1 : Int) (x7_1 : Int), v3 = .int .i64 x3_1 ∧ v7 = .int .i64 x7_1 ∧ Aside0 (tie_last.l0 kq l0 x3_1 (l0.length : Int) x7_1 = some r) ∧ Aside0 (kq ≤ k) ∧ Aside0 (Below w.heap.size w w'))
 case atStart => exact ⟨(0), (0), (by first | rfl | (simp; done) | (simp [*]; done)), (by first | rfl | (simp; done) | (simp [*]; done)), H', ⟨Nat.le_refl _⟩, ⟨bw HB.out⟩⟩
 case round =>
  clear H'
  obtain ⟨x3_1, x7_1, rfl, rfl, HA, HK1, HB⟩ := hrel
  cases gk with
  | zero => exact absurd HA.out (by simp [tie_last.l0])
  | succ k1 =>
   have H := HA.out
   clear HA
   simp only [tie_last.l0] at H
   by_cases c2 : x7_1 < (l0.length : Int)
   ·rw [if_pos c2] at H
    have c2b0 : decide (x7_1 < (l0.length : Int)) = true := decide_eq_true c2
    clear c2
    by_cases c3 : 0 ≤ x7_1
    ·rw [if_pos c3] at H
     have c3b0 : decide (0 ≤ x7_1) = true := decide_eq_true c3
     clear c3
     by_cases c4 : x7_1 < (l0.length : Int)
     ·rw [if_pos c4] at H
      have c4b0 : decide (x7_1 < (l0.length : Int)) = true := decide_eq_true c4
      clear c4
      by_cases c5 : 0 ≤ x3_1
      ·rw [if_pos c5] at H
       have c5b0 : decide (0 ≤ x3_1) = true := decide_eq_true c5
       clear c5
       by_cases c6 : x3_1 < (l0.length : Int)
       ·rw [if_pos c6] at H
        have c6b0 : decide (x3_1 < (l0.length : Int)) = true := decide_eq_true c6
        clear c6
        replace H := Option.bind_eq_some_iff.mp H
        obtain ⟨t242, A70, H⟩ := H
        try dsimp only at H
        have A7 := Aside0.mk A70
        clear A70
        by_cases c8 : t242 > 0
        ·rw [if_pos c8] at H
         have c8b0 : decide (0 < t242) = true := decide_eq_true c8
         clear c8
         have H' := Aside0.mk H
         clear H
         try go_wp2
         have n0_ := Aside0.mk (below_drew1 HB.out)
         clear HB
         have HB := n0_
         clear n0_
         have p240 : 0 ≤ (x7_1 : Int) := dt_
         have q240 : x7_1 < (l0.length : Int) := dt_
         obtain ⟨ad240, e240, hx240_0, hx240_1⟩ := at_T23 HR0.out x7_1 p240 q240
         have hw240_1 := hx240_1
         have hw240_0 := hx240_0
         cases e240
         replace hx240_0 := (HB.out.cell (World.block_lt_of_cell? w _ hx240_0)).trans hx240_0
         replace hx240_1 := (HB.out.cell (World.block_lt_of_cell? w _ hx240_1)).trans hx240_1
         replace p240 := eq_true p240
         replace q240 := eq_true q240
         have p241 : 0 ≤ (x3_1 : Int) := dt_
         have q241 : x3_1 < (l0.length : Int) := dt_
         obtain ⟨ad241, e241, hx241_0, hx241_1⟩ := at_T23 HR0.out x3_1 p241 q241
         have hw241_1 := hx241_1
         have hw241_0 := hx241_0
         obtain rfl : ad240 = ad241 := (by injection e241)
         replace hx241_0 := (HB.out.cell (World.block_lt_of_cell? w _ hx241_0)).trans hx241_0
         replace hx241_1 := (HB.out.cell (World.block_lt_of_cell? w _ hx241_1)).trans hx241_1
         replace p241 := eq_true p241
         replace q241 := eq_true q241
         refine start_ (n := 10) (S := fun w' => w'.cell? (ad240.add ((x7_1).toNat * 2)) = some (.int .i64 ((rd_T23 l0 x7_1).f0)) ∧ w'.cell? ⟨(ad240.add ((x7_1).toNat * 2)).block, (ad240.add ((x7_1).toNat * 2)).off + 1, none⟩ = some (.int .i64 ((rd_T23 l0 x7_1).f1)) ∧ w'.cell? (ad240.add ((x3_1).toNat * 2)) = some (.int .i64 ((rd_T23 l0 x3_1).f0)) ∧ w'.cell? ⟨(ad240.add ((x3_1).toNat * 2)).block, (ad240.add ((x3_1).toNat * 2)).off + 1, none⟩ = some (.int .i64 ((rd_T23 l0 x3_1).f1))) (ds := []) #[F_,F_,F_,F_,F_,F_,F_,F_,F_,F_] (by kernel_rfl) rfl rfl ⟨((HB.out.cell (World.block_lt_of_cell? w _ hw240_0)).trans hw240_0), ((HB.out.cell (World.block_lt_of_cell? w _ hw240_1)).trans hw240_1), ((HB.out.cell (World.block_lt_of_cell? w _ hw241_0)).trans hw241_0), ((HB.out.cell (World.block_lt_of_cell? w _ hw241_1)).trans hw241_1)⟩ (fun hHeld => ?_); refine with_tabW tie_last.tab5 tie_last.bits5 (fun HT_ HW_ => ?_)
         generalize wr.drew = w9 at HB hx240_0 hx240_1 hx241_0 hx241_1 hHeld ⊢
         refine pA (i := 0) (N := some 10) (v := ?_) (a' := ?_) #[T_,F_,F_,F_,F_,F_,F_,F_,F_,F_] rfl rfl HT_ (Or.inl ⟨by rfl, ?_⟩) ?_ ?_
         rotate_left
         ·intro w'
          go_simp
          with_reducible rfl
         rotate_left
         ·simp only [Act.put, s1, s2, s3, i64_w, i32_w]
          rfl
         refine pA (i := 1) (N := some 11) (v := ?_) (a' := ?_) #[T_,T_,F_,F_,F_,F_,F_,F_,F_,F_] rfl rfl HT_ (Or.inl ⟨by rfl, ?_⟩) ?_ ?_
         rotate_left
         ·intro w'
          go_simp
          with_reducible rfl
         rotate_left
         ·simp only [Act.put, s1, s2, s3, i64_w, i32_w]
          rfl
         refine pA (i := 2) (N := some 12) (v := ?_) (a' := ?_) #[T_,T_,T_,F_,F_,F_,F_,F_,F_,F_] rfl rfl HT_ (Or.inl ⟨by rfl, ?_⟩) ?_ ?_
         rotate_left
         ·intro w'
          go_simp
          with_reducible rfl
         rotate_left
         ·simp only [Act.put, s1, s2, s3, i64_w, i32_w]
          rfl
         refine pA (i := 4) (N := some 14) (v := ?_) (a' := ?_) #[T_,T_,T_,F_,T_,F_,F_,F_,F_,F_] rfl rfl HT_ (Or.inl ⟨by rfl, ?_⟩) ?_ ?_
         rotate_left
         ·intro w'
          go_simp
          with_reducible rfl
         rotate_left
         ·simp only [Act.put, s1, s2, s3, i64_w, i32_w]
          rfl
         refine pA (i := 5) (N := some 15) (v := ?_) (a' := ?_) #[T_,T_,T_,F_,T_,T_,F_,F_,F_,F_] rfl rfl HT_ (Or.inl ⟨by rfl, ?_⟩) ?_ ?_
         rotate_left
         ·intro w'
          go_simp
          with_reducible rfl
         rotate_left
         ·simp only [Act.put, s1, s2, s3, i64_w, i32_w]
          rfl
         refine pA (i := 6) (N := some 16) (v := ?_) (a' := ?_) #[T_,T_,T_,F_,T_,T_,T_,F_,F_,F_] rfl rfl HT_ (Or.inl ⟨by rfl, ?_⟩) ?_ ?_
         rotate_left
         ·intro w'
          go_simp
          with_reducible rfl
         rotate_left
         ·simp only [Act.put, s1, s2, s3, i64_w, i32_w]
          rfl
         refine tA (i := 3) (N := some 13) (v := ?_) (a' := ?_) #[T_,T_,T_,T_,T_,T_,T_,F_,F_,F_] rfl rfl HT_ HW_ (Or.inl ⟨by rfl, ?_⟩) hHeld ?_ ?_
         rotate_left
         ·rintro w' ⟨s0, s1, s2, s3⟩
          go_simp
          with_reducible rfl
         rotate_left
         ·simp only [Act.put, s1, s2, s3, i64_w, i32_w]
          rfl
         refine tA (i := 7) (N := some 17) (v := ?_) (a' := ?_) #[T_,T_,T_,T_,T_,T_,T_,T_,F_,F_] rfl rfl HT_ HW_ (Or.inl ⟨by rfl, ?_⟩) hHeld ?_ ?_
         rotate_left
         ·rintro w' ⟨s0, s1, s2, s3⟩
          go_simp
          with_reducible rfl
         rotate_left
         ·simp only [Act.put, s1, s2, s3, i64_w, i32_w]
          rfl
         refine one_ (i := 8) (N := some 18) #[T_,T_,T_,T_,T_,T_,T_,T_,T_,F_] rfl rfl (one_of HT_.out (by kernel_rfl)) (by decide) (fun K hK => ?_)
         refine goes_ Try.func48 (by kernel_rfl) rfl #[.agg #[.int .i64 ((rd_T23 l0 x7_1).f0), .int .i64 ((rd_T23 l0 x7_1).f1)], .agg #[.int .i64 ((rd_T23 l0 x3_1).f0), .int .i64 ((rd_T23 l0 x3_1).f1)]] (by rfl) rfl rfl (by (try simp only [List.map_toArray, List.map_cons, List.map_nil]); first | done | rfl | (simp only [List.length_drop, List.length_take]; rfl)) ?_
         with_reducible refine (lift_Cmp.calls k1 ((rd_T23 l0 x7_1).f0) ((rd_T23 l0 x7_1).f1) ((rd_T23 l0 x3_1).f0) ((rd_T23 l0 x3_1).f1) t242 _ A7.out).mono ?_
         rintro e w10 ⟨rfl, hb⟩
         refine ⟨_, rfl, ?_⟩
         have n0_ := Aside0.mk (below_step (bw HB.out) hb)
         clear HB
         have HB := n0_
         clear n0_
         (try clear hb)
         (try clear hb2)
         (try clear hk)
         (try clear hi)
         refine hK.out _ _ ⟨((HB.out.cell (World.block_lt_of_cell? w _ hw240_0)).trans hw240_0), ((HB.out.cell (World.block_lt_of_cell? w _ hw240_1)).trans hw240_1), ((HB.out.cell (World.block_lt_of_cell? w _ hw241_0)).trans hw241_0), ((HB.out.cell (World.block_lt_of_cell? w _ hw241_1)).trans hw241_1)⟩ (fun hHeld => ?_)
         clear hK K
         refine norm_ (a' := ?_) ?_ ?_
         rotate_left
         ·show Act.put _ (some 18) _ = _
          simp only [Act.put, s1, s2, s3, i64_w, i32_w]
          rfl
         refine pA (i := 9) (N := some 19) (v := ?_) (a' := ?_) #[T_,T_,T_,T_,T_,T_,T_,T_,T_,T_] rfl rfl HT_ (Or.inl ⟨by rfl, ?_⟩) ?_ ?_
         rotate_left
         ·intro w'
          go_simp
          with_reducible rfl
         rotate_left
         ·simp only [Act.put, s1, s2, s3, i64_w, i32_w]
          rfl
         refine done_ (done_of HT_.out (by kernel_rfl)) ?_
         try go_wp2
         go_roundg k1
         case measure => have := HK1.out; omega
         case rel => exact ⟨(x7_1), (wrap64 (x7_1 + 1)), (by first | rfl | (simp; done) | (simp [*]; done)), (by first | rfl | (simp; done) | (simp [*]; done)), H', ⟨by have := HK1.out; omega⟩, ⟨bw HB.out⟩⟩
        ·rw [if_neg c8] at H
         have c8b0 : decide (0 < t242) = false := decide_eq_false c8
         clear c8
         have H' := Aside0.mk H
         clear H
         try go_wp2
         have n0_ := Aside0.mk (below_drew1 HB.out)
         clear HB
         have HB := n0_
         clear n0_
         have p240 : 0 ≤ (x7_1 : Int) := dt_
         have q240 : x7_1 < (l0.length : Int) := dt_
         obtain ⟨ad240, e240, hx240_0, hx240_1⟩ := at_T23 HR0.out x7_1 p240 q240
         have hw240_1 := hx240_1
         have hw240_0 := hx240_0
         cases e240
         replace hx240_0 := (HB.out.cell (World.block_lt_of_cell? w _ hx240_0)).trans hx240_0
         replace hx240_1 := (HB.out.cell (World.block_lt_of_cell? w _ hx240_1)).trans hx240_1
         replace p240 := eq_true p240
         replace q240 := eq_true q240
         have p241 : 0 ≤ (x3_1 : Int) := dt_
         have q241 : x3_1 < (l0.length : Int) := dt_
         obtain ⟨ad241, e241, hx241_0, hx241_1⟩ := at_T23 HR0.out x3_1 p241 q241
         have hw241_1 := hx241_1
         have hw241_0 := hx241_0
         obtain rfl : ad240 = ad241 := (by injection e241)
         replace hx241_0 := (HB.out.cell (World.block_lt_of_cell? w _ hx241_0)).trans hx241_0
         replace hx241_1 := (HB.out.cell (World.block_lt_of_cell? w _ hx241_1)).trans hx241_1
         replace p241 := eq_true p241
         replace q241 := eq_true q241
         refine start_ (n := 10) (S := fun w' => w'.cell? (ad240.add ((x7_1).toNat * 2)) = some (.int .i64 ((rd_T23 l0 x7_1).f0)) ∧ w'.cell? ⟨(ad240.add ((x7_1).toNat * 2)).block, (ad240.add ((x7_1).toNat * 2)).off + 1, none⟩ = some (.int .i64 ((rd_T23 l0 x7_1).f1)) ∧ w'.cell? (ad240.add ((x3_1).toNat * 2)) = some (.int .i64 ((rd_T23 l0 x3_1).f0)) ∧ w'.cell? ⟨(ad240.add ((x3_1).toNat * 2)).block, (ad240.add ((x3_1).toNat * 2)).off + 1, none⟩ = some (.int .i64 ((rd_T23 l0 x3_1).f1))) (ds := []) #[F_,F_,F_,F_,F_,F_,F_,F_,F_,F_] (by kernel_rfl) rfl rfl ⟨((HB.out.cell (World.block_lt_of_cell? w _ hw240_0)).trans hw240_0), ((HB.out.cell (World.block_lt_of_cell? w _ hw240_1)).trans hw240_1), ((HB.out.cell (World.block_lt_of_cell? w _ hw241_0)).trans hw241_0), ((HB.out.cell (World.block_lt_of_cell? w _ hw241_1)).trans hw241_1)⟩ (fun hHeld => ?_); refine with_tabW tie_last.tab5 tie_last.bits5 (fun HT_ HW_ => ?_)
         generalize wr.drew = w11 at HB hx240_0 hx240_1 hx241_0 hx241_1 hHeld ⊢
         refine pA (i := 0) (N := some 10) (v := ?_) (a' := ?_) #[T_,F_,F_,F_,F_,F_,F_,F_,F_,F_] rfl rfl HT_ (Or.inl ⟨by rfl, ?_⟩) ?_ ?_
         rotate_left
         ·intro w'
          go_simp
          with_reducible rfl
         rotate_left
         ·simp only [Act.put, s1, s2, s3, i64_w, i32_w]
          rfl
         refine pA (i := 1) (N := some 11) (v := ?_) (a' := ?_) #[T_,T_,F_,F_,F_,F_,F_,F_,F_,F_] rfl rfl HT_ (Or.inl ⟨by rfl, ?_⟩) ?_ ?_
         rotate_left
         ·intro w'
          go_simp
          with_reducible rfl
         rotate_left
         ·simp only [Act.put, s1, s2, s3, i64_w, i32_w]
          rfl
         refine pA (i := 2) (N := some 12) (v := ?_) (a' := ?_) #[T_,T_,T_,F_,F_,F_,F_,F_,F_,F_] rfl rfl HT_ (Or.inl ⟨by rfl, ?_⟩) ?_ ?_
         rotate_left
         ·intro w'
          go_simp
          with_reducible rfl
         rotate_left
         ·simp only [Act.put, s1, s2, s3, i64_w, i32_w]
          rfl
         refine pA (i := 4) (N := some 14) (v := ?_) (a' := ?_) #[T_,T_,T_,F_,T_,F_,F_,F_,F_,F_] rfl rfl HT_ (Or.inl ⟨by rfl, ?_⟩) ?_ ?_
         rotate_left
         ·intro w'
          go_simp
          with_reducible rfl
         rotate_left
         ·simp only [Act.put, s1, s2, s3, i64_w, i32_w]
          rfl
         refine pA (i := 5) (N := some 15) (v := ?_) (a' := ?_) #[T_,T_,T_,F_,T_,T_,F_,F_,F_,F_] rfl rfl HT_ (Or.inl ⟨by rfl, ?_⟩) ?_ ?_
         rotate_left
         ·intro w'
          go_simp
          with_reducible rfl
         rotate_left
         ·simp only [Act.put, s1, s2, s3, i64_w, i32_w]
          rfl
         refine pA (i := 6) (N := some 16) (v := ?_) (a' := ?_) #[T_,T_,T_,F_,T_,T_,T_,F_,F_,F_] rfl rfl HT_ (Or.inl ⟨by rfl, ?_⟩) ?_ ?_
         rotate_left
         ·intro w'
          go_simp
          with_reducible rfl
         rotate_left
         ·simp only [Act.put, s1, s2, s3, i64_w, i32_w]
          rfl
         refine tA (i := 3) (N := some 13) (v := ?_) (a' := ?_) #[T_,T_,T_,T_,T_,T_,T_,F_,F_,F_] rfl rfl HT_ HW_ (Or.inl ⟨by rfl, ?_⟩) hHeld ?_ ?_
         rotate_left
         ·rintro w' ⟨s0, s1, s2, s3⟩
          go_simp
          with_reducible rfl
         rotate_left
         ·simp only [Act.put, s1, s2, s3, i64_w, i32_w]
          rfl
         refine tA (i := 7) (N := some 17) (v := ?_) (a' := ?_) #[T_,T_,T_,T_,T_,T_,T_,T_,F_,F_] rfl rfl HT_ HW_ (Or.inl ⟨by rfl, ?_⟩) hHeld ?_ ?_
         rotate_left
         ·rintro w' ⟨s0, s1, s2, s3⟩
          go_simp
          with_reducible rfl
         rotate_left
         ·simp only [Act.put, s1, s2, s3, i64_w, i32_w]
          rfl
         refine one_ (i := 8) (N := some 18) #[T_,T_,T_,T_,T_,T_,T_,T_,T_,F_] rfl rfl (one_of HT_.out (by kernel_rfl)) (by decide) (fun K hK => ?_)
         refine goes_ Try.func48 (by kernel_rfl) rfl #[.agg #[.int .i64 ((rd_T23 l0 x7_1).f0), .int .i64 ((rd_T23 l0 x7_1).f1)], .agg #[.int .i64 ((rd_T23 l0 x3_1).f0), .int .i64 ((rd_T23 l0 x3_1).f1)]] (by rfl) rfl rfl (by (try simp only [List.map_toArray, List.map_cons, List.map_nil]); first | done | rfl | (simp only [List.length_drop, List.length_take]; rfl)) ?_
         with_reducible refine (lift_Cmp.calls k1 ((rd_T23 l0 x7_1).f0) ((rd_T23 l0 x7_1).f1) ((rd_T23 l0 x3_1).f0) ((rd_T23 l0 x3_1).f1) t242 _ A7.out).mono ?_
         rintro e w12 ⟨rfl, hb⟩
         refine ⟨_, rfl, ?_⟩
         have n0_ := Aside0.mk (below_step (bw HB.out) hb)
         clear HB
         have HB := n0_
         clear n0_
         (try clear hb)
         (try clear hb2)
         (try clear hk)
         (try clear hi)
         refine hK.out _ _ ⟨((HB.out.cell (World.block_lt_of_cell? w _ hw240_0)).trans hw240_0), ((HB.out.cell (World.block_lt_of_cell? w _ hw240_1)).trans hw240_1), ((HB.out.cell (World.block_lt_of_cell? w _ hw241_0)).trans hw241_0), ((HB.out.cell (World.block_lt_of_cell? w _ hw241_1)).trans hw241_1)⟩ (fun hHeld => ?_)
         clear hK K
         refine norm_ (a' := ?_) ?_ ?_
         rotate_left
         ·show Act.put _ (some 18) _ = _
          simp only [Act.put, s1, s2, s3, i64_w, i32_w]
          rfl
         refine pA (i := 9) (N := some 19) (v := ?_) (a' := ?_) #[T_,T_,T_,T_,T_,T_,T_,T_,T_,T_] rfl rfl HT_ (Or.inl ⟨by rfl, ?_⟩) ?_ ?_
         rotate_left
         ·intro w'
          go_simp
          with_reducible rfl
         rotate_left
         ·simp only [Act.put, s1, s2, s3, i64_w, i32_w]
          rfl
         refine done_ (done_of HT_.out (by kernel_rfl)) ?_
         try go_wp2
         go_roundg k1
         case measure => have := HK1.out; omega
         case rel => exact ⟨(x3_1), (wrap64 (x7_1 + 1)), (by first | rfl | (simp; done) | (simp [*]; done)), (by first | rfl | (simp; done) | (simp [*]; done)), H', ⟨by have := HK1.out; omega⟩, ⟨bw HB.out⟩⟩
       ·rw [if_neg c6] at H
        exact absurd H (by simp)
      ·rw [if_neg c5] at H
       exact absurd H (by simp)
     ·rw [if_neg c4] at H
      exact absurd H (by simp)
    ·rw [if_neg c3] at H
     exact absurd H (by simp)
   ·rw [if_neg c2] at H
    have c2b0 : decide (x7_1 < (l0.length : Int)) = false := decide_eq_false c2
    clear c2
    obtain rfl := Option.some.inj H
    go_wp2
    go_ret
    exact ⟨by first | rfl | (simp [*, errW_none, errW_some] <;> rfl), bw HB.out⟩
end Go.Proofs.Ytlkngfidohiepaa.F
end
