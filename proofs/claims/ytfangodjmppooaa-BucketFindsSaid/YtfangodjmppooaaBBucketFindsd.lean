/- BucketFinds: own texts in one (part 4 of 4): contracts of the functions that the law reaches. -/
import Derived.Test.YtfangodjmppooaaBBucketFindsc

section
namespace Go.Proofs.Ytfangodjmppooaa.Whole
open Go RowKit YtfangodjmppooaaW.PrintWords YtfangodjmppooaaW.PrintLast YtfangodjmppooaaW.PrintMore Ytfangodjmppooaa.F Ytfangodjmppooaa.Dig
set_option linter.unusedVariables false
theorem far_two {W : World} {b g t : Nat} {cs : Array Value} {u v : Value} (h : W.heap[b]? = some (.cells cs t (0, 0))) (hne : b ≠ g) : ((W.setCell ⟨g, 0, none⟩ u).setCell ⟨g, 1, none⟩ v).heap[b]? = some (.cells cs t (0, 0)) := blk_far (p := ⟨g, 1, none⟩) (blk_far (p := ⟨g, 0, none⟩) h (by simp only []; first | exact hne | exact hne.symm) _) (by simp only []; first | exact hne | exact hne.symm) _
theorem torus_is (s : Int) : zelligeref06_Torus.f s = some (decide (1 ≤ s ∧ s ≤ 1099511627776)) := by
 unfold zelligeref06_Torus.f
 by_cases h : s ≥ 1
 ·rw [if_pos h]
  congr 1
  rw [decide_eq_decide]
  exact ⟨fun k => ⟨h, k⟩, fun k => k.2⟩
 ·rw [if_neg h, decide_eq_false (fun k => h k.1)]
structure BX (w wx : World) (v : Value) (n : Int) : Prop where
 out : ∃ (g : Nat) (s : Int) (A : Option Addr) (l c : Nat), v = .pointer (some ⟨g, 0, none⟩) ∧ w.heap.size + 1 + 1 < g ∧ wx.heap[g]? = some (.cells #[.int .i64 s, .slice A l c] 71 (0, 0)) ∧ NI wx (.agg #[.int .i64 s, .slice A l c]) n
theorem BX.below {w wx wy : World} {v : Value} {n : Int} (h : BX w wx v n) (hb : Below wx.heap.size wx wy) : BX w wy v n := by
 obtain ⟨g, s, A, l, c, rfl, h1, h2, h3⟩ := h
 exact ⟨g, s, A, l, c, rfl, h1, blk_below h2 hb, h3.below hb⟩
structure HS (w : World) (x y : Int) (wx : World) : Prop where
 p : wx.heap[w.heap.size]? = some (.cells #[.int .i64 x, .int .i64 y] 23 (0, 0))
 r : wx.heap[w.heap.size + 1]? = some (.cells #[.int .i64 0, .int .i64 0] 23 (0, 0))
 o : wx.heap[w.heap.size + 1 + 1]? = some (.cells #[.int .i64 0, .int .i64 0] 52 (0, 0))
 b : Below w.heap.size w wx
theorem HS.below {w wx wy : World} {x y : Int} (h : HS w x y wx) (hb : Below wx.heap.size wx wy) : HS w x y wy :=
 ⟨blk_below h.p hb, blk_below h.r hb, blk_below h.o hb, bthen hb h.b⟩
theorem HS.cells {w wx : World} {x y : Int} (h : HS w x y wx) : wx.cell? ⟨w.heap.size, 0, none⟩ = some (.int .i64 x) ∧ wx.cell? ⟨w.heap.size, 1, none⟩ = some (.int .i64 y) := ⟨(blk_cell h.p 0).trans rfl, (blk_cell h.p 1).trans rfl⟩
theorem HS.put {w wx : World} {x y : Int} (h : HS w x y wx) (a b c d : Value) :
  ((((wx.setCell ⟨w.heap.size + 1, 0, none⟩ a).setCell ⟨w.heap.size + 1, 1, none⟩ b).setCell ⟨w.heap.size + 1 + 1, 0, none⟩ c).setCell ⟨w.heap.size + 1 + 1, 1, none⟩ d).heap[w.heap.size + 1]? = some (.cells #[a, b] 23 (0, 0)) ∧
  ((((wx.setCell ⟨w.heap.size + 1, 0, none⟩ a).setCell ⟨w.heap.size + 1, 1, none⟩ b).setCell ⟨w.heap.size + 1 + 1, 0, none⟩ c).setCell ⟨w.heap.size + 1 + 1, 1, none⟩ d).heap[w.heap.size + 1 + 1]? = some (.cells #[c, d] 52 (0, 0)) ∧
  Below w.heap.size w ((((wx.setCell ⟨w.heap.size + 1, 0, none⟩ a).setCell ⟨w.heap.size + 1, 1, none⟩ b).setCell ⟨w.heap.size + 1 + 1, 0, none⟩ c).setCell ⟨w.heap.size + 1 + 1, 1, none⟩ d) := by
 refine ⟨?_, ?_, below_set2 (below_set2 h.b (by omega) _ _ _ _) (by omega) _ _ _ _⟩
 ·refine far_two ?_ (by omega)
  exact blk_put (cs := #[a, .int .i64 0]) (blk_put (cs := #[.int .i64 0, .int .i64 0]) h.r 0 _ rfl) 1 _ rfl
 ·refine blk_put (cs := #[c, .int .i64 0]) (blk_put (cs := #[.int .i64 0, .int .i64 0]) ?_ 0 _ rfl) 1 _ rfl
  exact far_two h.o (by omega)
theorem HS.rest {w wx : World} {x y : Int} (h : HS w x y wx) : (wx.cell? ⟨w.heap.size + 1, 0, none⟩ = some (.int .i64 0) ∧ wx.cell? ⟨w.heap.size + 1, 1, none⟩ = some (.int .i64 0) ∧ wx.cell? ⟨w.heap.size + 1 + 1, 0, none⟩ = some (.int .i64 0) ∧ wx.cell? ⟨w.heap.size + 1 + 1, 1, none⟩ = some (.int .i64 0)) ∧
  (wx.frozen? ⟨w.heap.size + 1, 0, none⟩ = false ∧ wx.frozen? ⟨w.heap.size + 1, 1, none⟩ = false ∧ wx.frozen? ⟨w.heap.size + 1 + 1, 0, none⟩ = false ∧ wx.frozen? ⟨w.heap.size + 1 + 1, 1, none⟩ = false) :=
 ⟨⟨(blk_cell h.r 0).trans rfl, (blk_cell h.r 1).trans rfl, (blk_cell h.o 0).trans rfl, (blk_cell h.o 1).trans rfl⟩, blk_frozen h.r 0, blk_frozen h.r 1, blk_frozen h.o 0, blk_frozen h.o 1⟩
theorem BX.two {w wx : World} {s t : Int} {A B : Option Addr} {l c m d : Nat} {n k : Int} (hz : w.heap.size + 1 + 1 < wx.heap.size) (h : NI wx (.agg #[.int .i64 s, .slice A l c]) n) (h' : NI wx (.agg #[.int .i64 t, .slice B m d]) k) :
  BX w ((wx.alloc (.cells #[.int .i64 s, .slice A l c] 71)).alloc (.cells #[.int .i64 t, .slice B m d] 71)) (.pointer (some ⟨wx.heap.size, 0, none⟩)) n ∧
  BX w ((wx.alloc (.cells #[.int .i64 s, .slice A l c] 71)).alloc (.cells #[.int .i64 t, .slice B m d] 71)) (.pointer (some ⟨wx.heap.size + 1, 0, none⟩)) k := by
 obtain ⟨n0, n1, bw, _⟩ := two_new wx (.cells #[.int .i64 s, .slice A l c] 71) (.cells #[.int .i64 t, .slice B m d] 71)
 exact ⟨⟨_, s, A, l, c, rfl, hz, n0, h.below bw⟩, ⟨_, t, B, m, d, rfl, by omega, n1, h'.below bw⟩⟩
theorem two_below (w : World) (o0 o1 : Obj) : Below w.heap.size w ((w.alloc o0).alloc o1) := (two_new w o0 o1).2.2.1
structure BC (w wx : World) (g : Nat) (s : Int) (A : Option Addr) (l c : Nat) (n : Int) : Prop where
 z : w.heap.size + 1 + 1 < g
 h : wx.heap[g]? = some (.cells #[.int .i64 s, .slice A l c] 71 (0, 0))
 k : NI wx (.agg #[.int .i64 s, .slice A l c]) n
theorem BC.below {w wx wy : World} {g : Nat} {s : Int} {A : Option Addr} {l c : Nat} {n : Int} (h : BC w wx g s A l c n) (hb : Below wx.heap.size wx wy) : BC w wy g s A l c n := ⟨h.z, blk_below h.h hb, h.k.below hb⟩
theorem BC.cells {w wx : World} {g : Nat} {s : Int} {A : Option Addr} {l c : Nat} {n : Int} (h : BC w wx g s A l c n) : wx.cell? ⟨g, 0, none⟩ = some (.int .i64 s) ∧ wx.cell? ⟨g, 1, none⟩ = some (.slice A l c) := ⟨(blk_cell h.h 0).trans rfl, (blk_cell h.h 1).trans rfl⟩
structure H1 (w : World) (x y n m : Int) (a b : Value) (wx : World) : Prop where
 s : Aside0 (HS w x y wx)
 i : Aside0 (BX w wx a n)
 k : Aside0 (BX w wx b m)
structure H2 (w : World) (x y : Int) (g1 : Nat) (s1 : Int) (A1 : Option Addr) (l1 c1 : Nat) (n : Int) (g2 : Nat) (s2 : Int) (A2 : Option Addr) (l2 c2 : Nat) (m : Int) (n' m' : Int) (a b : Value) (wx : World) : Prop where
 s : Aside0 (HS w x y wx)
 u : Aside0 (BC w wx g1 s1 A1 l1 c1 n)
 v : Aside0 (BC w wx g2 s2 A2 l2 c2 m)
 i : Aside0 (BX w wx a n')
 k : Aside0 (BX w wx b m')
set_option maxHeartbeats 4000000 in
theorem home_walk (x y sd : Int) (Hx : Aside0 (I64 x)) (Hy : Aside0 (I64 y)) (Hsd : Aside0 (I64 sd)) (t c : Bool) (ht : Aside0 (zelligeref06_Torus.f sd = some t)) (hc : Aside0 (zelligeref06_Can.f x y = some c))
  (hl : Aside0 ((t && c) = true → (1 ≤ sd ∧ sd ≤ 1099511627776) ∧ (-1099511627776 ≤ x ∧ x ≤ 1099511627776) ∧ (-1099511627776 ≤ y ∧ y ≤ 1099511627776) ∧ I64 (x / sd) ∧ I64 (x % sd) ∧ I64 (y / sd) ∧ I64 (y % sd)))
  (v : Value) (hr : Aside0 ((if (t && c) = true then Value.tuple #[.agg #[.int .i64 (x % sd), .int .i64 (y % sd)], .agg #[.int .i64 (x / sd), .int .i64 (y / sd)], .bool true] else Value.tuple #[.agg #[.int .i64 0, .int .i64 0], .agg #[.int .i64 0, .int .i64 0], .bool false]) = v)) (w : World) :
  Calls Try.prog 20 #[.agg #[.int .i64 x, .int .i64 y], .int .i64 sd] w fun e w' => e = .returned v ∧ Below w.heap.size w w' := by
 go_enter Try.func20, Try.ntmps20
 go_wp2_with fail
 obtain ⟨n0, n1, n2, bw, nw⟩ := three_new w (.cells #[.int .i64 x, .int .i64 y] 23) (.cells #[.int .i64 0, .int .i64 0] 23) (.cells #[.int .i64 0, .int .i64 0] 52)
 generalize (((w.alloc (.cells #[.int .i64 x, .int .i64 y] 23)).alloc (.cells #[.int .i64 0, .int .i64 0] 23)).alloc (.cells #[.int .i64 0, .int .i64 0] 52)) = W at n0 n1 n2 bw nw ⊢
 have S := Aside0.mk (HS.mk n0 n1 n2 bw)
 clear n0 n1 n2 bw nw
 cases t
 ·have hr := hr.out; subst hr
  obtain ⟨d0, d1⟩ := S.out.cells
  go_wp2_with (go_at_call 29; refine (zelligeref06_Torus.calls _ _ _ ht.out).mono ?_; rintro e v1 ⟨rfl, hb⟩; have hb := hb.below; have S := Aside0.mk (S.out.below hb); clear hb d0 d1; obtain ⟨d0, d1⟩ := S.out.cells; obtain ⟨⟨r0, r1, o0, o1⟩, rf0, rf1, of0, of1⟩ := S.out.rest)
  obtain ⟨h1, h2, h3⟩ := S.out.put (.int .i64 0) (.int .i64 0) (.int .i64 0) (.int .i64 0)
  refine bodyPost_ret (results_list (rs := [.cell 4 23, .cell 5 52, .tmp 6]) rfl (by simp) (.cell (w.heap.size + 1) 23 #[.int .i64 0, .int .i64 0] (0, 0) _ rfl h1 Try.underlying23 rfl (by kernel_rfl) (.cell (w.heap.size + 1 + 1) 52 #[.int .i64 0, .int .i64 0] (0, 0) _ rfl h2 Try.underlying52 rfl (by kernel_rfl) (.tmp .nil)))) rfl ?_
  exact ⟨rfl, h3⟩
 cases c
 ·have hr := hr.out; subst hr
  obtain ⟨d0, d1⟩ := S.out.cells
  go_wp2_with (first | (go_at_call 29; refine (zelligeref06_Torus.calls _ _ _ ht.out).mono ?_; rintro e v1 ⟨rfl, hb⟩; have hb := hb.below; have S := Aside0.mk (S.out.below hb); clear hb d0 d1; obtain ⟨d0, d1⟩ := S.out.cells; obtain ⟨⟨r0, r1, o0, o1⟩, rf0, rf1, of0, of1⟩ := S.out.rest) | (go_at_call 30; refine (zelligeref06_Can.calls _ _ _ _ hc.out).mono ?_; rintro e v2 ⟨rfl, hb⟩; clear r0 r1 o0 o1 rf0 rf1 of0 of1; have S := Aside0.mk (S.out.below hb); clear hb d0 d1; obtain ⟨d0, d1⟩ := S.out.cells; obtain ⟨⟨r0, r1, o0, o1⟩, rf0, rf1, of0, of1⟩ := S.out.rest))
  obtain ⟨h1, h2, h3⟩ := S.out.put (.int .i64 0) (.int .i64 0) (.int .i64 0) (.int .i64 0)
  refine bodyPost_ret (results_list (rs := [.cell 4 23, .cell 5 52, .tmp 6]) rfl (by simp) (.cell (w.heap.size + 1) 23 #[.int .i64 0, .int .i64 0] (0, 0) _ rfl h1 Try.underlying23 rfl (by kernel_rfl) (.cell (w.heap.size + 1 + 1) 52 #[.int .i64 0, .int .i64 0] (0, 0) _ rfl h2 Try.underlying52 rfl (by kernel_rfl) (.tmp .nil)))) rfl ?_
  exact ⟨rfl, h3⟩
 have hl := hl.out rfl; have hr := hr.out; subst hr
 obtain ⟨l1, l2, l3, l4, l5, l6, l7⟩ := hl
 have L1 := Aside0.mk l1; have L2 := Aside0.mk l2; have L3 := Aside0.mk l3; have L4 := Aside0.mk l4; have L5 := Aside0.mk l5; have L6 := Aside0.mk l6; have L7 := Aside0.mk l7; clear l1 l2 l3 l4 l5 l6 l7
 obtain ⟨d0, d1⟩ := S.out.cells
 go_upto_region 3 with (first | (go_at_call 29; refine (zelligeref06_Torus.calls _ _ _ ht.out).mono ?_; rintro e v1 ⟨rfl, hb⟩; have hb := hb.below; have S := Aside0.mk (S.out.below hb); clear hb d0 d1; obtain ⟨d0, d1⟩ := S.out.cells; obtain ⟨⟨r0, r1, o0, o1⟩, rf0, rf1, of0, of1⟩ := S.out.rest) | (go_at_call 30; refine (zelligeref06_Can.calls _ _ _ _ hc.out).mono ?_; rintro e v2 ⟨rfl, hb⟩; clear r0 r1 o0 o1 rf0 rf1 of0 of1; have S := Aside0.mk (S.out.below hb); clear hb d0 d1; obtain ⟨d0, d1⟩ := S.out.cells; obtain ⟨⟨r0, r1, o0, o1⟩, rf0, rf1, of0, of1⟩ := S.out.rest))
 clear r0 r1 o0 o1 rf0 rf1 of0 of1
 go_cut [7, 8] (fun a b wx => H1 w x y (x / sd) (x % sd) a b wx)
 case first =>
  go_wp2_with fail
  refine (long_m x Hx.out _).mono ?_
  have S0 := S
  rintro e w1 ⟨u1, rfl, m1, hb⟩
  have M1 := Aside0.mk m1; have B1 := Aside0.mk hb; have S := Aside0.mk (S.out.below hb); clear m1 hb d0 d1
  go_wp2_with fail
  refine (long_m sd Hsd.out _).mono ?_
  rintro e w2 ⟨u2, rfl, m2, hb⟩
  have M2 := Aside0.mk m2; have B2 := Aside0.mk hb; have S := Aside0.mk (S.out.below hb); clear m2 hb
  go_wp2_with fail
  refine (floor_m x sd L1.out L2.out _ _ _ _ _ B1.out B2.out M1.out M2.out).mono ?_
  rintro e w3 ⟨u3, u4, rfl, n3, n4, hb⟩
  obtain ⟨s3, A3, l3, c3, rfl⟩ := n3.shape
  obtain ⟨s4, A4, l4, c4, rfl⟩ := n4.shape
  have N3 := Aside0.mk n3; have N4 := Aside0.mk n4; clear n3 n4 S; have S := Aside0.mk (S0.out.below hb); clear S0 hb
  go_wp2_with fail
  go_meet
  obtain ⟨b1, b2⟩ := BX.two (w := w) (blk_lt S.out.o) N3.out N4.out
  exact ⟨⟨S.out.below (two_below _ _ _)⟩, ⟨b1⟩, ⟨b2⟩⟩
 case rest =>
 obtain ⟨S, P1, P2⟩ := hcut
 obtain ⟨g1, s1, A1, l1, c1, rfl, z1, h1, k1⟩ := P1.out
 obtain ⟨g2, s2, A2, l2, c2, rfl, z2, h2, k2⟩ := P2.out
 have I1 := Aside0.mk (BC.mk z1 h1 k1); have K1 := Aside0.mk (BC.mk z2 h2 k2)
 clear P1 P2 z1 z2 h1 h2 k1 k2
 clear d0 d1
 obtain ⟨d0, d1⟩ := S.out.cells
 go_upto_region 4 with fail
 go_cut [9, 10] (fun a b wx => H2 w x y g1 s1 A1 l1 c1 (x / sd) g2 s2 A2 l2 c2 (x % sd) (y / sd) (y % sd) a b wx)
 case first =>
  go_wp2_with fail
  refine (long_m y Hy.out _).mono ?_
  have S0 := S; have I0 := I1; have K0 := K1
  rintro e w1 ⟨u1, rfl, m1, hb⟩
  have M1 := Aside0.mk m1; have B1 := Aside0.mk hb; have S := Aside0.mk (S.out.below hb); clear m1 hb d0 d1
  go_wp2_with fail
  refine (long_m sd Hsd.out _).mono ?_
  rintro e w2 ⟨u2, rfl, m2, hb⟩
  have M2 := Aside0.mk m2; have B2 := Aside0.mk hb; clear m2 hb
  go_wp2_with fail
  refine (floor_m y sd L1.out L3.out _ _ _ _ _ B1.out B2.out M1.out M2.out).mono ?_
  rintro e w3 ⟨u3, u4, rfl, n3, n4, hb⟩
  obtain ⟨s3, A3, l3, c3, rfl⟩ := n3.shape
  obtain ⟨s4, A4, l4, c4, rfl⟩ := n4.shape
  have N3 := Aside0.mk n3; have N4 := Aside0.mk n4; clear n3 n4 S; have S := Aside0.mk (S0.out.below hb); have I := Aside0.mk (I0.out.below hb); have K := Aside0.mk (K0.out.below hb); clear S0 I0 K0 I1 K1 hb
  go_wp2_with fail
  go_meet
  obtain ⟨b1, b2⟩ := BX.two (w := w) (blk_lt S.out.o) N3.out N4.out
  exact ⟨⟨S.out.below (two_below _ _ _)⟩, ⟨I.out.below (two_below _ _ _)⟩, ⟨K.out.below (two_below _ _ _)⟩, ⟨b1⟩, ⟨b2⟩⟩
 case rest =>
 clear I1 K1
 obtain ⟨S, Q1, Q2, P3, P4⟩ := hcut
 obtain ⟨g3, s3, A3, l3, c3, rfl, z3, h3, k3⟩ := P3.out
 obtain ⟨g4, s4, A4, l4, c4, rfl, z4, h4, k4⟩ := P4.out
 have Q3 := Aside0.mk (BC.mk z3 h3 k3); have Q4 := Aside0.mk (BC.mk z4 h4 k4)
 clear P3 P4 z3 z4 h3 h4 k3 k4 d0 d1
 obtain ⟨e20, e21⟩ := Q2.out.cells
 go_wp2_with fail
 refine (small_c _ (x % sd) L5.out _ Q2.out.k).mono ?_
 rintro e w1 ⟨rfl, hb⟩
 have S := Aside0.mk (S.out.below hb); have Q1 := Aside0.mk (Q1.out.below hb); have Q3 := Aside0.mk (Q3.out.below hb); have Q4 := Aside0.mk (Q4.out.below hb); clear hb Q2 e20 e21
 obtain ⟨e40, e41⟩ := Q4.out.cells
 go_wp2_with fail
 refine (small_c _ (y % sd) L7.out _ Q4.out.k).mono ?_
 rintro e w2 ⟨rfl, hb⟩
 have S := Aside0.mk (S.out.below hb); have Q1 := Aside0.mk (Q1.out.below hb); have Q3 := Aside0.mk (Q3.out.below hb); clear hb Q4 e40 e41
 obtain ⟨e10, e11⟩ := Q1.out.cells
 go_wp2_with fail
 refine (small_c _ (x / sd) L4.out _ Q1.out.k).mono ?_
 rintro e w3 ⟨rfl, hb⟩
 have S := Aside0.mk (S.out.below hb); have Q3 := Aside0.mk (Q3.out.below hb); clear hb Q1 e10 e11
 obtain ⟨e30, e31⟩ := Q3.out.cells
 go_wp2_with fail
 refine (small_c _ (y / sd) L6.out _ Q3.out.k).mono ?_
 rintro e w4 ⟨rfl, hb⟩
 have S := Aside0.mk (S.out.below hb); clear hb Q3 e30 e31
 obtain ⟨⟨r0, r1, o0, o1⟩, rf0, rf1, of0, of1⟩ := S.out.rest
 go_wp2
 obtain ⟨h1, h2, h3⟩ := S.out.put (.int .i64 (x % sd)) (.int .i64 (y % sd)) (.int .i64 (x / sd)) (.int .i64 (y / sd))
 refine bodyPost_ret (results_list (rs := [.cell 4 23, .cell 5 52, .tmp 6]) rfl (by simp) (.cell (w.heap.size + 1) 23 #[.int .i64 (x % sd), .int .i64 (y % sd)] (0, 0) _ rfl h1 Try.underlying23 rfl (by kernel_rfl) (.cell (w.heap.size + 1 + 1) 52 #[.int .i64 (x / sd), .int .i64 (y / sd)] (0, 0) _ rfl h2 Try.underlying52 rfl (by kernel_rfl) (.tmp .nil)))) rfl ?_
 exact ⟨rfl, h3⟩
end Go.Proofs.Ytfangodjmppooaa.Whole
namespace Go.Proofs.Ytfangodjmppooaa.F
open Go RowKit YtfangodjmppooaaW.PrintWords YtfangodjmppooaaW.PrintLast YtfangodjmppooaaW.PrintMore Ytfangodjmppooaa.Whole
abbrev HomeOk (x y s : Int) : Prop := (1 ≤ s ∧ s ≤ 1099511627776) ∧ (InC x ∧ InC y)
def zelligeref06_Home.f (a0_0 : Int) (a0_1 : Int) (a1 : Int) : Option (Int × Int × Int × Int × Bool) :=
 if I64 a0_0 ∧ I64 a0_1 ∧ I64 a1 then some (if HomeOk a0_0 a0_1 a1 then (a0_0 % a1, a0_1 % a1, a0_0 / a1, a0_1 / a1, true) else (0, 0, 0, 0, false)) else none
theorem divs {n m : Int} (hm : 1 ≤ m ∧ m ≤ 1099511627776) (hn : InC n) : (-1099511627776 ≤ n / m ∧ n / m ≤ 1099511627776) ∧ 0 ≤ n % m ∧ n % m < m := by
 refine ⟨⟨Int.le_ediv_of_mul_le (by omega) (by omega), ?_⟩, Int.emod_nonneg n (by omega), Int.emod_lt_of_pos n (by omega)⟩
 rcases Int.lt_or_le n 0 with h | h
 ·have := Int.ediv_neg_of_neg_of_pos h (show 0 < m by omega); omega
 ·have := Int.ediv_le_self m h; omega
theorem zelligeref06_Home.calls (a0_0 : Int) (a0_1 : Int) (a1 : Int) (r1 r2 r3 r4 : Int) (r5 : Bool) (w : World) (h : zelligeref06_Home.f a0_0 a0_1 a1 = some (r1, r2, r3, r4, r5)) :
  Calls Try.prog 20 #[.agg #[.int .i64 a0_0, .int .i64 a0_1], .int .i64 a1] w fun e w' => e = .returned (.tuple #[.agg #[.int .i64 r1, .int .i64 r2], .agg #[.int .i64 r3, .int .i64 r4], .bool r5]) ∧ Below w.heap.size w w' := by
 unfold zelligeref06_Home.f at h
 by_cases hb : I64 a0_0 ∧ I64 a0_1 ∧ I64 a1
 ·rw [if_pos hb] at h
  have h := Option.some.inj h
  obtain ⟨b1, b2, b3⟩ := hb
  have hcan : zelligeref06_Can.f a0_0 a0_1 = some (decide (InC a0_0 ∧ InC a0_1)) := if_pos ⟨b1, b2⟩
  refine home_walk a0_0 a0_1 a1 ⟨b1⟩ ⟨b2⟩ ⟨b3⟩ _ _ ⟨torus_is a1⟩ ⟨hcan⟩ ⟨?_⟩ _ ⟨?_⟩ w
  ·intro hk
   simp only [Bool.and_eq_true, decide_eq_true_eq] at hk
   obtain ⟨h1, h2, h3⟩ := hk
   have d1 := divs h1 h2
   have d2 := divs h1 h3
   exact ⟨h1, h2, h3, ⟨by omega, by omega⟩, ⟨by omega, by omega⟩, ⟨by omega, by omega⟩, ⟨by omega, by omega⟩⟩
  ·by_cases ok : HomeOk a0_0 a0_1 a1
   ·rw [if_pos ok] at h
    injection h with h1 h
    injection h with h2 h
    injection h with h3 h
    injection h with h4 h5
    subst h1 h2 h3 h4 h5
    rw [if_pos]
    rw [decide_eq_true ok.1, decide_eq_true ok.2]
    rfl
   ·rw [if_neg ok] at h
    injection h with h1 h
    injection h with h2 h
    injection h with h3 h
    injection h with h4 h5
    subst h1 h2 h3 h4 h5
    rw [if_neg]
    intro hk
    simp only [Bool.and_eq_true, decide_eq_true_eq] at hk
    exact ok ⟨hk.1, hk.2⟩
 ·rw [if_neg hb] at h
  cases h
end Go.Proofs.Ytfangodjmppooaa.F
end
section
namespace Go.Proofs.Ytfangodjmppooaa.F
open RowKit YtfangodjmppooaaW.PrintWords YtfangodjmppooaaW.PrintLast YtfangodjmppooaaW.PrintMore
set_option linter.unusedVariables false
set_option linter.unusedSimpArgs false
mutual
def zelligeref15_Cell.l0 : Nat → Int → Int → Int → Int → Int → Int → Option (Int × Int)
 | 0, _, _, _, _, _, _ => none
 | k + 1, x1, x2, x11, x12, x357000, x357001 => if (wrap64 ((wrap64 (x11 + 1)) * x1)) ≤ (wrap64 (x357000 * x2)) then (zelligeref15_Cell.l0 k x1 x2 (wrap64 (x11 + 1)) x12 x357000 x357001) else (zelligeref15_Cell.l1 k x1 x2 x11 x12 x357000 x357001)
def zelligeref15_Cell.l1 : Nat → Int → Int → Int → Int → Int → Int → Option (Int × Int)
 | 0, _, _, _, _, _, _ => none
 | k + 1, x1, x2, x11, x12, x357000, x357001 => if (wrap64 ((wrap64 (x12 + 1)) * x1)) ≤ (wrap64 (x357001 * x2)) then (zelligeref15_Cell.l1 k x1 x2 x11 (wrap64 (x12 + 1)) x357000 x357001) else (some (x11, x12))
end
def zelligeref15_Cell.f (k : Nat) (a0_0 : Int) (a0_1 : Int) (a1 : Int) (a2 : Int) : Option (Int × Int) := (zelligeref06_Home.f a0_0 a0_1 a1).bind fun bt351 => (if bt351.2.2.2.2 = true then (zelligeref15_Cell.l0 k a1 a2 0 0 bt351.1 bt351.2.1) else (some ((-1), (-1))))
theorem zelligeref15_Cell.mono_l : ∀ k, (∀ y0 y1 y2 y3 y4 y5, LeO (zelligeref15_Cell.l0 k y0 y1 y2 y3 y4 y5) (zelligeref15_Cell.l0 (k + 1) y0 y1 y2 y3 y4 y5)) ∧ (∀ y0 y1 y2 y3 y4 y5, LeO (zelligeref15_Cell.l1 k y0 y1 y2 y3 y4 y5) (zelligeref15_Cell.l1 (k + 1) y0 y1 y2 y3 y4 y5))
 | 0 => ⟨fun _ _ _ _ _ _ r h => by simp [zelligeref15_Cell.l0] at h, fun _ _ _ _ _ _ r h => by simp [zelligeref15_Cell.l1] at h⟩
 | k + 1 => by
  obtain ⟨ih0, ih1⟩ := zelligeref15_Cell.mono_l k
  refine ⟨?_, ?_⟩
  ·intro y0 y1 y2 y3 y4 y5
   unfold zelligeref15_Cell.l0
   repeat' first
   | (with_reducible exact ih0 _ _ _ _ _ _)
   | (with_reducible exact ih1 _ _ _ _ _ _)
   | (with_reducible exact LeO.refl _)
   | (with_reducible exact LeO.none _)
   | (with_reducible refine LeO.ite ?_ ?_)
   | (with_reducible refine LeO.bind ?_ (fun _ => ?_))
   | exact ih0 _ _ _ _ _ _
   | exact ih1 _ _ _ _ _ _
   | exact LeO.none _
   | refine LeO.ite ?_ ?_
   | refine LeO.bind ?_ (fun _ => ?_)
  ·intro y0 y1 y2 y3 y4 y5
   unfold zelligeref15_Cell.l1
   repeat' first
   | (with_reducible exact ih0 _ _ _ _ _ _)
   | (with_reducible exact ih1 _ _ _ _ _ _)
   | (with_reducible exact LeO.refl _)
   | (with_reducible exact LeO.none _)
   | (with_reducible refine LeO.ite ?_ ?_)
   | (with_reducible refine LeO.bind ?_ (fun _ => ?_))
   | exact ih0 _ _ _ _ _ _
   | exact ih1 _ _ _ _ _ _
   | exact LeO.none _
   | refine LeO.ite ?_ ?_
   | refine LeO.bind ?_ (fun _ => ?_)
theorem zelligeref15_Cell.mono : ∀ a0 a1 a2 a3 k, LeO (zelligeref15_Cell.f k a0 a1 a2 a3) (zelligeref15_Cell.f (k + 1) a0 a1 a2 a3) := by
 intro a0 a1 a2 a3 k
 obtain ⟨ih0, ih1⟩ := zelligeref15_Cell.mono_l k
 unfold zelligeref15_Cell.f
 repeat' first
   | (with_reducible exact ih0 _ _ _ _ _ _)
   | (with_reducible exact ih1 _ _ _ _ _ _)
   | (with_reducible exact LeO.refl _)
   | (with_reducible exact LeO.none _)
   | (with_reducible refine LeO.ite ?_ ?_)
   | (with_reducible refine LeO.bind ?_ (fun _ => ?_))
   | exact ih0 _ _ _ _ _ _
   | exact ih1 _ _ _ _ _ _
   | exact LeO.none _
   | refine LeO.ite ?_ ?_
   | refine LeO.bind ?_ (fun _ => ?_)
set_option maxHeartbeats 8000000 in
set_option maxRecDepth 100000 in
theorem zelligeref15_Cell.calls (k : Nat) (a0_0 : Int) (a0_1 : Int) (a1 : Int) (a2 : Int) (r1 : Int) (r2 : Int) (w : World) (h : zelligeref15_Cell.f k a0_0 a0_1 a1 a2 = some (r1, r2)) :
  Calls Try.prog 10 #[.agg #[.int .i64 a0_0, .int .i64 a0_1], .int .i64 a1, .int .i64 a2] w fun e w' => e = .returned (.tuple #[.int .i64 r1, .int .i64 r2]) ∧ Below w.heap.size w w' := by
 have hu23 := Try.underlying23
 have hu52 := Try.underlying52
 have HB := Aside0.mk (Below.refl w.heap.size w)
 have H : ((zelligeref06_Home.f a0_0 a0_1 a1).bind fun bt351 => (if bt351.2.2.2.2 = true then (zelligeref15_Cell.l0 k a1 a2 0 0 bt351.1 bt351.2.1) else (some ((-1), (-1))))) = some (r1, r2) := h
 clear h
 replace H := Option.bind_eq_some_iff.mp H
 obtain ⟨⟨t351, t352, t353, t354, t355⟩, A40, H⟩ := H
 try dsimp only at H
 have A4 := Aside0.mk A40
 clear A40
 by_cases c5 : t355 = true
 ·subst c5
  rw [if_pos rfl] at H
  have H' := Aside0.mk H
  clear H
  go_enter Try.func10, Try.ntmps10
  go_wp2_with (first | ((with_reducible refine gate_dst (N := 3) rfl ?_); refine bx 3 #[.int .i64 a0_0, .int .i64 a0_1] 23 ?_; intro gb350 hg w6 hbox hb; have BK350 := Aside0.mk hbox; have GW350 := u3 hg HB; have GE350 := u3 hg HB; replace HB := u2 HB hb; clear hb hbox hg; obtain ⟨hcz7_0, hcz7_1, hfz7_0, hfz7_1⟩ := p2 BK350) | ((with_reducible refine gate_callee (f := 20) rfl ?_); refine gL (some 16) Try.func20 #[.agg #[.int .i64 a0_0, .int .i64 a0_1], .int .i64 a1] rfl ?_; (with_reducible refine (zelligeref06_Home.calls a0_0 a0_1 a1 t351 t352 t353 t354 true _ A4.out).mono ?_); rintro e w8 ⟨rfl, hb⟩; refine ⟨_, rfl, ?_⟩; replace BK350 := u1 BK350 hb; replace HB := u2 HB hb; clear hb) | ((with_reducible refine gate_dst (N := 8) rfl ?_); refine bx 8 #[.int .i64 0, .int .i64 0] 23 ?_; intro gb356 hg w9 hbox hb; have BK356 := Aside0.mk hbox; have GW356 := u3 hg HB; have GE356 := u3 hg HB; have NB350_356 := u4 hg BK350; have NB356_350 := u5 hg BK350; replace BK350 := u1 BK350 hb; replace HB := u2 HB hb; clear hb hbox hg) | ((with_reducible refine gate_dst (N := 9) rfl ?_); refine bx 9 #[.int .i64 0, .int .i64 0] 52 ?_; intro gb357 hg w10 hbox hb; have BK357 := Aside0.mk hbox; have GW357 := u3 hg HB; have GE357 := u3 hg HB; have NB350_357 := u4 hg BK350; have NB357_350 := u5 hg BK350; have NB356_357 := u4 hg BK356; have NB357_356 := u5 hg BK356; replace BK350 := u1 BK350 hb; replace BK356 := u1 BK356 hb; replace HB := u2 HB hb; clear hb hbox hg; have hnb11 := NB356_350.out; have hnc11 := NB350_356.out; have hnb12 := NB356_357.out; have hnc12 := NB357_356.out; obtain ⟨hcz13_0, hcz13_1, hfz13_0, hfz13_1⟩ := p2 BK356; have hnb14 := NB357_350.out; have hnc14 := NB350_357.out; obtain ⟨hcz15_0, hcz15_1, hfz15_0, hfz15_1⟩ := p2 BK357))
  go_loopg [11] k (fun kq v11 w' => ∃ (x11_1 : Int), v11 = .int .i64 x11_1 ∧ Aside0 (zelligeref15_Cell.l0 kq a1 a2 x11_1 0 t351 t352 = some (r1, r2)) ∧ Aside0 (kq ≤ k) ∧ Aside0 (w'.heap[gb350]? = some (.cells #[.int .i64 a0_0, .int .i64 a0_1] 23 (0, 0))) ∧ Aside0 (w'.heap[gb356]? = some (.cells #[.int .i64 t351, .int .i64 t352] 23 (0, 0))) ∧ Aside0 (w'.heap[gb357]? = some (.cells #[.int .i64 t353, .int .i64 t354] 52 (0, 0))) ∧ Aside0 (Below w.heap.size w w'))
  case atStart => exact ⟨(0), (by first | rfl | (simp; done) | (simp [*]; done)), H', ⟨Nat.le_refl _⟩, ⟨by (with_reducible repeat (first | refine blk_drewN ?_ _ | refine blk_drew ?_ | refine blk_alloc ?_ _)); refine blk_far ?_ NB350_357.out _; (with_reducible repeat (first | refine blk_drewN ?_ _ | refine blk_drew ?_ | refine blk_alloc ?_ _)); refine blk_far ?_ NB350_357.out _; (with_reducible repeat (first | refine blk_drewN ?_ _ | refine blk_drew ?_ | refine blk_alloc ?_ _)); refine blk_far ?_ NB350_356.out _; (with_reducible repeat (first | refine blk_drewN ?_ _ | refine blk_drew ?_ | refine blk_alloc ?_ _)); refine blk_far ?_ NB350_356.out _; (with_reducible repeat (first | refine blk_drewN ?_ _ | refine blk_drew ?_ | refine blk_alloc ?_ _)); exact BK350.out⟩, ⟨by (with_reducible repeat (first | refine blk_drewN ?_ _ | refine blk_drew ?_ | refine blk_alloc ?_ _)); refine blk_far ?_ NB356_357.out _; (with_reducible repeat (first | refine blk_drewN ?_ _ | refine blk_drew ?_ | refine blk_alloc ?_ _)); refine blk_far ?_ NB356_357.out _; (with_reducible repeat (first | refine blk_drewN ?_ _ | refine blk_drew ?_ | refine blk_alloc ?_ _)); refine blk_put (cs := #[.int .i64 t351, .int .i64 0]) ?_ 1 _ rfl; (with_reducible repeat (first | refine blk_drewN ?_ _ | refine blk_drew ?_ | refine blk_alloc ?_ _)); refine blk_put (cs := #[.int .i64 0, .int .i64 0]) ?_ 0 _ rfl; (with_reducible repeat (first | refine blk_drewN ?_ _ | refine blk_drew ?_ | refine blk_alloc ?_ _)); exact BK356.out⟩, ⟨by (with_reducible repeat (first | refine blk_drewN ?_ _ | refine blk_drew ?_ | refine blk_alloc ?_ _)); refine blk_put (cs := #[.int .i64 t353, .int .i64 0]) ?_ 1 _ rfl; (with_reducible repeat (first | refine blk_drewN ?_ _ | refine blk_drew ?_ | refine blk_alloc ?_ _)); refine blk_put (cs := #[.int .i64 0, .int .i64 0]) ?_ 0 _ rfl; (with_reducible repeat (first | refine blk_drewN ?_ _ | refine blk_drew ?_ | refine blk_alloc ?_ _)); refine blk_far ?_ NB357_356.out _; (with_reducible repeat (first | refine blk_drewN ?_ _ | refine blk_drew ?_ | refine blk_alloc ?_ _)); refine blk_far ?_ NB357_356.out _; (with_reducible repeat (first | refine blk_drewN ?_ _ | refine blk_drew ?_ | refine blk_alloc ?_ _)); exact BK357.out⟩, ⟨by repeat (first | (with_reducible first | exact HB.out | apply below_alloc | apply pw_below_drewN | apply below_drew1 | refine below_set ?_ GE350.out | refine below_set ?_ GE356.out | refine below_set ?_ GE357.out) | exact HB.out)⟩⟩
  case round =>
   clear H'
   try clear c1
   try clear c2
   try clear p2
   try clear c5
   try clear c10
   try clear c11
   try clear c12
   try clear c14
   try clear hcz13_0
   try clear hcz13_1
   try clear hcz15_0
   try clear hcz15_1
   try clear hcz7_0
   try clear hcz7_1
   try clear hfz13_0
   try clear hfz13_1
   try clear hfz15_0
   try clear hfz15_1
   try clear hfz7_0
   try clear hfz7_1
   obtain ⟨x11_1, rfl, HA, HK1, BK350, BK356, BK357, HB⟩ := hrel
   cases gk with
   | zero => exact absurd HA.out (by simp [zelligeref15_Cell.l0])
   | succ k1 =>
    have H := HA.out
    clear HA
    simp only [zelligeref15_Cell.l0] at H
    by_cases c16 : (wrap64 ((wrap64 (x11_1 + 1)) * a1)) ≤ (wrap64 (t351 * a2))
    ·rw [if_pos c16] at H
     have c16b0 : decide ((wrap64 ((wrap64 (x11_1 + 1)) * a1)) ≤ (wrap64 (t351 * a2))) = true := decide_eq_true c16
     clear c16
     have H' := Aside0.mk H
     clear H
     have hnb17 := NB356_350.out
     have hnc17 := NB350_356.out
     have hnb18 := NB356_357.out
     have hnc18 := NB357_356.out
     obtain ⟨hcz19_0, hcz19_1, hfz19_0, hfz19_1⟩ := p2 BK356
     go_wp2
     go_roundg k1
     case measure => have := HK1.out; omega
     case rel => exact ⟨(wrap64 (x11_1 + 1)), (by first | rfl | (simp; done) | (simp [*]; done)), H', ⟨by have := HK1.out; omega⟩, ⟨bk BK350.out⟩, ⟨bk BK356.out⟩, ⟨bk BK357.out⟩, ⟨bw HB.out⟩⟩
    ·rw [if_neg c16] at H
     have c16b0 : decide ((wrap64 ((wrap64 (x11_1 + 1)) * a1)) ≤ (wrap64 (t351 * a2))) = false := decide_eq_false c16
     clear c16
     have H' := Aside0.mk H
     clear H
     have hnb20 := NB356_350.out
     have hnc20 := NB350_356.out
     have hnb21 := NB356_357.out
     have hnc21 := NB357_356.out
     obtain ⟨hcz22_0, hcz22_1, hfz22_0, hfz22_1⟩ := p2 BK356
     go_wp2
     go_loopg [12] k1 (fun kq v12 w' => ∃ (x12_2 : Int), v12 = .int .i64 x12_2 ∧ Aside0 (zelligeref15_Cell.l1 kq a1 a2 x11_1 x12_2 t351 t352 = some (r1, r2)) ∧ Aside0 (kq ≤ k1) ∧ Aside0 (w'.heap[gb350]? = some (.cells #[.int .i64 a0_0, .int .i64 a0_1] 23 (0, 0))) ∧ Aside0 (w'.heap[gb356]? = some (.cells #[.int .i64 t351, .int .i64 t352] 23 (0, 0))) ∧ Aside0 (w'.heap[gb357]? = some (.cells #[.int .i64 t353, .int .i64 t354] 52 (0, 0))) ∧ Aside0 (Below w.heap.size w w'))
     case atStart => exact ⟨(0), (by first | rfl | (simp; done) | (simp [*]; done)), H', ⟨Nat.le_refl _⟩, ⟨bk BK350.out⟩, ⟨bk BK356.out⟩, ⟨bk BK357.out⟩, ⟨bw HB.out⟩⟩
     case round =>
      clear H'
      try clear c1
      try clear c2
      try clear p2
      try clear c5
      try clear p6
      try clear c10
      try clear c11
      try clear c12
      try clear c14
      try clear c16
      try clear c16b0
      try clear c17
      try clear c18
      try clear c20
      try clear c21
      try clear hcz13_0
      try clear hcz13_1
      try clear hcz15_0
      try clear hcz15_1
      try clear hcz19_0
      try clear hcz19_1
      try clear hcz22_0
      try clear hcz22_1
      try clear hcz7_0
      try clear hcz7_1
      try clear hfz13_0
      try clear hfz13_1
      try clear hfz15_0
      try clear hfz15_1
      try clear hfz19_0
      try clear hfz19_1
      try clear hfz22_0
      try clear hfz22_1
      try clear hfz7_0
      try clear hfz7_1
      try clear p2
      obtain ⟨x12_2, rfl, HA, HK2, BK350, BK356, BK357, HB⟩ := hrel
      cases gk with
      | zero => exact absurd HA.out (by simp [zelligeref15_Cell.l1])
      | succ k2 =>
       have H := HA.out
       clear HA
       simp only [zelligeref15_Cell.l1] at H
       by_cases c23 : (wrap64 ((wrap64 (x12_2 + 1)) * a1)) ≤ (wrap64 (t352 * a2))
       ·rw [if_pos c23] at H
        have c23b0 : decide ((wrap64 ((wrap64 (x12_2 + 1)) * a1)) ≤ (wrap64 (t352 * a2))) = true := decide_eq_true c23
        clear c23
        have H' := Aside0.mk H
        clear H
        have hnb24 := NB356_350.out
        have hnc24 := NB350_356.out
        have hnb25 := NB356_357.out
        have hnc25 := NB357_356.out
        obtain ⟨_, _, _, _⟩ := p2 BK356
        go_wp2
        go_roundg k2
        case measure => have := HK1.out; have := HK2.out; omega
        case rel => exact ⟨(wrap64 (x12_2 + 1)), (by first | rfl | (simp; done) | (simp [*]; done)), H', ⟨by have := HK1.out; have := HK2.out; omega⟩, ⟨bk BK350.out⟩, ⟨bk BK356.out⟩, ⟨bk BK357.out⟩, ⟨bw HB.out⟩⟩
       ·rw [if_neg c23] at H
        have c23b0 : decide ((wrap64 ((wrap64 (x12_2 + 1)) * a1)) ≤ (wrap64 (t352 * a2))) = false := decide_eq_false c23
        clear c23
        simp only [Option.some.injEq, Prod.mk.injEq] at H
        obtain ⟨rfl, rfl⟩ := H
        have hnb27 := NB356_350.out
        have hnc27 := NB350_356.out
        have hnb28 := NB356_357.out
        have hnc28 := NB357_356.out
        obtain ⟨_, _, _, _⟩ := p2 BK356
        go_wp2
        go_ret2
        exact ⟨by first | rfl | (simp [*, errW_none, errW_some] <;> rfl), bw HB.out⟩
 ·replace c5 := Bool.eq_false_iff.mpr c5
  subst c5
  rw [if_neg (show ¬ (false = true) by decide)] at H
  simp only [Option.some.injEq, Prod.mk.injEq] at H
  obtain ⟨rfl, rfl⟩ := H
  go_enter Try.func10, Try.ntmps10
  go_wp2_with (first | ((with_reducible refine gate_dst (N := 3) rfl ?_); refine bx 3 #[.int .i64 a0_0, .int .i64 a0_1] 23 ?_; intro gb350 hg w30 hbox hb; have BK350 := Aside0.mk hbox; have GW350 := u3 hg HB; have GE350 := u3 hg HB; replace HB := u2 HB hb; clear hb hbox hg; obtain ⟨_, _, _, _⟩ := p2 BK350) | ((with_reducible refine gate_callee (f := 20) rfl ?_); refine gL (some 16) Try.func20 #[.agg #[.int .i64 a0_0, .int .i64 a0_1], .int .i64 a1] rfl ?_; (with_reducible refine (zelligeref06_Home.calls a0_0 a0_1 a1 t351 t352 t353 t354 false _ A4.out).mono ?_); rintro e w32 ⟨rfl, hb⟩; refine ⟨_, rfl, ?_⟩; replace BK350 := u1 BK350 hb; replace HB := u2 HB hb; clear hb) | ((with_reducible refine gate_dst (N := 8) rfl ?_); refine bx 8 #[.int .i64 0, .int .i64 0] 23 ?_; intro gb356 hg w33 hbox hb; have BK356 := Aside0.mk hbox; have GW356 := u3 hg HB; have GE356 := u3 hg HB; have NB350_356 := u4 hg BK350; have NB356_350 := u5 hg BK350; replace BK350 := u1 BK350 hb; replace HB := u2 HB hb; clear hb hbox hg) | ((with_reducible refine gate_dst (N := 9) rfl ?_); refine bx 9 #[.int .i64 0, .int .i64 0] 52 ?_; intro gb357 hg w34 hbox hb; have BK357 := Aside0.mk hbox; have GW357 := u3 hg HB; have GE357 := u3 hg HB; have NB350_357 := u4 hg BK350; have NB357_350 := u5 hg BK350; have NB356_357 := u4 hg BK356; have NB357_356 := u5 hg BK356; replace BK350 := u1 BK350 hb; replace BK356 := u1 BK356 hb; replace HB := u2 HB hb; clear hb hbox hg; have hnb35 := NB356_350.out; have hnc35 := NB350_356.out; have hnb36 := NB356_357.out; have hnc36 := NB357_356.out; obtain ⟨_, _, _, _⟩ := p2 BK356; have hnb38 := NB357_350.out; have hnc38 := NB350_357.out; obtain ⟨_, _, _, _⟩ := p2 BK357))
  go_ret2
  exact ⟨by first | rfl | (simp [*, errW_none, errW_some] <;> rfl), by repeat (first | (with_reducible first | exact HB.out | apply below_alloc | apply pw_below_drewN | apply below_drew1 | refine below_set ?_ GE350.out | refine below_set ?_ GE356.out | refine below_set ?_ GE357.out) | exact HB.out)⟩
end Go.Proofs.Ytfangodjmppooaa.F
end
section
namespace Go.Proofs.Ytfangodjmppooaa.F
end Go.Proofs.Ytfangodjmppooaa.F
end
section
namespace Go.Proofs.Ytfangodjmppooaa.Rd
open Go RowKit YtfangodjmppooaaW.PrintWords YtfangodjmppooaaW.PrintLast YtfangodjmppooaaW.PrintMore Ytfangodjmppooaa.F
set_option linter.unusedVariables false
set_option linter.unusedSimpArgs false
theorem w64p {x : Int} (h : -9000000000000000000 ≤ x ∧ x ≤ 9000000000000000000) : wrap64 x = x := by unfold wrap64; omega
theorem l1_p (side n x q1 q2 : Int) (hs : 1 ≤ side) (hs2 : side ≤ 17179869184) (hn : 1 ≤ n) (hn2 : n ≤ 64) (h0 : 0 ≤ q2) (h1 : q2 < side) (d : Nat) : ∀ (y : Int) (k : Nat), 0 ≤ y → q2 * n / side - y = d → d + 1 ≤ k → zelligeref15_Cell.l1 k side n x y q1 q2 = some (x, q2 * n / side) := by
 have m0 : 0 ≤ q2 * n := Int.mul_nonneg h0 (by omega)
 have m1 : q2 * n ≤ 17179869184 * 64 := Int.mul_le_mul (by omega) (by omega) (by omega) (by omega)
 induction d with
 | zero =>
  intro y k hy hd hk
  obtain ⟨k, rfl⟩ : ∃ j, k = j + 1 := ⟨k - 1, by omega⟩
  have hle : q2 * n / side ≤ q2 * n := Int.ediv_le_self _ m0
  have hno : ¬ (y + 1) * side ≤ q2 * n := fun h => by
   have := (Int.le_ediv_iff_mul_le (show 0 < side by omega)).2 h
   omega
  unfold zelligeref15_Cell.l1
  have e : y = q2 * n / side := by omega
  have b1 : (y + 1) * side ≤ (q2 * n) + side := by
   rw [Int.add_mul, Int.one_mul, e]
   have := Int.ediv_mul_le (q2 * n) (show side ≠ 0 by omega)
   omega
  have b2 : 0 ≤ (y + 1) * side := Int.mul_nonneg (by omega) (by omega)
  rw [w64p (x := y + 1) (by omega), w64p (x := (y + 1) * side) (by omega), w64p (x := q2 * n) (by omega), if_neg hno, ← e]
 | succ d ih =>
  intro y k hy hd hk
  obtain ⟨k, rfl⟩ : ∃ j, k = j + 1 := ⟨k - 1, by omega⟩
  have hle : q2 * n / side ≤ q2 * n := Int.ediv_le_self _ m0
  have hyes : (y + 1) * side ≤ q2 * n := (Int.le_ediv_iff_mul_le (show 0 < side by omega)).1 (by omega)
  have b2 : 0 ≤ (y + 1) * side := Int.mul_nonneg (by omega) (by omega)
  unfold zelligeref15_Cell.l1
  rw [w64p (x := y + 1) (by omega), w64p (x := (y + 1) * side) (by omega), w64p (x := q2 * n) (by omega), if_pos hyes]
  exact ih (y + 1) k (by omega) (by omega) (by omega)
theorem l0_p (side n q1 q2 : Int) (hs : 1 ≤ side) (hs2 : side ≤ 17179869184) (hn : 1 ≤ n) (hn2 : n ≤ 64) (h0 : 0 ≤ q1) (h1 : q1 < side) (h2 : 0 ≤ q2) (h3 : q2 < side) (d : Nat) : ∀ (x : Int) (k : Nat), 0 ≤ x → q1 * n / side - x = d → d + 100 ≤ k → zelligeref15_Cell.l0 k side n x 0 q1 q2 = some (q1 * n / side, q2 * n / side) := by
 have m0 : 0 ≤ q1 * n := Int.mul_nonneg h0 (by omega)
 have m1 : q1 * n ≤ 17179869184 * 64 := Int.mul_le_mul (by omega) (by omega) (by omega) (by omega)
 have p0 : 0 ≤ q2 * n := Int.mul_nonneg h2 (by omega)
 have z0 : 0 ≤ q2 * n / side := Int.ediv_nonneg p0 (by omega)
 have z1 : q2 * n / side ≤ n := by
  have h4 : q2 * n ≤ side * n := Int.mul_le_mul_of_nonneg_right (by omega) (by omega)
  have h5 := Int.ediv_le_ediv (show 0 < side by omega) h4
  rw [Int.mul_ediv_cancel_left _ (show side ≠ 0 by omega)] at h5
  exact h5
 induction d with
 | zero =>
  intro x k hx hd hk
  obtain ⟨k, rfl⟩ : ∃ j, k = j + 1 := ⟨k - 1, by omega⟩
  have hle : q1 * n / side ≤ q1 * n := Int.ediv_le_self _ m0
  have hno : ¬ (x + 1) * side ≤ q1 * n := fun h => by
   have := (Int.le_ediv_iff_mul_le (show 0 < side by omega)).2 h
   omega
  have e : x = q1 * n / side := by omega
  have b1 : (x + 1) * side ≤ (q1 * n) + side := by
   rw [Int.add_mul, Int.one_mul, e]
   have := Int.ediv_mul_le (q1 * n) (show side ≠ 0 by omega)
   omega
  have b2 : 0 ≤ (x + 1) * side := Int.mul_nonneg (by omega) (by omega)
  unfold zelligeref15_Cell.l0
  rw [w64p (x := x + 1) (by omega), w64p (x := (x + 1) * side) (by omega), w64p (x := q1 * n) (by omega), if_neg hno, ← e]
  exact l1_p side n x q1 q2 hs hs2 hn hn2 h2 h3 (q2 * n / side).toNat 0 k (by omega) (by omega) (by omega)
 | succ d ih =>
  intro x k hx hd hk
  obtain ⟨k, rfl⟩ : ∃ j, k = j + 1 := ⟨k - 1, by omega⟩
  have hle : q1 * n / side ≤ q1 * n := Int.ediv_le_self _ m0
  have hyes : (x + 1) * side ≤ q1 * n := (Int.le_ediv_iff_mul_le (show 0 < side by omega)).1 (by omega)
  have b2 : 0 ≤ (x + 1) * side := Int.mul_nonneg (by omega) (by omega)
  unfold zelligeref15_Cell.l0
  rw [w64p (x := x + 1) (by omega), w64p (x := (x + 1) * side) (by omega), w64p (x := q1 * n) (by omega), if_pos hyes]
  exact ih (x + 1) k (by omega) (by omega) (by omega)
theorem cell_both (px py side n : Int) (hx : I64 px) (hy : I64 py) (hs : 1 ≤ side) (hs2 : side ≤ 17179869184) (hn : 1 ≤ n) (hn2 : n ≤ 64) : ∃ q1 q2 r1 r2 ok, lift_Home.f 20 px py side = some (q1, q2, r1, r2, ok) ∧ (ok = true → 0 ≤ q1 ∧ q1 < side ∧ 0 ≤ q2 ∧ q2 < side ∧ side ≤ 100000000000) ∧
  zelligeref15_Cell.f 200 px py side n = some (if ok = true then q1 * n / side else -1, if ok = true then q2 * n / side else -1) := by
 have h := LiftH.lhome_f px py side (k := 20) (by decide)
 have hr : zelligeref06_Home.f px py side = some (if HomeOk px py side then (px % side, py % side, px / side, py / side, true) else (0, 0, 0, 0, false)) := by
  unfold zelligeref06_Home.f
  rw [if_pos ⟨hx, hy, by constructor <;> omega⟩]
 by_cases c : HomeOk px py side
 ·rw [if_pos (show LiftH.HomeOk px py side from c)] at h
  rw [if_pos c] at hr
  have e1 := Int.emod_nonneg px (show side ≠ 0 by omega)
  have e2 := Int.emod_lt_of_pos px (show 0 < side by omega)
  have e3 := Int.emod_nonneg py (show side ≠ 0 by omega)
  have e4 := Int.emod_lt_of_pos py (show 0 < side by omega)
  refine ⟨_, _, _, _, _, h, fun _ => ⟨e1, e2, e3, e4, by omega⟩, ?_⟩
  unfold zelligeref15_Cell.f
  rw [hr, Option.bind_some, if_pos rfl, if_pos rfl, if_pos rfl]
  have z0 : 0 ≤ px % side * n / side := Int.ediv_nonneg (Int.mul_nonneg e1 (by omega)) (by omega)
  have z1 : px % side * n / side ≤ n := by
   have h4 : px % side * n ≤ side * n := Int.mul_le_mul_of_nonneg_right (by omega) (by omega)
   have h5 := Int.ediv_le_ediv (show 0 < side by omega) h4
   rw [Int.mul_ediv_cancel_left _ (show side ≠ 0 by omega)] at h5
   exact h5
  exact l0_p side n (px % side) (py % side) hs hs2 hn hn2 e1 e2 e3 e4 (px % side * n / side).toNat 0 200 (by omega) (by omega) (by omega)
 ·rw [if_neg (show ¬ LiftH.HomeOk px py side from c)] at h
  rw [if_neg c] at hr
  refine ⟨_, _, _, _, _, h, (fun e => by cases e), ?_⟩
  unfold zelligeref15_Cell.f
  rw [hr, Option.bind_some, if_neg (by decide)]
  rfl
end Go.Proofs.Ytfangodjmppooaa.Rd
end
section
namespace Go.Proofs.Ytfangodjmppooaa.Rd
open Go RowKit YtfangodjmppooaaW.PrintWords YtfangodjmppooaaW.PrintLast YtfangodjmppooaaW.PrintMore Ytfangodjmppooaa.F
set_option linter.unusedVariables false
set_option linter.unusedSimpArgs false
theorem box4 {w0 W : World} {b5 : Nat} {a b c d : Int} (h : w0.heap[b5]? = some (.cells #[.int .i64 a, .int .i64 b, .int .i64 c, .int .i64 d] 33 (0, 0))) (hb : Below w0.heap.size w0 W) :
  W.cell? ⟨b5, 0, none⟩ = some (.int .i64 a) ∧ W.cell? ⟨b5, 1, none⟩ = some (.int .i64 b) ∧ W.cell? ⟨b5, 2, none⟩ = some (.int .i64 c) ∧ W.cell? ⟨b5, 3, none⟩ = some (.int .i64 d) :=
 have h' := blk_below h hb
 ⟨(blk_cell h' 0).trans rfl, (blk_cell h' 1).trans rfl, (blk_cell h' 2).trans rfl, (blk_cell h' 3).trans rfl⟩
set_option maxHeartbeats 8000000 in
theorem finds_none (nn vv px0 py0 px1 py1 n A B X Y : Int) (m : Nat) (w : World) (hnn : 0 ≤ nn ∧ nn ≤ 255) (hn : 1 + nn % 64 = n) (hm : (m : Int) = n * n) (hr0 : zelligeref15_Cell.f 200 px0 py0 1000 n = some (A, B)) (hr1 : zelligeref15_Cell.f 200 px1 py1 1000 n = some (X, Y)) (St0 : Nat → World → Prop) (K0 : ∀ g w w', St0 g w → Below w.heap.size w w' → St0 g w')
  (hnew : ∀ w1 : World, St0 w1.heap.size ((w1.alloc (.cells (nils m) 57)).alloc (.cells #[.int .i64 1000, .int .i64 n, .slice (some ⟨w1.heap.size, 0, none⟩) m m, .int .i64 0] 48)))
  (hnear0 : ∀ b w, St0 b w → Calls Try.prog 12 #[.pointer (some ⟨b + 1, 0, none⟩), .agg #[.int .i64 px0, .int .i64 py0]] w fun e w' => e = .returned (.int .i64 (-1)) ∧ Below w.heap.size w w') (b0 b1 : Bool) (c0 : decide (A < 0) = b0) (c1 : decide (X < 0) = b1) (c2 : (b0 || b1) = true) :
  Calls Try.prog 4 #[.int .u8 nn, .int .u16 vv, .agg #[.int .i64 px0, .int .i64 py0, .int .i64 px1, .int .i64 py1]] w fun e w' => e = .returned (.bool true) ∧ Below w.heap.size w w' := by
 have HB0 := below_alloc (Below.refl w.heap.size w) (.cells #[.int .i64 px0, .int .i64 py0, .int .i64 px1, .int .i64 py1] 33)
 have HP := Aside0.mk (blk_new w (.cells #[.int .i64 px0, .int .i64 py0, .int .i64 px1, .int .i64 py1] 33))
 have hn3 : 1 ≤ n := by omega
 have hn4 : n ≤ 64 := by omega
 have HM := Aside0.mk (And.intro (And.intro hn3 hn4) hm)
 have HN := Aside0.mk hn
 have HR0 := Aside0.mk hr0
 have HR1 := Aside0.mk hr1
 clear hm hn hr0 hr1
 go_enter Try.func4, Try.ntmps4
 go_wp2_with fail
 rw [HN.out]
 obtain ⟨b5, e5⟩ : ∃ b, b = w.heap.size := ⟨_, rfl⟩
 rw [← e5] at HP ⊢
 have HB5 : Aside0 (Below w.heap.size w (w.alloc (.cells #[.int .i64 px0, .int .i64 py0, .int .i64 px1, .int .i64 py1] 33))) := ⟨HB0⟩
 clear e5 HB0
 generalize w.alloc (.cells #[.int .i64 px0, .int .i64 py0, .int .i64 px1, .int .i64 py1] 33) = w0 at HP HB5 ⊢
 with_reducible refine (new_some 1000 n m _ (by decide) (by decide) HM.out.1.1 HM.out.1.2 HM.out.2).mono ?_
 rintro e w1 ⟨rfl, hw1⟩
 have hs := hnew w0
 have hb1 := below_alloc (below_alloc (Below.refl w0.heap.size w0) (.cells (nils m) 57)) (.cells #[.int .i64 1000, .int .i64 n, .slice (some ⟨w0.heap.size, 0, none⟩) m m, .int .i64 0] 48)
 rw [← hw1] at hs hb1
 have S0 := Aside0.mk hs
 have HX0 := Aside0.mk hb1
 clear hs hw1 hb1
 obtain ⟨p0, p1, p2, p3⟩ := box4 HP.out HX0.out
 cases b0 with
 | true =>
  go_wp2_with (first | (with_reducible go_at_call 10; with_reducible refine (zelligeref15_Cell.calls 200 px0 py0 1000 n A B _ HR0.out).mono ?_; rintro e w2 ⟨rfl, hb⟩; have S0a := Aside0.mk (K0 _ _ _ S0.out hb); have HX1 := Aside0.mk (below_step HX0.out hb); clear S0 HX0 HR0 hb p0 p1 p2 p3; obtain ⟨p0, p1, p2, p3⟩ := box4 HP.out HX1.out) | (with_reducible go_at_call 10; with_reducible refine (zelligeref15_Cell.calls 200 px1 py1 1000 n X Y _ HR1.out).mono ?_; rintro e w3 ⟨rfl, hb⟩; have S0b := Aside0.mk (K0 _ _ _ S0a.out hb); have HX2 := Aside0.mk (below_step HX1.out hb); clear S0a HX1 HR1 hb p0 p1 p2 p3; obtain ⟨p0, p1, p2, p3⟩ := box4 HP.out HX2.out) | (with_reducible go_at_call 12; with_reducible refine (hnear0 _ _ S0b.out).mono ?_; rintro e w4 ⟨rfl, hb⟩; have HX3 := Aside0.mk (below_step HX2.out hb); clear hb HX2 S0b p0 p1 p2 p3) | (with_reducible go_at_call 11; with_reducible refine (lives_c _).mono ?_; rintro e w9 ⟨rfl, hb⟩; have HX9 := Aside0.mk (below_step HX3.out hb); clear hb) | fail)
  go_ret
  exact ⟨rfl, below_step HB5.out HX9.out⟩
 | false =>
  cases b1 with
  | false => cases c2
  | true =>
   go_wp2_with (first | (with_reducible go_at_call 10; with_reducible refine (zelligeref15_Cell.calls 200 px0 py0 1000 n A B _ HR0.out).mono ?_; rintro e w2 ⟨rfl, hb⟩; have S0a := Aside0.mk (K0 _ _ _ S0.out hb); have HX1 := Aside0.mk (below_step HX0.out hb); clear S0 HX0 HR0 hb p0 p1 p2 p3; obtain ⟨p0, p1, p2, p3⟩ := box4 HP.out HX1.out) | (with_reducible go_at_call 10; with_reducible refine (zelligeref15_Cell.calls 200 px1 py1 1000 n X Y _ HR1.out).mono ?_; rintro e w3 ⟨rfl, hb⟩; have S0b := Aside0.mk (K0 _ _ _ S0a.out hb); have HX2 := Aside0.mk (below_step HX1.out hb); clear S0a HX1 HR1 hb p0 p1 p2 p3; obtain ⟨p0, p1, p2, p3⟩ := box4 HP.out HX2.out) | (with_reducible go_at_call 12; with_reducible refine (hnear0 _ _ S0b.out).mono ?_; rintro e w4 ⟨rfl, hb⟩; have HX3 := Aside0.mk (below_step HX2.out hb); clear hb HX2 S0b p0 p1 p2 p3) | (with_reducible go_at_call 11; with_reducible refine (lives_c _).mono ?_; rintro e w9 ⟨rfl, hb⟩; have HX9 := Aside0.mk (below_step HX3.out hb); clear hb) | fail)
   go_ret
   exact ⟨rfl, below_step HB5.out HX9.out⟩
set_option maxHeartbeats 8000000 in
theorem finds_apart (nn vv px0 py0 px1 py1 n A B X Y : Int) (m : Nat) (w : World) (hnn : 0 ≤ nn ∧ nn ≤ 255) (hn : 1 + nn % 64 = n) (hm : (m : Int) = n * n) (hr0 : zelligeref15_Cell.f 200 px0 py0 1000 n = some (A, B)) (hr1 : zelligeref15_Cell.f 200 px1 py1 1000 n = some (X, Y)) (St0 St1 St2 : Nat → World → Prop) (K0 : ∀ g w w', St0 g w → Below w.heap.size w w' → St0 g w')
  (hnew : ∀ w1 : World, St0 w1.heap.size ((w1.alloc (.cells (nils m) 57)).alloc (.cells #[.int .i64 1000, .int .i64 n, .slice (some ⟨w1.heap.size, 0, none⟩) m m, .int .i64 0] 48))) (K1 : ∀ g w w', St1 g w → Below w.heap.size w w' → St1 g w') (K2 : ∀ g w w', St2 g w → Below w.heap.size w w' → St2 g w')
  (hput0 : ∀ b w, St0 b w → Calls Try.prog 13 #[.pointer (some ⟨b + 1, 0, none⟩), .int .i64 vv, .agg #[.int .i64 px0, .int .i64 py0]] w fun e w' => (∃ v, e = .returned v) ∧ St1 b w' ∧ Below b w w')
  (hput1 : ∀ b w, St1 b w → Calls Try.prog 13 #[.pointer (some ⟨b + 1, 0, none⟩), .int .i64 70000, .agg #[.int .i64 px1, .int .i64 py1]] w fun e w' => (∃ v, e = .returned v) ∧ St2 b w' ∧ Below b w w')
  (hnear1 : ∀ b w, St1 b w → Calls Try.prog 12 #[.pointer (some ⟨b + 1, 0, none⟩), .agg #[.int .i64 px1, .int .i64 py1]] w fun e w' => e = .returned (.int .i64 vv) ∧ Below w.heap.size w w')
  (hnear2 : ∀ b w, St2 b w → Calls Try.prog 12 #[.pointer (some ⟨b + 1, 0, none⟩), .agg #[.int .i64 px1, .int .i64 py1]] w fun e w' => e = .returned (.int .i64 70000) ∧ Below w.heap.size w w')
  (hvw : IntKind.i64.wrap vv = vv) (hvw2 : wrap64 vv = vv) (hlen : ∀ b w, St2 b w → w.cell? ⟨b + 1, 3, none⟩ = some (.int .i64 2)) (hA : decide (A < 0) = false) (hX : decide (X < 0) = false) :
  Calls Try.prog 4 #[.int .u8 nn, .int .u16 vv, .agg #[.int .i64 px0, .int .i64 py0, .int .i64 px1, .int .i64 py1]] w fun e w' => e = .returned (.bool true) ∧ Below w.heap.size w w' := by
 have HB0 := below_alloc (Below.refl w.heap.size w) (.cells #[.int .i64 px0, .int .i64 py0, .int .i64 px1, .int .i64 py1] 33)
 have HP := Aside0.mk (blk_new w (.cells #[.int .i64 px0, .int .i64 py0, .int .i64 px1, .int .i64 py1] 33))
 have hn3 : 1 ≤ n := by omega
 have hn4 : n ≤ 64 := by omega
 have HM := Aside0.mk (And.intro (And.intro hn3 hn4) hm)
 have HN := Aside0.mk hn
 have HR0 := Aside0.mk hr0
 have HR1 := Aside0.mk hr1
 clear hm hn hr0 hr1
 go_enter Try.func4, Try.ntmps4
 go_wp2_with fail
 rw [HN.out]
 obtain ⟨b5, e5⟩ : ∃ b, b = w.heap.size := ⟨_, rfl⟩
 rw [← e5] at HP ⊢
 have HB5 : Aside0 (Below w.heap.size w (w.alloc (.cells #[.int .i64 px0, .int .i64 py0, .int .i64 px1, .int .i64 py1] 33))) := ⟨HB0⟩
 clear e5 HB0
 generalize w.alloc (.cells #[.int .i64 px0, .int .i64 py0, .int .i64 px1, .int .i64 py1] 33) = w0 at HP HB5 ⊢
 with_reducible refine (new_some 1000 n m _ (by decide) (by decide) HM.out.1.1 HM.out.1.2 HM.out.2).mono ?_
 rintro e w1 ⟨rfl, hw1⟩
 have hs := hnew w0
 have hb1 := below_alloc (below_alloc (Below.refl w0.heap.size w0) (.cells (nils m) 57)) (.cells #[.int .i64 1000, .int .i64 n, .slice (some ⟨w0.heap.size, 0, none⟩) m m, .int .i64 0] 48)
 rw [← hw1] at hs hb1
 have S0 := Aside0.mk hs
 have HX0 := Aside0.mk hb1
 clear hs hw1 hb1
 obtain ⟨p0, p1, p2, p3⟩ := box4 HP.out HX0.out
 go_wp2_with (first | (with_reducible go_at_call 10; with_reducible refine (zelligeref15_Cell.calls 200 px0 py0 1000 n A B _ HR0.out).mono ?_; rintro e w2 ⟨rfl, hb⟩; have S0a := Aside0.mk (K0 _ _ _ S0.out hb); have HX1 := Aside0.mk (below_step HX0.out hb); clear S0 HX0 HR0 hb p0 p1 p2 p3; obtain ⟨p0, p1, p2, p3⟩ := box4 HP.out HX1.out) | (with_reducible go_at_call 10; with_reducible refine (zelligeref15_Cell.calls 200 px1 py1 1000 n X Y _ HR1.out).mono ?_; rintro e w3 ⟨rfl, hb⟩; have S0b := Aside0.mk (K0 _ _ _ S0a.out hb); have HX2 := Aside0.mk (below_step HX1.out hb); clear S0a HX1 HR1 hb p0 p1 p2 p3; obtain ⟨p0, p1, p2, p3⟩ := box4 HP.out HX2.out) | (with_reducible go_at_call 13; with_reducible refine (hput0 _ _ S0b.out).mono ?_; rintro e w4 ⟨⟨v4, rfl⟩, hst, hb⟩; have S1 := Aside0.mk hst; have HX3 := Aside0.mk (HX2.out.trans hb); clear hb hst HX2 S0b p0 p1 p2 p3; obtain ⟨p0, p1, p2, p3⟩ := box4 HP.out HX3.out) | (with_reducible go_at_call 12; with_reducible refine (hnear1 _ _ S1.out).mono ?_; rintro e w5 ⟨rfl, hb⟩; have S1a := Aside0.mk (K1 _ _ _ S1.out hb); have HX4 := Aside0.mk (below_step HX3.out hb); clear hb HX3 S1 p0 p1 p2 p3; obtain ⟨p0, p1, p2, p3⟩ := box4 HP.out HX4.out) | (with_reducible go_at_call 13; with_reducible refine (hput1 _ _ S1a.out).mono ?_; rintro e w6 ⟨⟨v6, rfl⟩, hst, hb⟩; have S2 := Aside0.mk hst; have HX5 := Aside0.mk (HX4.out.trans hb); clear hb hst HX4 S1a p0 p1 p2 p3; obtain ⟨p0, p1, p2, p3⟩ := box4 HP.out HX5.out) | (with_reducible go_at_call 12; with_reducible refine (hnear2 _ _ S2.out).mono ?_; rintro e w7 ⟨rfl, hb⟩; have S2a := Aside0.mk (K2 _ _ _ S2.out hb); have HX6 := Aside0.mk (below_step HX5.out hb); have z3 := hlen _ _ S2a.out; clear hb HX5 S2 S2a p0 p1 p2 p3) | (with_reducible go_at_call 14; with_reducible refine (len_c _ 2 _ z3).mono ?_; rintro e w8 ⟨rfl, rfl⟩) | (with_reducible go_at_call 11; with_reducible refine (lives_c _).mono ?_; rintro e w9 ⟨rfl, hb⟩; have HX9 := Aside0.mk (below_step HX6.out hb); clear hb) | fail)
 go_ret
 exact ⟨rfl, below_step HB5.out HX9.out⟩
set_option maxHeartbeats 8000000 in
theorem finds_same (nn vv px0 py0 px1 py1 n A B : Int) (m : Nat) (w : World) (hnn : 0 ≤ nn ∧ nn ≤ 255) (hn : 1 + nn % 64 = n) (hm : (m : Int) = n * n) (hr0 : zelligeref15_Cell.f 200 px0 py0 1000 n = some (A, B)) (hr1 : zelligeref15_Cell.f 200 px1 py1 1000 n = some (A, B)) (St0 St1 St2 : Nat → World → Prop) (K0 : ∀ g w w', St0 g w → Below w.heap.size w w' → St0 g w')
  (hnew : ∀ w1 : World, St0 w1.heap.size ((w1.alloc (.cells (nils m) 57)).alloc (.cells #[.int .i64 1000, .int .i64 n, .slice (some ⟨w1.heap.size, 0, none⟩) m m, .int .i64 0] 48))) (K1 : ∀ g w w', St1 g w → Below w.heap.size w w' → St1 g w') (K2 : ∀ g w w', St2 g w → Below w.heap.size w w' → St2 g w')
  (hput0 : ∀ b w, St0 b w → Calls Try.prog 13 #[.pointer (some ⟨b + 1, 0, none⟩), .int .i64 vv, .agg #[.int .i64 px0, .int .i64 py0]] w fun e w' => (∃ v, e = .returned v) ∧ St1 b w' ∧ Below b w w')
  (hput1 : ∀ b w, St1 b w → Calls Try.prog 13 #[.pointer (some ⟨b + 1, 0, none⟩), .int .i64 70000, .agg #[.int .i64 px1, .int .i64 py1]] w fun e w' => (∃ v, e = .returned v) ∧ St2 b w' ∧ Below b w w')
  (hnear1 : ∀ b w, St1 b w → Calls Try.prog 12 #[.pointer (some ⟨b + 1, 0, none⟩), .agg #[.int .i64 px1, .int .i64 py1]] w fun e w' => e = .returned (.int .i64 vv) ∧ Below w.heap.size w w')
  (hnear2 : ∀ b w, St2 b w → Calls Try.prog 12 #[.pointer (some ⟨b + 1, 0, none⟩), .agg #[.int .i64 px1, .int .i64 py1]] w fun e w' => e = .returned (.int .i64 vv) ∧ Below w.heap.size w w')
  (hvw : IntKind.i64.wrap vv = vv) (hvw2 : wrap64 vv = vv) (hlen : ∀ b w, St2 b w → w.cell? ⟨b + 1, 3, none⟩ = some (.int .i64 2)) (hA : decide (A < 0) = false) (hv : (vv == 70000) = false) :
  Calls Try.prog 4 #[.int .u8 nn, .int .u16 vv, .agg #[.int .i64 px0, .int .i64 py0, .int .i64 px1, .int .i64 py1]] w fun e w' => e = .returned (.bool true) ∧ Below w.heap.size w w' := by
 have HB0 := below_alloc (Below.refl w.heap.size w) (.cells #[.int .i64 px0, .int .i64 py0, .int .i64 px1, .int .i64 py1] 33)
 have HP := Aside0.mk (blk_new w (.cells #[.int .i64 px0, .int .i64 py0, .int .i64 px1, .int .i64 py1] 33))
 have hn3 : 1 ≤ n := by omega
 have hn4 : n ≤ 64 := by omega
 have HM := Aside0.mk (And.intro (And.intro hn3 hn4) hm)
 have HN := Aside0.mk hn
 have HR0 := Aside0.mk hr0
 have HR1 := Aside0.mk hr1
 clear hm hn hr0 hr1
 go_enter Try.func4, Try.ntmps4
 go_wp2_with fail
 rw [HN.out]
 obtain ⟨b5, e5⟩ : ∃ b, b = w.heap.size := ⟨_, rfl⟩
 rw [← e5] at HP ⊢
 have HB5 : Aside0 (Below w.heap.size w (w.alloc (.cells #[.int .i64 px0, .int .i64 py0, .int .i64 px1, .int .i64 py1] 33))) := ⟨HB0⟩
 clear e5 HB0
 generalize w.alloc (.cells #[.int .i64 px0, .int .i64 py0, .int .i64 px1, .int .i64 py1] 33) = w0 at HP HB5 ⊢
 with_reducible refine (new_some 1000 n m _ (by decide) (by decide) HM.out.1.1 HM.out.1.2 HM.out.2).mono ?_
 rintro e w1 ⟨rfl, hw1⟩
 have hs := hnew w0
 have hb1 := below_alloc (below_alloc (Below.refl w0.heap.size w0) (.cells (nils m) 57)) (.cells #[.int .i64 1000, .int .i64 n, .slice (some ⟨w0.heap.size, 0, none⟩) m m, .int .i64 0] 48)
 rw [← hw1] at hs hb1
 have S0 := Aside0.mk hs
 have HX0 := Aside0.mk hb1
 clear hs hw1 hb1
 obtain ⟨p0, p1, p2, p3⟩ := box4 HP.out HX0.out
 go_wp2_with (first | (with_reducible go_at_call 10; with_reducible refine (zelligeref15_Cell.calls 200 px0 py0 1000 n A B _ HR0.out).mono ?_; rintro e w2 ⟨rfl, hb⟩; have S0a := Aside0.mk (K0 _ _ _ S0.out hb); have HX1 := Aside0.mk (below_step HX0.out hb); clear S0 HX0 HR0 hb p0 p1 p2 p3; obtain ⟨p0, p1, p2, p3⟩ := box4 HP.out HX1.out) | (with_reducible go_at_call 10; with_reducible refine (zelligeref15_Cell.calls 200 px1 py1 1000 n A B _ HR1.out).mono ?_; rintro e w3 ⟨rfl, hb⟩; have S0b := Aside0.mk (K0 _ _ _ S0a.out hb); have HX2 := Aside0.mk (below_step HX1.out hb); clear S0a HX1 HR1 hb p0 p1 p2 p3; obtain ⟨p0, p1, p2, p3⟩ := box4 HP.out HX2.out) | (with_reducible go_at_call 13; with_reducible refine (hput0 _ _ S0b.out).mono ?_; rintro e w4 ⟨⟨v4, rfl⟩, hst, hb⟩; have S1 := Aside0.mk hst; have HX3 := Aside0.mk (HX2.out.trans hb); clear hb hst HX2 S0b p0 p1 p2 p3; obtain ⟨p0, p1, p2, p3⟩ := box4 HP.out HX3.out) | (with_reducible go_at_call 12; with_reducible refine (hnear1 _ _ S1.out).mono ?_; rintro e w5 ⟨rfl, hb⟩; have S1a := Aside0.mk (K1 _ _ _ S1.out hb); have HX4 := Aside0.mk (below_step HX3.out hb); clear hb HX3 S1 p0 p1 p2 p3; obtain ⟨p0, p1, p2, p3⟩ := box4 HP.out HX4.out) | (with_reducible go_at_call 13; with_reducible refine (hput1 _ _ S1a.out).mono ?_; rintro e w6 ⟨⟨v6, rfl⟩, hst, hb⟩; have S2 := Aside0.mk hst; have HX5 := Aside0.mk (HX4.out.trans hb); clear hb hst HX4 S1a p0 p1 p2 p3; obtain ⟨p0, p1, p2, p3⟩ := box4 HP.out HX5.out) | (with_reducible go_at_call 12; with_reducible refine (hnear2 _ _ S2.out).mono ?_; rintro e w7 ⟨rfl, hb⟩; have S2a := Aside0.mk (K2 _ _ _ S2.out hb); have HX6 := Aside0.mk (below_step HX5.out hb); have z3 := hlen _ _ S2a.out; clear hb HX5 S2 S2a p0 p1 p2 p3) | (with_reducible go_at_call 14; with_reducible refine (len_c _ 2 _ z3).mono ?_; rintro e w8 ⟨rfl, rfl⟩) | (with_reducible go_at_call 11; with_reducible refine (lives_c _).mono ?_; rintro e w9 ⟨rfl, hb⟩; have HX9 := Aside0.mk (below_step HX6.out hb); clear hb) | fail)
 go_ret
 exact ⟨rfl, below_step HB5.out HX9.out⟩
end Go.Proofs.Ytfangodjmppooaa.Rd
end
section
namespace Go.Proofs.Ytfangodjmppooaa.Rd
open Go RowKit YtfangodjmppooaaW.PrintWords YtfangodjmppooaaW.PrintLast YtfangodjmppooaaW.PrintMore Ytfangodjmppooaa.F
set_option linter.unusedVariables false
set_option linter.unusedSimpArgs false
set_option maxHeartbeats 8000000 in
set_option maxRecDepth 100000 in
theorem put_s (g b M i h c B0 : Nat) (side n m vv u px py x y : Int) (cs : Array Value) (w : World) (H : CellAt (.pointer (some ⟨g, 0, none⟩)) px py x y true w) (h1 : 1 ≤ n) (h2 : n ≤ 64) (hx : -n ≤ x) (hx2 : x ≤ 1000) (hy : -n ≤ y) (hy2 : y ≤ 1000) (hidx : idx n x y = (i : Int)) (hi : i < M) (hM : M ≤ 4096) (hm : 0 ≤ m ∧ m ≤ 1000000)
  (hg : w.heap[g]? = some (.cells #[.int .i64 side, .int .i64 n, .slice (some ⟨b, 0, none⟩) M M, .int .i64 m] 48 (0, 0))) (hb : w.heap[b]? = some (.cells cs 57 (0, 0))) (hcs : cs[i]? = some (.slice (some ⟨h, 0, none⟩) 1 c)) (hB1 : B0 ≤ g) (hB2 : B0 ≤ b) (hRR : Kd.R (Kd.int .i64) 3 w B0 (fun _ => True) (.slice (some ⟨h, 0, none⟩) 1 c) [u]) :
  Calls Try.prog 13 #[.pointer (some ⟨g, 0, none⟩), .int .i64 vv, .agg #[.int .i64 px, .int .i64 py]] w fun e w' => (∃ v, e = .returned v) ∧ ∃ (h' c' : Nat) (cells : Array Value), w'.heap[g]? = some (.cells #[.int .i64 side, .int .i64 n, .slice (some ⟨b, 0, none⟩) M M, .int .i64 (m + 1)] 48 (0, 0)) ∧ w'.heap[b]? = some (.cells (cs.setIfInBounds i (.slice (some ⟨h', 0, none⟩) 2 c')) 57 (0, 0)) ∧ w'.heap[h']? = some (.cells cells 3 (0, 0)) ∧ cells[0]? = some (.int .i64 u) ∧ cells[1]? = some (.int .i64 vv) ∧ Below B0 w w' := by
 have HB := Aside0.mk (below_alloc (Below.refl w.heap.size w) (.cells #[.int .i64 px, .int .i64 py] 23))
 have HH := Aside0.mk (H _ HB.out)
 have hgb : g ≠ b := blk_ne hg hb (by decide)
 have HG := Aside0.mk hg
 have HR := Aside0.mk hb
 have HI := Aside0.mk hidx
 have HQ := Aside0.mk hRR
 clear H hg hb hRR
 go_enter Try.func13, Try.ntmps13
 go_wp2_with (first | (with_reducible go_at_call 19; with_reducible refine HH.out.mono ?_; rintro e w2 ⟨rfl, hb⟩; have HB2 := Aside0.mk (below_step HB.out hb); clear hb; have z1 := (blk_cell (blk_below HG.out HB2.out) 1).trans rfl) | (with_reducible go_at_call 22; with_reducible refine (at_c g n x y _ h1 h2 hx hx2 hy hy2 z1).mono ?_; rintro e w3 ⟨rfl, rfl⟩; rw [HI.out]) | fail)
 have HB3 := Aside0.mk (below_drew HB2.out)
 have HG3 := Aside0.mk (blk_below HG.out HB3.out)
 have HR3 := Aside0.mk (blk_below HR.out HB3.out)
 have HQ3 := Aside0.mk (Kd.R_below HQ.out HB3.out)
 clear z1 HB2
 generalize w2.drew = w0 at HB3 HG3 HR3 HQ3 ⊢
 have i0 : (0 : Int) ≤ (i : Int) := by omega
 have i1 : (i : Int) < (M : Int) := by omega
 refine start_ (n := 17) (S := fun w' => w'.heap[g]? = some (.cells #[.int .i64 side, .int .i64 n, .slice (some ⟨b, 0, none⟩) M M, .int .i64 m] 48 (0, 0)) ∧ w'.heap[b]? = some (.cells cs 57 (0, 0))) (ds := [16]) #[false, false, false, false, false, false, false, false, false, false, false, false, false, false, false, false, false] (by kernel_rfl) rfl rfl ⟨blk_drew HG3.out, blk_drew HR3.out⟩ (fun hHeld => ?_)
 refine pure_ (i := 0) (N := some 22) (v := ?_) (a' := ?_) #[true, false, false, false, false, false, false, false, false, false, false, false, false, false, false, false, false] rfl rfl (by kernel_rfl) (fun _ _ _ h => h) (Or.inl ⟨by rfl, ?_⟩) ?_ ?_
 rotate_left
 ·intro w'
  go_simp
  with_reducible rfl
 rotate_left
 ·simp only [Act.put, List.setIfInBounds_toArray, List.set_cons_zero, List.set_cons_succ, i64_w, i32_w]
  rfl
 refine pure_ (i := 1) (N := some 23) (v := ?_) (a' := ?_) #[true, true, false, false, false, false, false, false, false, false, false, false, false, false, false, false, false] rfl rfl (by kernel_rfl) (fun _ _ _ h => h) (Or.inl ⟨by rfl, ?_⟩) ?_ ?_
 rotate_left
 ·intro w'
  go_simp
  with_reducible rfl
 rotate_left
 ·simp only [Act.put, List.setIfInBounds_toArray, List.set_cons_zero, List.set_cons_succ, i64_w, i32_w]
  rfl
 refine pure_ (i := 2) (N := some 24) (v := ?_) (a' := ?_) #[true, true, true, false, false, false, false, false, false, false, false, false, false, false, false, false, false] rfl rfl (by kernel_rfl) (fun _ _ _ h => h) (Or.inl ⟨by rfl, ?_⟩) ?_ ?_
 rotate_left
 ·intro w'
  go_simp
  with_reducible rfl
 rotate_left
 ·simp only [Act.put, List.setIfInBounds_toArray, List.set_cons_zero, List.set_cons_succ, i64_w, i32_w]
  rfl
 refine take_ (i := 3) (N := some 25) (v := ?_) (a' := ?_) #[true, true, true, true, false, false, false, false, false, false, false, false, false, false, false, false, false] rfl rfl (by kernel_rfl) (fun _ _ _ h => h) (Or.inl ⟨by rfl, ?_⟩) hHeld ?_ ?_
 rotate_left
 ·intro w' s0
  have z0 := (blk_cell s0.1 2).trans rfl
  go_simp
  with_reducible rfl
 rotate_left
 ·simp only [Act.put, List.setIfInBounds_toArray, List.set_cons_zero, List.set_cons_succ, i64_w, i32_w]
  rfl
 refine pure_ (i := 4) (N := some 26) (v := ?_) (a' := ?_) #[true, true, true, true, true, false, false, false, false, false, false, false, false, false, false, false, false] rfl rfl (by kernel_rfl) (fun _ _ _ h => h) (Or.inl ⟨by rfl, ?_⟩) ?_ ?_
 rotate_left
 ·intro w'
  go_simp
  with_reducible rfl
 rotate_left
 ·simp only [Act.put, List.setIfInBounds_toArray, List.set_cons_zero, List.set_cons_succ, i64_w, i32_w]
  rfl
 refine pure_ (i := 5) (N := some 27) (v := ?_) (a' := ?_) #[true, true, true, true, true, true, false, false, false, false, false, false, false, false, false, false, false] rfl rfl (by kernel_rfl) (fun _ _ _ h => h) (Or.inl ⟨by rfl, ?_⟩) ?_ ?_
 rotate_left
 ·intro w'
  go_simp
  with_reducible rfl
 rotate_left
 ·simp only [Act.put, List.setIfInBounds_toArray, List.set_cons_zero, List.set_cons_succ, i64_w, i32_w]
  rfl
 refine pure_ (i := 6) (N := some 28) (v := ?_) (a' := ?_) #[true, true, true, true, true, true, true, false, false, false, false, false, false, false, false, false, false] rfl rfl (by kernel_rfl) (fun _ _ _ h => h) (Or.inl ⟨by rfl, ?_⟩) ?_ ?_
 rotate_left
 ·intro w'
  go_simp
  with_reducible rfl
 rotate_left
 ·simp only [Act.put, List.setIfInBounds_toArray, List.set_cons_zero, List.set_cons_succ, i64_w, i32_w]
  rfl
 refine pure_ (i := 7) (N := some 29) (v := ?_) (a' := ?_) #[true, true, true, true, true, true, true, true, false, false, false, false, false, false, false, false, false] rfl rfl (by kernel_rfl) (fun _ _ _ h => h) (Or.inl ⟨by rfl, ?_⟩) ?_ ?_
 rotate_left
 ·intro w'
  go_simp
  with_reducible rfl
 rotate_left
 ·simp only [Act.put, List.setIfInBounds_toArray, List.set_cons_zero, List.set_cons_succ, i64_w, i32_w]
  rfl
 refine take_ (i := 8) (N := some 30) (v := ?_) (a' := ?_) #[true, true, true, true, true, true, true, true, true, false, false, false, false, false, false, false, false] rfl rfl (by kernel_rfl) (fun _ _ _ h => h) (Or.inl ⟨by rfl, ?_⟩) hHeld ?_ ?_
 rotate_left
 ·intro w' s0
  have z0 := (blk_cell s0.1 2).trans rfl
  go_simp
  with_reducible rfl
 rotate_left
 ·simp only [Act.put, List.setIfInBounds_toArray, List.set_cons_zero, List.set_cons_succ, i64_w, i32_w]
  rfl
 refine pure_ (i := 9) (N := some 31) (v := ?_) (a' := ?_) #[true, true, true, true, true, true, true, true, true, true, false, false, false, false, false, false, false] rfl rfl (by kernel_rfl) (fun _ _ _ h => h) (Or.inl ⟨by rfl, ?_⟩) ?_ ?_
 rotate_left
 ·intro w'
  go_simp
  with_reducible rfl
 rotate_left
 ·simp only [Act.put, List.setIfInBounds_toArray, List.set_cons_zero, List.set_cons_succ, i64_w, i32_w]
  rfl
 refine pure_ (i := 10) (N := some 32) (v := ?_) (a' := ?_) #[true, true, true, true, true, true, true, true, true, true, true, false, false, false, false, false, false] rfl rfl (by kernel_rfl) (fun _ _ _ h => h) (Or.inl ⟨by rfl, ?_⟩) ?_ ?_
 rotate_left
 ·intro w'
  go_simp
  with_reducible rfl
 rotate_left
 ·simp only [Act.put, List.setIfInBounds_toArray, List.set_cons_zero, List.set_cons_succ, i64_w, i32_w]
  rfl
 refine take_ (i := 11) (N := some 33) (v := ?_) (a' := ?_) #[true, true, true, true, true, true, true, true, true, true, true, true, false, false, false, false, false] rfl rfl (by kernel_rfl) (fun _ _ _ h => h) (Or.inl ⟨by rfl, ?_⟩) hHeld ?_ ?_
 rotate_left
 ·intro w' s0
  have z0 := (blk_cell s0.2 i).trans hcs
  go_simp
  with_reducible rfl
 rotate_left
 ·simp only [Act.put, List.setIfInBounds_toArray, List.set_cons_zero, List.set_cons_succ, i64_w, i32_w]
  rfl
 refine pure_ (i := 12) (N := some 34) (v := ?_) (a' := ?_) #[true, true, true, true, true, true, true, true, true, true, true, true, true, false, false, false, false] rfl rfl (by kernel_rfl) (fun _ _ _ h => h) (Or.inl ⟨by rfl, ?_⟩) ?_ ?_
 rotate_left
 ·intro w'
  go_simp
  with_reducible rfl
 rotate_left
 ·simp only [Act.put, List.setIfInBounds_toArray, List.set_cons_zero, List.set_cons_succ, i64_w, i32_w]
  rfl
 have Q1 := Kd.R_drew HQ3.out
 have s1 := below_drew (Below.refl w0.heap.size w0)
 have G1 := hHeld.1
 have R1 := hHeld.2
 clear hHeld
 generalize w0.drew = w1 at Q1 s1 G1 R1 ⊢
 have b1 : B0 ≤ w1.heap.size := by have := blk_lt G1; omega
 refine one_ (i := 13) (N := some 35) #[true, true, true, true, true, true, true, true, true, true, true, true, true, true, false, false, false] rfl rfl (by kernel_rfl) (by decide) (fun K hK => ?_)
 refine Kd.R_lit_step (Kd.int .i64) (w0 := w1) w1.heap.size 3 (by rfl) (N := 35) rfl (xs := [vv]) (inner := [.int .i64 vv]) (ok := fun _ => True) (okp := fun _ => False) ?hr ?hp (fun _ h => h.elim) trivial (Below.refl _ _) (Nat.le_refl _) (by simp) ?_
 case hr => first | (go_simp; done) | (go_simp; rfl)
 case hp => exact Kd.reps_scalar [vv]
 intro v2 w2 hR2 s2 hg2 hn2
 clear hg2 hn2
 obtain ⟨A2, c2, rfl⟩ := Kd.R_slice hR2
 have G2 := blk_below G1 s2
 have R2 := blk_below R1 s2
 have Q2 := Kd.R_below Q1 s2
 refine hK.out _ _ ⟨G2, R2⟩ (fun hHeld => ?_)
 clear hK K hHeld
 refine norm_ (a' := ?_) ?_ ?_
 rotate_left
 ·show Act.put _ (some 35) _ = _
  simp only [Act.put, List.setIfInBounds_toArray, List.set_cons_zero, List.set_cons_succ, i64_w, i32_w]
  rfl
 refine one_ (i := 14) (N := some 36) #[true, true, true, true, true, true, true, true, true, true, true, true, true, true, true, false, false] rfl rfl (by kernel_rfl) (by decide) (fun K hK => ?_)
 refine Kd.R_append_rows_step (Kd.int .i64) (w0 := w2) B0 (by rfl) (.tmp 33) (.tmp 35) 57 3 (.int .i64 0) 8 rfl Try.underlying57 info_int rfl (by decide) (by decide) (.slice (some ⟨h, 0, none⟩) 1 c) [u] [vv] _ _ _ (fun _ => True) (fun _ => False) rfl rfl ?aO ?aR (fun _ _ h => h) (fun _ h => h.elim) (fun _ _ => trivial) (Below.refl _ _) (Nat.le_trans b1 s2.size) (by simp) ?_
 case aO => exact Q2
 case aR => exact (Kd.R_reads' hR2).2.2
 intro v3 w3 hR3 s3 hg3 hn3
 clear hn3
 have G3 := blk_grown G2 hg3 (Kd.R_ne Q2 G2 (by decide))
 have R3 := blk_grown R2 hg3 (Kd.R_ne Q2 R2 (by decide))
 clear hg3
 obtain ⟨A3, c3, rfl⟩ := Kd.R_slice hR3
 refine hK.out _ _ ⟨G3, R3⟩ (fun hHeld => ?_)
 clear hK K hHeld
 refine norm_ (a' := ?_) ?_ ?_
 rotate_left
 ·show Act.put _ (some 36) _ = _
  simp only [Act.put, List.setIfInBounds_toArray, List.set_cons_zero, List.set_cons_succ, i64_w, i32_w]
  rfl
 refine pure_ (i := 15) (N := some 37) (v := ?_) (a' := ?_) #[true, true, true, true, true, true, true, true, true, true, true, true, true, true, true, true, false] rfl rfl (by kernel_rfl) (fun _ _ _ h => h) (Or.inl ⟨by rfl, ?_⟩) ?_ ?_
 rotate_left
 ·intro w'
  go_simp
  with_reducible rfl
 rotate_left
 ·simp only [Act.put, List.setIfInBounds_toArray, List.set_cons_zero, List.set_cons_succ, i64_w, i32_w]
  rfl
 have c0 := (blk_cell R3 i).trans hcs
 have f0 := blk_frozen R3 i
 refine wpAnyLast_ready (rs := [16]) (by kernel_rfl) (by simp) (AllReadyL.cons_last rfl (by decide) (fun K hK => ?_) AllReadyL.nil)
 refine skip_ (w1 := ?_) (by rfl) rfl ?_ ?_
 rotate_left
 ·go_simp
  rfl
 refine hK.out _ _ ?_
 clear hK K c0 f0
 have C3 := (Kd.R_reads' hR3).2.2
 obtain ⟨h', cp, ev, h3, h4, cells, hc4⟩ := Kd.R_form hR3 (show 0 < ([u] ++ [vv]).length from Nat.zero_lt_two)
 injection ev with ev1 ev2 ev3
 subst ev1
 have at_ : ∀ (j : Nat) (z : Int), j < 2 → ([u] ++ [vv]).getD j 0 = z → cells[j]? = some (.int .i64 z) := by
  intro j z hj hz
  obtain ⟨ad', cs', e', _, hK', hcc⟩ := Kd.C_get C3 (0 : Int) (j : Int) (by omega) (by show (j : Int) < 2; omega)
  cases e'
  have hK2 : cs' = [.int .i64 (([u] ++ [vv]).getD (j : Int).toNat 0)] := hK'
  rw [Int.toNat_natCast, hz] at hK2
  have h5 := hcc 0 (.int .i64 z) (by rw [hK2]; rfl)
  have e6 : (⟨h', 0, none⟩ : Addr).add ((j : Int).toNat * (Kd.int .i64).sz + 0) = ⟨h', j, none⟩ := by show (⟨h', 0, none⟩ : Addr).add (j * 1 + 0) = _; simp [Addr.add]; omega
  rw [e6] at h5
  exact (blk_cell hc4 j).symm.trans h5
 have hb' : h' ≠ b := blk_ne hc4 R3 (by decide)
 have hg' : h' ≠ g := blk_ne hc4 G3 (by decide)
 have e1 := at_ 0 u (by decide) rfl
 have e2 := at_ 1 vv (by decide) rfl
 have G4 := blk_far (p := ⟨b, i, none⟩) G3 hgb (.slice (some ⟨h', 0, none⟩) 2 c3)
 have R4 := blk_set R3 i (.slice (some ⟨h', 0, none⟩) 2 c3)
 have H4 := blk_far (p := ⟨b, i, none⟩) hc4 hb' (.slice (some ⟨h', 0, none⟩) 2 c3)
 have N4 : Aside0 (Below B0 w (w3.setCell ⟨b, i, none⟩ (.slice (some ⟨h', 0, none⟩) 2 c3))) := ⟨((((below_then (Below.refl B0 w) (by have := blk_lt HG.out; omega) HB3.out).trans (below_weaken2 s1 (by have := blk_lt HG3.out; omega))).trans (below_weaken2 s2 b1)).trans s3).setCell (p := ⟨b, i, none⟩) hB2 _⟩
 have Q4 := Aside0.mk (And.intro G4 (And.intro R4 H4))
 clear G4 R4 H4 C3 hR3 hR2 hc4 at_ Q1 Q2 s1 s2 s3 G1 G2 G3 R1 R2 R3 ev2 ev3
 generalize w3.setCell ⟨b, i, none⟩ (.slice (some ⟨h', 0, none⟩) 2 c3) = w4 at Q4 N4 ⊢
 refine done_ (by kernel_rfl) ?_
 have y3 : w4.cell? ⟨g, 3, none⟩ = some (.int .i64 m) := (blk_cell Q4.out.1 3).trans rfl
 have yf := blk_frozen Q4.out.1 3
 have wm : IntKind.i64.wrap (m + 1) = m + 1 := w64s (by omega)
 go_wp2_with fail
 go_end0
 have hbg : b ≠ g := fun e => hgb e.symm
 exact ⟨⟨_, rfl⟩, h', c3, cells, blk_put Q4.out.1 3 _ rfl, blk_far Q4.out.2.1 hbg _, blk_far Q4.out.2.2 hg' _, e1, e2, N4.out.setCell (p := ⟨g, 3, none⟩) hB1 _⟩
end Go.Proofs.Ytfangodjmppooaa.Rd
end
section
namespace Go.Proofs.Ytfangodjmppooaa.Rd
open Go RowKit YtfangodjmppooaaW.PrintWords YtfangodjmppooaaW.PrintLast YtfangodjmppooaaW.PrintMore Ytfangodjmppooaa.F
set_option linter.unusedVariables false
set_option linter.unusedSimpArgs false
set_option maxHeartbeats 8000000 in
set_option maxRecDepth 100000 in
theorem put_d (g b M i : Nat) (side n m vv px py x y : Int) (cs : Array Value) (w : World) (H : CellAt (.pointer (some ⟨g, 0, none⟩)) px py x y true w) (h1 : 1 ≤ n) (h2 : n ≤ 64) (hx : -n ≤ x) (hx2 : x ≤ 1000) (hy : -n ≤ y) (hy2 : y ≤ 1000) (hidx : idx n x y = (i : Int)) (hi : i < M) (hM : M ≤ 4096) (hm : 0 ≤ m ∧ m ≤ 1000000)
  (hg : w.heap[g]? = some (.cells #[.int .i64 side, .int .i64 n, .slice (some ⟨b, 0, none⟩) M M, .int .i64 m] 48 (0, 0))) (hb : w.heap[b]? = some (.cells cs 57 (0, 0))) (hcs : cs[i]? = some (.slice none 0 0)) :
  Calls Try.prog 13 #[.pointer (some ⟨g, 0, none⟩), .int .i64 vv, .agg #[.int .i64 px, .int .i64 py]] w fun e w' => (∃ v, e = .returned v) ∧ ∃ (h c : Nat) (cells : Array Value), w'.heap[g]? = some (.cells #[.int .i64 side, .int .i64 n, .slice (some ⟨b, 0, none⟩) M M, .int .i64 (m + 1)] 48 (0, 0)) ∧ w'.heap[b]? = some (.cells (cs.setIfInBounds i (.slice (some ⟨h, 0, none⟩) 1 c)) 57 (0, 0)) ∧ w'.heap[h]? = some (.cells cells 3 (0, 0)) ∧ cells[0]? = some (.int .i64 vv) ∧ (∀ n0, n0 ≤ g → n0 ≤ b → Below n0 w w') ∧ (∀ k, k < w.heap.size → k ≠ g → k ≠ b → w'.heap[k]? = w.heap[k]?) ∧ (∀ B0, B0 ≤ w.heap.size → Kd.R (Kd.int .i64) 3 w' B0 (fun _ => True) (.slice (some ⟨h, 0, none⟩) 1 c) [vv]) := by
 have HB := Aside0.mk (below_alloc (Below.refl w.heap.size w) (.cells #[.int .i64 px, .int .i64 py] 23))
 have HH := Aside0.mk (H _ HB.out)
 have hgb : g ≠ b := blk_ne hg hb (by decide)
 have HG := Aside0.mk hg
 have HR := Aside0.mk hb
 have HI := Aside0.mk hidx
 clear H hg hb
 go_enter Try.func13, Try.ntmps13
 go_wp2_with (first | (with_reducible go_at_call 19; with_reducible refine HH.out.mono ?_; rintro e w2 ⟨rfl, hb⟩; have HB2 := Aside0.mk (below_step HB.out hb); clear hb; have z1 := (blk_cell (blk_below HG.out HB2.out) 1).trans rfl) | (with_reducible go_at_call 22; with_reducible refine (at_c g n x y _ h1 h2 hx hx2 hy hy2 z1).mono ?_; rintro e w3 ⟨rfl, rfl⟩; rw [HI.out]) | fail)
 have HB3 := Aside0.mk (below_drew HB2.out)
 have HG3 := Aside0.mk (blk_below HG.out HB3.out)
 have HR3 := Aside0.mk (blk_below HR.out HB3.out)
 clear z1 HB2
 generalize w2.drew = w0 at HB3 HG3 HR3 ⊢
 have i0 : (0 : Int) ≤ (i : Int) := by omega
 have i1 : (i : Int) < (M : Int) := by omega
 refine start_ (n := 17) (S := fun w' => Below w0.heap.size w0 w') (ds := [16]) #[false, false, false, false, false, false, false, false, false, false, false, false, false, false, false, false, false] (by kernel_rfl) rfl rfl (below_drew (Below.refl _ _)) (fun hHeld => ?_)
 refine pure_ (i := 0) (N := some 22) (v := ?_) (a' := ?_) #[true, false, false, false, false, false, false, false, false, false, false, false, false, false, false, false, false] rfl rfl (by kernel_rfl) (fun _ _ _ h => h) (Or.inl ⟨by rfl, ?_⟩) ?_ ?_
 rotate_left
 ·intro w'
  go_simp
  with_reducible rfl
 rotate_left
 ·simp only [Act.put, List.setIfInBounds_toArray, List.set_cons_zero, List.set_cons_succ, i64_w, i32_w]
  rfl
 refine pure_ (i := 1) (N := some 23) (v := ?_) (a' := ?_) #[true, true, false, false, false, false, false, false, false, false, false, false, false, false, false, false, false] rfl rfl (by kernel_rfl) (fun _ _ _ h => h) (Or.inl ⟨by rfl, ?_⟩) ?_ ?_
 rotate_left
 ·intro w'
  go_simp
  with_reducible rfl
 rotate_left
 ·simp only [Act.put, List.setIfInBounds_toArray, List.set_cons_zero, List.set_cons_succ, i64_w, i32_w]
  rfl
 refine pure_ (i := 2) (N := some 24) (v := ?_) (a' := ?_) #[true, true, true, false, false, false, false, false, false, false, false, false, false, false, false, false, false] rfl rfl (by kernel_rfl) (fun _ _ _ h => h) (Or.inl ⟨by rfl, ?_⟩) ?_ ?_
 rotate_left
 ·intro w'
  go_simp
  with_reducible rfl
 rotate_left
 ·simp only [Act.put, List.setIfInBounds_toArray, List.set_cons_zero, List.set_cons_succ, i64_w, i32_w]
  rfl
 refine take_ (i := 3) (N := some 25) (v := ?_) (a' := ?_) #[true, true, true, true, false, false, false, false, false, false, false, false, false, false, false, false, false] rfl rfl (by kernel_rfl) (fun _ _ _ h => h) (Or.inl ⟨by rfl, ?_⟩) hHeld ?_ ?_
 rotate_left
 ·intro w' s0
  have z0 := (blk_cell (blk_below HG3.out s0) 2).trans rfl
  go_simp
  with_reducible rfl
 rotate_left
 ·simp only [Act.put, List.setIfInBounds_toArray, List.set_cons_zero, List.set_cons_succ, i64_w, i32_w]
  rfl
 refine pure_ (i := 4) (N := some 26) (v := ?_) (a' := ?_) #[true, true, true, true, true, false, false, false, false, false, false, false, false, false, false, false, false] rfl rfl (by kernel_rfl) (fun _ _ _ h => h) (Or.inl ⟨by rfl, ?_⟩) ?_ ?_
 rotate_left
 ·intro w'
  go_simp
  with_reducible rfl
 rotate_left
 ·simp only [Act.put, List.setIfInBounds_toArray, List.set_cons_zero, List.set_cons_succ, i64_w, i32_w]
  rfl
 refine pure_ (i := 5) (N := some 27) (v := ?_) (a' := ?_) #[true, true, true, true, true, true, false, false, false, false, false, false, false, false, false, false, false] rfl rfl (by kernel_rfl) (fun _ _ _ h => h) (Or.inl ⟨by rfl, ?_⟩) ?_ ?_
 rotate_left
 ·intro w'
  go_simp
  with_reducible rfl
 rotate_left
 ·simp only [Act.put, List.setIfInBounds_toArray, List.set_cons_zero, List.set_cons_succ, i64_w, i32_w]
  rfl
 refine pure_ (i := 6) (N := some 28) (v := ?_) (a' := ?_) #[true, true, true, true, true, true, true, false, false, false, false, false, false, false, false, false, false] rfl rfl (by kernel_rfl) (fun _ _ _ h => h) (Or.inl ⟨by rfl, ?_⟩) ?_ ?_
 rotate_left
 ·intro w'
  go_simp
  with_reducible rfl
 rotate_left
 ·simp only [Act.put, List.setIfInBounds_toArray, List.set_cons_zero, List.set_cons_succ, i64_w, i32_w]
  rfl
 refine pure_ (i := 7) (N := some 29) (v := ?_) (a' := ?_) #[true, true, true, true, true, true, true, true, false, false, false, false, false, false, false, false, false] rfl rfl (by kernel_rfl) (fun _ _ _ h => h) (Or.inl ⟨by rfl, ?_⟩) ?_ ?_
 rotate_left
 ·intro w'
  go_simp
  with_reducible rfl
 rotate_left
 ·simp only [Act.put, List.setIfInBounds_toArray, List.set_cons_zero, List.set_cons_succ, i64_w, i32_w]
  rfl
 refine take_ (i := 8) (N := some 30) (v := ?_) (a' := ?_) #[true, true, true, true, true, true, true, true, true, false, false, false, false, false, false, false, false] rfl rfl (by kernel_rfl) (fun _ _ _ h => h) (Or.inl ⟨by rfl, ?_⟩) hHeld ?_ ?_
 rotate_left
 ·intro w' s0
  have z0 := (blk_cell (blk_below HG3.out s0) 2).trans rfl
  go_simp
  with_reducible rfl
 rotate_left
 ·simp only [Act.put, List.setIfInBounds_toArray, List.set_cons_zero, List.set_cons_succ, i64_w, i32_w]
  rfl
 refine pure_ (i := 9) (N := some 31) (v := ?_) (a' := ?_) #[true, true, true, true, true, true, true, true, true, true, false, false, false, false, false, false, false] rfl rfl (by kernel_rfl) (fun _ _ _ h => h) (Or.inl ⟨by rfl, ?_⟩) ?_ ?_
 rotate_left
 ·intro w'
  go_simp
  with_reducible rfl
 rotate_left
 ·simp only [Act.put, List.setIfInBounds_toArray, List.set_cons_zero, List.set_cons_succ, i64_w, i32_w]
  rfl
 refine pure_ (i := 10) (N := some 32) (v := ?_) (a' := ?_) #[true, true, true, true, true, true, true, true, true, true, true, false, false, false, false, false, false] rfl rfl (by kernel_rfl) (fun _ _ _ h => h) (Or.inl ⟨by rfl, ?_⟩) ?_ ?_
 rotate_left
 ·intro w'
  go_simp
  with_reducible rfl
 rotate_left
 ·simp only [Act.put, List.setIfInBounds_toArray, List.set_cons_zero, List.set_cons_succ, i64_w, i32_w]
  rfl
 refine take_ (i := 11) (N := some 33) (v := ?_) (a' := ?_) #[true, true, true, true, true, true, true, true, true, true, true, true, false, false, false, false, false] rfl rfl (by kernel_rfl) (fun _ _ _ h => h) (Or.inl ⟨by rfl, ?_⟩) hHeld ?_ ?_
 rotate_left
 ·intro w' s0
  have z0 := (blk_cell (blk_below HR3.out s0) i).trans hcs
  go_simp
  with_reducible rfl
 rotate_left
 ·simp only [Act.put, List.setIfInBounds_toArray, List.set_cons_zero, List.set_cons_succ, i64_w, i32_w]
  rfl
 refine pure_ (i := 12) (N := some 34) (v := ?_) (a' := ?_) #[true, true, true, true, true, true, true, true, true, true, true, true, true, false, false, false, false] rfl rfl (by kernel_rfl) (fun _ _ _ h => h) (Or.inl ⟨by rfl, ?_⟩) ?_ ?_
 rotate_left
 ·intro w'
  go_simp
  with_reducible rfl
 rotate_left
 ·simp only [Act.put, List.setIfInBounds_toArray, List.set_cons_zero, List.set_cons_succ, i64_w, i32_w]
  rfl
 have s1 := hHeld
 clear hHeld
 generalize w0.drew = w1 at s1 ⊢
 refine one_ (i := 13) (N := some 35) #[true, true, true, true, true, true, true, true, true, true, true, true, true, true, false, false, false] rfl rfl (by kernel_rfl) (by decide) (fun K hK => ?_)
 refine Kd.R_lit_step (Kd.int .i64) (w0 := w0) w0.heap.size 3 (by rfl) (N := 35) rfl (xs := [vv]) (inner := [.int .i64 vv]) (ok := fun _ => True) (okp := fun _ => False) ?hr ?hp (fun _ h => h.elim) trivial s1 s1.size (by simp) ?_
 case hr => first | (go_simp; done) | (go_simp; rfl)
 case hp => exact Kd.reps_scalar [vv]
 intro v2 w2 hR2 s2 hg2 hn2
 clear hg2 hn2
 obtain ⟨A2, c2, rfl⟩ := Kd.R_slice hR2
 refine hK.out _ _ s2 (fun hHeld => ?_)
 clear hK K hHeld
 refine norm_ (a' := ?_) ?_ ?_
 rotate_left
 ·show Act.put _ (some 35) _ = _
  simp only [Act.put, List.setIfInBounds_toArray, List.set_cons_zero, List.set_cons_succ, i64_w, i32_w]
  rfl
 refine one_ (i := 14) (N := some 36) #[true, true, true, true, true, true, true, true, true, true, true, true, true, true, true, false, false] rfl rfl (by kernel_rfl) (by decide) (fun K hK => ?_)
 refine Kd.R_append_rows_step (Kd.int .i64) (w0 := w0) w0.heap.size (by rfl) (.tmp 33) (.tmp 35) 57 3 (.int .i64 0) 8 rfl Try.underlying57 info_int rfl (by decide) (by decide) (.slice none 0 0) [] [vv] _ _ _ (fun _ => True) (fun _ => False) rfl rfl ?aO ?aR (fun _ _ h => h) (fun _ h => h.elim) (fun _ _ => trivial) s2 s2.size (by simp) ?_
 case aO => exact Kd.R_nil _ _ _ _ _
 case aR => exact (Kd.R_reads' hR2).2.2
 intro v3 w3 hR3 s3 hg3 hn3
 clear hg3 hn3
 obtain ⟨A3, c3, rfl⟩ := Kd.R_slice hR3
 refine hK.out _ _ s3 (fun hHeld => ?_)
 clear hK K hHeld
 refine norm_ (a' := ?_) ?_ ?_
 rotate_left
 ·show Act.put _ (some 36) _ = _
  simp only [Act.put, List.setIfInBounds_toArray, List.set_cons_zero, List.set_cons_succ, i64_w, i32_w]
  rfl
 refine pure_ (i := 15) (N := some 37) (v := ?_) (a' := ?_) #[true, true, true, true, true, true, true, true, true, true, true, true, true, true, true, true, false] rfl rfl (by kernel_rfl) (fun _ _ _ h => h) (Or.inl ⟨by rfl, ?_⟩) ?_ ?_
 rotate_left
 ·intro w'
  go_simp
  with_reducible rfl
 rotate_left
 ·simp only [Act.put, List.setIfInBounds_toArray, List.set_cons_zero, List.set_cons_succ, i64_w, i32_w]
  rfl
 have c0 := (blk_cell (blk_below HR3.out s3) i).trans hcs
 have f0 := blk_frozen (blk_below HR3.out s3) i
 refine wpAnyLast_ready (rs := [16]) (by kernel_rfl) (by simp) (AllReadyL.cons_last rfl (by decide) (fun K hK => ?_) AllReadyL.nil)
 refine skip_ (w1 := ?_) (by rfl) rfl ?_ ?_
 rotate_left
 ·go_simp
  rfl
 refine hK.out _ _ ?_
 clear hK K c0 f0
 have G4 := blk_far (p := ⟨b, i, none⟩) (blk_below HG3.out s3) hgb (.slice A3 1 c3)
 have R4 := blk_set (blk_below HR3.out s3) i (.slice A3 1 c3)
 have C3 := (Kd.R_reads' hR3).2.2
 obtain ⟨h, cp, ev, h3, h4, cells, hc4⟩ := Kd.R_form hR3 (show 0 < ([] ++ [vv]).length from Nat.zero_lt_one)
 injection ev with ev1 ev2 ev3
 subst ev1
 have hce : cells[0]? = some (.int .i64 vv) := by
  obtain ⟨ad', cs', e', _, hK', hcc⟩ := Kd.C_get C3 (0 : Int) 0 (by omega) (by simp)
  cases e'
  have hK2 : cs' = [.int .i64 vv] := hK'
  have h5 := hcc 0 (.int .i64 vv) (by rw [hK2]; rfl)
  exact (blk_cell hc4 0).symm.trans h5
 have sb := blk_lt (blk_below HR3.out (Below.refl _ _))
 have sg := blk_lt (blk_below HG3.out (Below.refl _ _))
 have H4 := blk_far (p := ⟨b, i, none⟩) hc4 (show h ≠ b by omega) (.slice (some ⟨h, 0, none⟩) 1 c3)
 have N4 : Aside0 (∀ n0, n0 ≤ w0.heap.size → n0 ≤ b → Below n0 w0 (w3.setCell ⟨b, i, none⟩ (.slice (some ⟨h, 0, none⟩) 1 c3))) := ⟨fun n0 a1 a2 => (below_weaken2 s3 a1).setCell (p := ⟨b, i, none⟩) a2 _⟩
 have hhg : h ≠ g := by omega
 have K4 : Aside0 (∀ k, k < w0.heap.size → k ≠ b → (w3.setCell ⟨b, i, none⟩ (.slice (some ⟨h, 0, none⟩) 1 c3)).heap[k]? = w0.heap[k]?) := ⟨fun k a1 a2 => (Below.heap_setCell w3 ⟨b, i, none⟩ _ k a2).trans (s3.block k a1)⟩
 have R5 : Aside0 (Kd.R (Kd.int .i64) 3 (w3.setCell ⟨b, i, none⟩ (.slice (some ⟨h, 0, none⟩) 1 c3)) w0.heap.size (fun _ => True) (.slice (some ⟨h, 0, none⟩) 1 c3) [vv]) := ⟨Kd.R_set hR3 (blk_below HR3.out s3) (by decide) i _⟩
 clear hR2 hR3 C3 hc4 s1 s2 ev2 ev3
 have Q4 := Aside0.mk (And.intro G4 (And.intro R4 H4))
 clear G4 R4 H4 s3 sb sg
 generalize w3.setCell ⟨b, i, none⟩ (.slice (some ⟨h, 0, none⟩) 1 c3) = w4 at Q4 N4 K4 R5 ⊢
 refine done_ (by kernel_rfl) ?_
 have y3 : w4.cell? ⟨g, 3, none⟩ = some (.int .i64 m) := (blk_cell Q4.out.1 3).trans rfl
 have yf := blk_frozen Q4.out.1 3
 have wm : IntKind.i64.wrap (m + 1) = m + 1 := w64s (by omega)
 go_wp2_with fail
 go_end0
 have hbg : b ≠ g := fun e => hgb e.symm
 have sw := HB3.out.size
 have swg := blk_lt HG.out
 refine ⟨⟨_, rfl⟩, h, c3, cells, blk_put Q4.out.1 3 _ rfl, blk_far Q4.out.2.1 hbg _, blk_far Q4.out.2.2 hhg _, hce, fun n0 a1 a2 => ?_, fun k a1 a2 a3 => ?_, fun B0 a1 => ?_⟩
 ·exact (((below_then (Below.refl n0 w) (by omega) HB3.out).trans (N4.out n0 (by omega) a2)).setCell (p := ⟨g, 3, none⟩) a1 _)
 ·exact (Below.heap_setCell w4 ⟨g, 3, none⟩ _ k a2).trans ((K4.out k (by omega) a3).trans (HB3.out.block k a1))
 ·exact Kd.R_lower (Kd.R_set R5.out Q4.out.1 (by decide) 3 _) (by omega)
end Go.Proofs.Ytfangodjmppooaa.Rd
end
section
namespace Go.Proofs.Ytfangodjmppooaa.Rd
open Go RowKit
set_option linter.unusedVariables false
theorem mx_ge (x y : Int) : x ≤ mx x y ∧ -x ≤ mx x y ∧ y ≤ mx x y ∧ -y ≤ mx x y := by
 unfold mx mx4
 split <;> split <;> split <;> omega
theorem mx_le {x y k : Int} (h1 : x ≤ k) (h2 : -x ≤ k) (h3 : y ≤ k) (h4 : -y ≤ k) : mx x y ≤ k := by
 unfold mx mx4
 split <;> split <;> split <;> omega
theorem mem_row (n x y : Int) (h : mx x y = n) : ∀ (k : Nat) (y0 : Int), y0 ≤ y → y < y0 + k → (x, y) ∈ ringRow n x k y0 := by
 intro k
 induction k with
 | zero => intro y0 h1 h2; omega
 | succ k ih =>
  intro y0 h1 h2
  unfold ringRow
  by_cases e : y0 = y
  ·subst e
   rw [if_pos h]
   exact List.mem_cons_self
  ·have := ih (y0 + 1) (by omega) (by omega)
   split
   ·exact List.mem_cons_of_mem _ this
   ·exact this
theorem mem_rows (n x y : Int) (hn : 0 ≤ n) (h : mx x y = n) (hy : -n ≤ y ∧ y ≤ n) : ∀ (k : Nat) (x0 : Int), x0 ≤ x → x < x0 + k → (x, y) ∈ ringRows n k x0 := by
 intro k
 induction k with
 | zero => intro x0 h1 h2; omega
 | succ k ih =>
  intro x0 h1 h2
  unfold ringRows
  by_cases e : x0 = x
  ·subst e
   exact List.mem_append_left _ (mem_row n x0 y h _ _ (by omega) (by omega))
  ·exact List.mem_append_right _ (ih (x0 + 1) (by omega) (by omega))
theorem mem_ring (x y : Int) : (x, y) ∈ ring (mx x y) := by
 have g := mx_ge x y
 exact mem_rows (mx x y) x y (by omega) rfl (by omega) _ _ (by omega) (by omega)
theorem ring_zero : ring 0 = [(0, 0)] := by decide
theorem tmod_small {a n : Int} (h1 : -n < a) (h2 : a < n) : Int.tmod a n = a := by
 rcases Int.le_total 0 a with h | h
 ·rw [Int.tmod_eq_emod_of_nonneg h, Int.emod_eq_of_lt h h2]
 ·have e : a = -(-a) := by omega
  rw [e, Int.neg_tmod, Int.tmod_eq_emod_of_nonneg (show 0 ≤ -a by omega), Int.emod_eq_of_lt (by omega) (by omega)]
theorem idx_own {n A B : Int} (hA : 0 ≤ A) (hA2 : A < n) (hB : 0 ≤ B) (hB2 : B < n) : idx n A B = A * n + B := by
 unfold idx
 rw [Int.add_emod_right, Int.add_emod_right, Int.emod_eq_of_lt hA hA2, Int.emod_eq_of_lt hB hB2]
theorem hit_at {n A B X Y : Int} (mins : Nat → Option Int) (hA : 0 ≤ A) (hA2 : A < n) (hB : 0 ≤ B) (hB2 : B < n) (hX : 0 ≤ X) (hX2 : X < n) (hY : 0 ≤ Y) (hY2 : Y < n) : hit n X Y mins (A - X, B - Y) = mins (A * n + B).toNat := by
 unfold hit
 rw [tmod_small (a := A - X) (by omega) (by omega), tmod_small (a := B - Y) (by omega) (by omega), show X + (A - X) = A by omega, show Y + (B - Y) = B by omega, idx_own hA hA2 hB hB2]
theorem cover {n A B X Y : Int} (hA : 0 ≤ A) (hA2 : A < n) (hB : 0 ≤ B) (hB2 : B < n) (hX : 0 ≤ X) (hX2 : X < n) (hY : 0 ≤ Y) (hY2 : Y < n) : ∃ f : Nat, (f : Int) ≤ n ∧ (A - X, B - Y) ∈ ring f := by
 have g := mx_ge (A - X) (B - Y)
 have l := mx_le (x := A - X) (y := B - Y) (k := n) (by omega) (by omega) (by omega) (by omega)
 refine ⟨(mx (A - X) (B - Y)).toNat, by omega, ?_⟩
 rw [Int.toNat_of_nonneg (by omega)]
 exact mem_ring _ _
theorem near_one {n A B X Y v r : Int} (hA : 0 ≤ A) (hA2 : A < n) (hB : 0 ≤ B) (hB2 : B < n) (hX : 0 ≤ X) (hX2 : X < n) (hY : 0 ≤ Y) (hY2 : Y < n) (h : NearR n X Y (fun j => if j = (A * n + B).toNat then some v else none) r) : r = v := by
 rcases h with ⟨f, pre, p, _, _, _, _, hr⟩ | ⟨_, hall⟩
 ·unfold hit at hr
  dsimp only at hr
  split at hr
  ·exact (Option.some.inj hr).symm
  ·cases hr
 ·obtain ⟨f, hf, hm⟩ := cover hA hA2 hB hB2 hX hX2 hY hY2
  have := hall f hf _ hm
  rw [hit_at _ hA hA2 hB hB2 hX hX2 hY hY2] at this
  rw [if_pos rfl] at this
  cases this
theorem near_own {n X Y v r : Int} (mins : Nat → Option Int) (hX : 0 ≤ X) (hX2 : X < n) (hY : 0 ≤ Y) (hY2 : Y < n) (hv : mins (X * n + Y).toNat = some v) (h : NearR n X Y mins r) : r = v := by
 have h0 : hit n X Y mins (0, 0) = some v := by
  have := hit_at mins hX hX2 hY hY2 hX hX2 hY hY2
  rw [show X - X = 0 by omega, show Y - Y = 0 by omega] at this
  rw [this, hv]
 rcases h with ⟨f, pre, p, _, hp, hpast, _, hr⟩ | ⟨_, hall⟩
 ·cases f with
  | zero =>
   have e : ring ((0 : Nat) : Int) = [(0, 0)] := ring_zero
   rw [e] at hp
   have hm := hp.subset (List.mem_append_right pre List.mem_cons_self)
   rw [List.mem_singleton.1 hm, h0] at hr
   exact (Option.some.inj hr).symm
  | succ f =>
   have := hpast 0 (by omega) (0, 0) (by show (0, 0) ∈ ring 0; rw [ring_zero]; exact List.mem_cons_self)
   rw [h0] at this
   cases this
 ·have := hall 0 (by omega) (0, 0) (by show (0, 0) ∈ ring 0; rw [ring_zero]; exact List.mem_cons_self)
  rw [h0] at this
  cases this
end Go.Proofs.Ytfangodjmppooaa.Rd
end
section
namespace Go.Proofs.Ytfangodjmppooaa.Rd
open Go RowKit YtfangodjmppooaaW.PrintWords YtfangodjmppooaaW.PrintLast YtfangodjmppooaaW.PrintMore Ytfangodjmppooaa.F
attribute [local go_sem] min2_int max2_int max_two min_two
set_option linter.unusedVariables false
set_option linter.unusedSimpArgs false
theorem minok_two (h c : Nat) (hc : Array Value) (u v : Int) (h0 : hc[0]? = some (.int .i64 u)) (h1 : hc[1]? = some (.int .i64 v)) (huv : (v < u) = False) : MinOk h 2 c hc u := fun W hW => by
 have c0 := (blk_cell hW 0).trans h0
 have c1 := (blk_cell hW 1).trans h1
 go_enter Try.func23, Try.ntmps23
 go_wp2_with fail
 refine wp_loop_rounds 2 ?_
 rw [rounds_succ]
 go_wp2_with fail
 rw [rounds_succ]
 go_wp2_with fail
 go_ret
 exact ⟨rfl, rfl⟩
def St0 (n : Int) (m b : Nat) (W : World) : Prop := W.heap[b + 1]? = some (.cells #[.int .i64 1000, .int .i64 n, .slice (some ⟨b, 0, none⟩) m m, .int .i64 0] 48 (0, 0)) ∧ W.heap[b]? = some (.cells (nils m) 57 (0, 0))
def St1 (n vv : Int) (m i0 b : Nat) (W : World) : Prop := ∃ (h c : Nat) (cells : Array Value), W.heap[b + 1]? = some (.cells #[.int .i64 1000, .int .i64 n, .slice (some ⟨b, 0, none⟩) m m, .int .i64 (0 + 1)] 48 (0, 0)) ∧ W.heap[b]? = some (.cells ((nils m).setIfInBounds i0 (.slice (some ⟨h, 0, none⟩) 1 c)) 57 (0, 0)) ∧ W.heap[h]? = some (.cells cells 3 (0, 0)) ∧ cells[0]? = some (.int .i64 vv) ∧ Kd.R (Kd.int .i64) 3 W b (fun _ => True) (.slice (some ⟨h, 0, none⟩) 1 c) [vv]
def St2a (n vv : Int) (m i0 i1 b : Nat) (W : World) : Prop := ∃ (h c : Nat) (cells : Array Value) (h' c' : Nat) (cells' : Array Value), W.heap[b + 1]? = some (.cells #[.int .i64 1000, .int .i64 n, .slice (some ⟨b, 0, none⟩) m m, .int .i64 (0 + 1 + 1)] 48 (0, 0)) ∧ W.heap[b]? = some (.cells (((nils m).setIfInBounds i0 (.slice (some ⟨h, 0, none⟩) 1 c)).setIfInBounds i1 (.slice (some ⟨h', 0, none⟩) 1 c')) 57 (0, 0)) ∧ W.heap[h]? = some (.cells cells 3 (0, 0)) ∧ cells[0]? = some (.int .i64 vv) ∧ W.heap[h']? = some (.cells cells' 3 (0, 0)) ∧ cells'[0]? = some (.int .i64 70000)
def St2s (n vv : Int) (m i0 b : Nat) (W : World) : Prop := ∃ (h c h' c' : Nat) (cells' : Array Value), W.heap[b + 1]? = some (.cells #[.int .i64 1000, .int .i64 n, .slice (some ⟨b, 0, none⟩) m m, .int .i64 (0 + 1 + 1)] 48 (0, 0)) ∧ W.heap[b]? = some (.cells (((nils m).setIfInBounds i0 (.slice (some ⟨h, 0, none⟩) 1 c)).setIfInBounds i0 (.slice (some ⟨h', 0, none⟩) 2 c')) 57 (0, 0)) ∧ W.heap[h']? = some (.cells cells' 3 (0, 0)) ∧ cells'[0]? = some (.int .i64 vv) ∧ cells'[1]? = some (.int .i64 70000)
theorem St0.keep {n : Int} {m b : Nat} {w w' : World} (h : St0 n m b w) (k : Below w.heap.size w w') : St0 n m b w' := ⟨blk_below h.1 k, blk_below h.2 k⟩
theorem St1.keep {n vv : Int} {m i0 b : Nat} {w w' : World} (h : St1 n vv m i0 b w) (k : Below w.heap.size w w') : St1 n vv m i0 b w' := by
 obtain ⟨h, c, cells, a1, a2, a3, a4, a5⟩ := h
 exact ⟨h, c, cells, blk_below a1 k, blk_below a2 k, blk_below a3 k, a4, Kd.R_below a5 k⟩
theorem St2a.keep {n vv : Int} {m i0 i1 b : Nat} {w w' : World} (h : St2a n vv m i0 i1 b w) (k : Below w.heap.size w w') : St2a n vv m i0 i1 b w' := by
 obtain ⟨h, c, cells, h', c', cells', a1, a2, a3, a4, a5, a6⟩ := h
 exact ⟨h, c, cells, h', c', cells', blk_below a1 k, blk_below a2 k, blk_below a3 k, a4, blk_below a5 k, a6⟩
theorem St2s.keep {n vv : Int} {m i0 b : Nat} {w w' : World} (h : St2s n vv m i0 b w) (k : Below w.heap.size w w') : St2s n vv m i0 b w' := by
 obtain ⟨h, c, h', c', cells', a1, a2, a3, a4, a5⟩ := h
 exact ⟨h, c, h', c', cells', blk_below a1 k, blk_below a2 k, blk_below a3 k, a4, a5⟩
theorem St0.new (n : Int) (m : Nat) (w1 : World) : St0 n m w1.heap.size ((w1.alloc (.cells (nils m) 57)).alloc (.cells #[.int .i64 1000, .int .i64 n, .slice (some ⟨w1.heap.size, 0, none⟩) m m, .int .i64 0] 48)) := by
 have s1 : (w1.alloc (.cells (nils m) 57)).heap.size = w1.heap.size + 1 := World.size_alloc _ _
 have hg := blk_new (w1.alloc (.cells (nils m) 57)) (.cells #[.int .i64 1000, .int .i64 n, .slice (some ⟨w1.heap.size, 0, none⟩) m m, .int .i64 0] 48)
 rw [s1] at hg
 exact ⟨hg, blk_alloc (blk_new w1 _) _⟩
structure Pt (n px py X Y : Int) : Prop where
 mk :: (out : ∃ q1 q2 r1 r2, lift_Home.f 20 px py 1000 = some (q1, q2, r1, r2, true) ∧ (0 ≤ q1 ∧ q1 < 1000 ∧ 0 ≤ q2 ∧ q2 < 1000) ∧ X = q1 * n / 1000 ∧ Y = q2 * n / 1000)
theorem Pt.cell {n px py X Y : Int} (h : Pt n px py X Y) (hn : 1 ≤ n) (hn2 : n ≤ 64) {g : Nat} {v : Value} {m : Int} {W : World} (hg : W.heap[g]? = some (.cells #[.int .i64 1000, .int .i64 n, v, .int .i64 m] 48 (0, 0))) : CellAt (.pointer (some ⟨g, 0, none⟩)) px py X Y true W := by
 obtain ⟨q1, q2, r1, r2, h1, h2, rfl, rfl⟩ := h.out
 exact CellAt.grid 20 g 1000 n px py q1 q2 r1 r2 true W v m (by decide) hn hn2 (fun _ => ⟨h2.1, h2.2.1, h2.2.2.1, h2.2.2.2, by decide⟩) hg h1
theorem Pt.bd {n px py X Y : Int} (h : Pt n px py X Y) (hn : 1 ≤ n) : 0 ≤ X ∧ X < n ∧ 0 ≤ Y ∧ Y < n := by
 obtain ⟨q1, q2, r1, r2, h1, ⟨a1, a2, a3, a4⟩, rfl, rfl⟩ := h.out
 have z := fun (q : Int) (h0 : 0 ≤ q) (h1 : q < 1000) => (⟨Int.ediv_nonneg (Int.mul_nonneg h0 (by omega)) (by omega), Int.ediv_lt_of_lt_mul (by omega) (by have := Int.mul_lt_mul_of_pos_right h1 (show 0 < n by omega); omega)⟩ : 0 ≤ q * n / 1000 ∧ q * n / 1000 < n)
 exact ⟨(z q1 a1 a2).1, (z q1 a1 a2).2, (z q2 a3 a4).1, (z q2 a3 a4).2⟩
theorem place {n X Y : Int} (hX : 0 ≤ X) (hX2 : X < n) (hY : 0 ≤ Y) (hY2 : Y < n) : 0 ≤ X * n + Y ∧ X * n + Y < n * n := by
 have m1 : 0 ≤ X * n := Int.mul_nonneg hX (by omega)
 have m2 : X * n ≤ (n - 1) * n := Int.mul_le_mul_of_nonneg_right (by omega) (by omega)
 have m3 : (n - 1) * n = n * n - n := by rw [Int.sub_mul, Int.one_mul]
 omega
section
variable {n vv px0 py0 px1 py1 A B X Y : Int} {m : Nat}
theorem nils_set {i j : Nat} {v : Value} (hj : j < m) (h : j ≠ i) : ((nils m).setIfInBounds i v)[j]? = some (.slice none 0 0) := by
 rw [Array.getElem?_setIfInBounds_ne (fun e => h e.symm)]
 exact nils_at hj
theorem nils_own {i : Nat} {v : Value} (hi : i < m) : ((nils m).setIfInBounds i v)[i]? = some v := by
 rw [Array.getElem?_setIfInBounds_self_of_lt]
 simpa [nils, size_madeCells] using hi
theorem put0_c (P : Pt n px0 py0 A B) (hn : 1 ≤ n) (hn2 : n ≤ 64) (hm : (m : Int) = n * n) (b : Nat) (w : World) (h : St0 n m b w) :
  Calls Try.prog 13 #[.pointer (some ⟨b + 1, 0, none⟩), .int .i64 vv, .agg #[.int .i64 px0, .int .i64 py0]] w fun e w' => (∃ v, e = .returned v) ∧ St1 n vv m (A * n + B).toNat b w' ∧ Below b w w' := by
 obtain ⟨a1, a2, a3, a4⟩ := P.bd hn
 have pl := place a1 a2 a3 a4
 have hb : n * n ≤ 64 * 64 := Int.mul_le_mul hn2 hn2 (by omega) (by omega)
 refine (put_d (b + 1) b m (A * n + B).toNat 1000 n 0 vv px0 py0 A B (nils m) w (P.cell hn hn2 h.1) hn hn2 (by omega) (by omega) (by omega) (by omega) (by rw [idx_own a1 a2 a3 a4]; omega) (by omega) (by omega) (by decide) h.1 h.2 (nils_at (by omega))).mono ?_
 rintro e w' ⟨hv, h1, c1, cells, e1, e2, e3, e4, e5, e6, e7⟩
 exact ⟨hv, ⟨h1, c1, cells, e1, e2, e3, e4, e7 b (by have := blk_lt h.2; omega)⟩, e5 b (by omega) (Nat.le_refl _)⟩
theorem near1_c (P0 : Pt n px0 py0 A B) (P : Pt n px1 py1 X Y) (hn : 1 ≤ n) (hn2 : n ≤ 64) (hm : (m : Int) = n * n) (b : Nat) (w : World) (h : St1 n vv m (A * n + B).toNat b w) :
  Calls Try.prog 12 #[.pointer (some ⟨b + 1, 0, none⟩), .agg #[.int .i64 px1, .int .i64 py1]] w fun e w' => e = .returned (.int .i64 vv) ∧ Below w.heap.size w w' := by
 obtain ⟨a1, a2, a3, a4⟩ := P0.bd hn
 obtain ⟨b1, b2, b3, b4⟩ := P.bd hn
 have pl := place a1 a2 a3 a4
 obtain ⟨h1, c1, cells, e1, e2, e3, e4, e5⟩ := h
 refine (near_c (b + 1) b m 1000 n (0 + 1) px1 py1 X Y _ (fun j => if j = (A * n + B).toNat then some vv else none) w (P.cell hn hn2 e1) hn hn2 (by omega) (by omega) (by omega) (by omega) hm (by decide) e1 e2 ?_ ?_).mono ?_
 ·intro j v hj
  by_cases hj0 : j = (A * n + B).toNat
  ·rw [if_pos hj0] at hj
   cases hj
   subst hj0
   exact ⟨h1, 1, c1, cells, nils_own (by omega), by decide, e3, min_one h1 c1 cells vv e4⟩
  ·rw [if_neg hj0] at hj; cases hj
 ·intro j hj hno
  refine nils_set hj (fun e => ?_)
  rw [if_pos e] at hno; cases hno
 ·rintro e w' ⟨r, rfl, hr, hb'⟩
  rw [near_one a1 a2 a3 a4 b1 b2 b3 b4 hr]
  exact ⟨rfl, hb'⟩
theorem put1_a (P0 : Pt n px0 py0 A B) (P : Pt n px1 py1 X Y) (hne : (X * n + Y).toNat ≠ (A * n + B).toNat) (hn : 1 ≤ n) (hn2 : n ≤ 64) (hm : (m : Int) = n * n) (b : Nat) (w : World) (h : St1 n vv m (A * n + B).toNat b w) :
  Calls Try.prog 13 #[.pointer (some ⟨b + 1, 0, none⟩), .int .i64 70000, .agg #[.int .i64 px1, .int .i64 py1]] w fun e w' => (∃ v, e = .returned v) ∧ St2a n vv m (A * n + B).toNat (X * n + Y).toNat b w' ∧ Below b w w' := by
 obtain ⟨b1, b2, b3, b4⟩ := P.bd hn
 have pl := place b1 b2 b3 b4
 have hb : n * n ≤ 64 * 64 := Int.mul_le_mul hn2 hn2 (by omega) (by omega)
 obtain ⟨h1, c1, cells, e1, e2, e3, e4, e5⟩ := h
 refine (put_d (b + 1) b m (X * n + Y).toNat 1000 n (0 + 1) 70000 px1 py1 X Y _ w (P.cell hn hn2 e1) hn hn2 (by omega) (by omega) (by omega) (by omega) (by rw [idx_own b1 b2 b3 b4]; omega) (by omega) (by omega) (by decide) e1 e2 (nils_set (by omega) hne)).mono ?_
 rintro e w' ⟨hv, h2, c2, cells2, k1, k2, k3, k4, k5, k6, k7⟩
 exact ⟨hv, ⟨h1, c1, cells, h2, c2, cells2, k1, k2, (k6 h1 (blk_lt e3) (blk_ne e3 e1 (by decide)) (blk_ne e3 e2 (by decide))).trans e3, e4, k3, k4⟩, k5 b (by omega) (Nat.le_refl _)⟩
theorem near2_a (P0 : Pt n px0 py0 A B) (P : Pt n px1 py1 X Y) (hne : (X * n + Y).toNat ≠ (A * n + B).toNat) (hn : 1 ≤ n) (hn2 : n ≤ 64) (hm : (m : Int) = n * n) (b : Nat) (w : World) (h : St2a n vv m (A * n + B).toNat (X * n + Y).toNat b w) :
  Calls Try.prog 12 #[.pointer (some ⟨b + 1, 0, none⟩), .agg #[.int .i64 px1, .int .i64 py1]] w fun e w' => e = .returned (.int .i64 70000) ∧ Below w.heap.size w w' := by
 obtain ⟨a1, a2, a3, a4⟩ := P0.bd hn
 obtain ⟨b1, b2, b3, b4⟩ := P.bd hn
 have pl := place a1 a2 a3 a4
 have pl2 := place b1 b2 b3 b4
 obtain ⟨h1, c1, cells, h2, c2, cells2, e1, e2, e3, e4, e5, e6⟩ := h
 have sz : ((nils m).setIfInBounds (A * n + B).toNat (.slice (some ⟨h1, 0, none⟩) 1 c1)).size = m := by simp [nils, size_madeCells]
 refine (near_c (b + 1) b m 1000 n (0 + 1 + 1) px1 py1 X Y _ (fun j => if j = (X * n + Y).toNat then some 70000 else if j = (A * n + B).toNat then some vv else none) w (P.cell hn hn2 e1) hn hn2 (by omega) (by omega) (by omega) (by omega) hm (by decide) e1 e2 ?_ ?_).mono ?_
 ·intro j v hj
  by_cases hj1 : j = (X * n + Y).toNat
  ·rw [if_pos hj1] at hj
   cases hj
   subst hj1
   refine ⟨h2, 1, c2, cells2, ?_, by decide, e5, min_one h2 c2 cells2 70000 e6⟩
   rw [Array.getElem?_setIfInBounds_self_of_lt]
   omega
  ·rw [if_neg hj1] at hj
   by_cases hj0 : j = (A * n + B).toNat
   ·rw [if_pos hj0] at hj
    cases hj
    subst hj0
    refine ⟨h1, 1, c1, cells, ?_, by decide, e3, min_one h1 c1 cells vv e4⟩
    rw [Array.getElem?_setIfInBounds_ne hne]
    exact nils_own (by omega)
   ·rw [if_neg hj0] at hj; cases hj
 ·intro j hj hno
  by_cases hj1 : j = (X * n + Y).toNat
  ·rw [if_pos hj1] at hno; cases hno
  ·rw [if_neg hj1] at hno
   by_cases hj0 : j = (A * n + B).toNat
   ·rw [if_pos hj0] at hno; cases hno
   ·rw [Array.getElem?_setIfInBounds_ne (fun e => hj1 e.symm)]
    exact nils_set hj hj0
 ·rintro e w' ⟨r, rfl, hr, hb'⟩
  rw [near_own _ b1 b2 b3 b4 (if_pos rfl) hr]
  exact ⟨rfl, hb'⟩
theorem put1_s (P : Pt n px1 py1 A B) (hn : 1 ≤ n) (hn2 : n ≤ 64) (hm : (m : Int) = n * n) (b : Nat) (w : World) (h : St1 n vv m (A * n + B).toNat b w) :
  Calls Try.prog 13 #[.pointer (some ⟨b + 1, 0, none⟩), .int .i64 70000, .agg #[.int .i64 px1, .int .i64 py1]] w fun e w' => (∃ v, e = .returned v) ∧ St2s n vv m (A * n + B).toNat b w' ∧ Below b w w' := by
 obtain ⟨b1, b2, b3, b4⟩ := P.bd hn
 have pl := place b1 b2 b3 b4
 have hb : n * n ≤ 64 * 64 := Int.mul_le_mul hn2 hn2 (by omega) (by omega)
 obtain ⟨h1, c1, cells, e1, e2, e3, e4, e5⟩ := h
 refine (put_s (b + 1) b m (A * n + B).toNat h1 c1 b 1000 n (0 + 1) 70000 vv px1 py1 A B _ w (P.cell hn hn2 e1) hn hn2 (by omega) (by omega) (by omega) (by omega) (by rw [idx_own b1 b2 b3 b4]; omega) (by omega) (by omega) (by decide) e1 e2 (nils_own (by omega)) (by omega) (Nat.le_refl _) e5).mono ?_
 rintro e w' ⟨hv, h2, c2, cells2, k1, k2, k3, k4, k5, k6⟩
 exact ⟨hv, ⟨h1, c1, h2, c2, cells2, k1, k2, k3, k4, k5⟩, k6⟩
theorem near2_s (P : Pt n px1 py1 A B) (hv : vv < 70000) (hn : 1 ≤ n) (hn2 : n ≤ 64) (hm : (m : Int) = n * n) (b : Nat) (w : World) (h : St2s n vv m (A * n + B).toNat b w) :
  Calls Try.prog 12 #[.pointer (some ⟨b + 1, 0, none⟩), .agg #[.int .i64 px1, .int .i64 py1]] w fun e w' => e = .returned (.int .i64 vv) ∧ Below w.heap.size w w' := by
 obtain ⟨b1, b2, b3, b4⟩ := P.bd hn
 have pl2 := place b1 b2 b3 b4
 obtain ⟨h1, c1, h2, c2, cells2, e1, e2, e5, e6, e7⟩ := h
 have sz : ((nils m).setIfInBounds (A * n + B).toNat (.slice (some ⟨h1, 0, none⟩) 1 c1)).size = m := by simp [nils, size_madeCells]
 refine (near_c (b + 1) b m 1000 n (0 + 1 + 1) px1 py1 A B _ (fun j => if j = (A * n + B).toNat then some vv else none) w (P.cell hn hn2 e1) hn hn2 (by omega) (by omega) (by omega) (by omega) hm (by decide) e1 e2 ?_ ?_).mono ?_
 ·intro j v hj
  by_cases hj1 : j = (A * n + B).toNat
  ·rw [if_pos hj1] at hj
   cases hj
   subst hj1
   refine ⟨h2, 2, c2, cells2, ?_, by decide, e5, minok_two h2 c2 cells2 vv 70000 e6 e7 (eq_false (by omega))⟩
   rw [Array.getElem?_setIfInBounds_self_of_lt]
   omega
  ·rw [if_neg hj1] at hj; cases hj
 ·intro j hj hno
  by_cases hj1 : j = (A * n + B).toNat
  ·rw [if_pos hj1] at hno; cases hno
  ·rw [Array.getElem?_setIfInBounds_ne (fun e => hj1 e.symm)]
   exact nils_set hj hj1
 ·rintro e w' ⟨r, rfl, hr, hb'⟩
  rw [near_own _ b1 b2 b3 b4 (if_pos rfl) hr]
  exact ⟨rfl, hb'⟩
end
theorem len_2a {n vv : Int} {m i0 i1 b : Nat} {w : World} (h : St2a n vv m i0 i1 b w) : w.cell? ⟨b + 1, 3, none⟩ = some (.int .i64 2) := by
 obtain ⟨h1, c1, cells, h2, c2, cells2, e1, _⟩ := h
 exact (blk_cell e1 3).trans rfl
theorem len_2s {n vv : Int} {m i0 b : Nat} {w : World} (h : St2s n vv m i0 b w) : w.cell? ⟨b + 1, 3, none⟩ = some (.int .i64 2) := by
 obtain ⟨h1, c1, h2, c2, cells2, e1, _⟩ := h
 exact (blk_cell e1 3).trans rfl
theorem finds_calls (nn vv px0 py0 px1 py1 : Int) (w : World) (hn : (Lit.int .u8 nn).wf = true) (hv : (Lit.int .u16 vv).wf = true) (hx0 : (Lit.int .i64 px0).wf = true) (hy0 : (Lit.int .i64 py0).wf = true) (hx1 : (Lit.int .i64 px1).wf = true) (hy1 : (Lit.int .i64 py1).wf = true) :
  Calls Try.prog 4 #[.int .u8 nn, .int .u16 vv, .agg #[.int .i64 px0, .int .i64 py0, .int .i64 px1, .int .i64 py1]] w fun e w' => e = .returned (.bool true) ∧ Below w.heap.size w w' := by
 have bn := bounds_u8 hn
 have bv := bounds_u16 hv
 have bx0 := bounds_i64 hx0
 have by0 := bounds_i64 hy0
 have bx1 := bounds_i64 hx1
 have by1 := bounds_i64 hy1
 obtain ⟨n, hnn⟩ : ∃ n, 1 + nn % 64 = n := ⟨_, rfl⟩
 have h1 : 1 ≤ n := by omega
 have h2 : n ≤ 64 := by omega
 have m0 : 0 ≤ n * n := Int.mul_nonneg (by omega) (by omega)
 obtain ⟨m, hm⟩ : ∃ m : Nat, (m : Int) = n * n := ⟨(n * n).toNat, by omega⟩
 have hvw : IntKind.i64.wrap vv = vv := w64s (by omega)
 have hvw2 : wrap64 vv = vv := w64p (by omega)
 obtain ⟨q1, q2, r1, r2, ok0, hh0, hq0, hr0⟩ := cell_both px0 py0 1000 n ⟨by omega, by omega⟩ ⟨by omega, by omega⟩ (by decide) (by decide) h1 h2
 obtain ⟨s1, s2, t1, t2, ok1, hh1, hq1, hr1⟩ := cell_both px1 py1 1000 n ⟨by omega, by omega⟩ ⟨by omega, by omega⟩ (by decide) (by decide) h1 h2
 have k0 : ∀ (b : Nat) (w w' : World), St0 n m b w → Below w.heap.size w w' → St0 n m b w' := fun _ _ _ h k => h.keep k
 have hnear0 : ∀ (b : Nat) (w : World), St0 n m b w → Calls Try.prog 12 #[.pointer (some ⟨b + 1, 0, none⟩), .agg #[.int .i64 px0, .int .i64 py0]] w fun e w' => e = .returned (.int .i64 (-1)) ∧ Below w.heap.size w w' := fun b w h => near_zero (b + 1) 1000 n px0 py0 _ w (by decide) (by decide) h1 h2 h.1
 cases ok0 with
 | false =>
  rw [if_neg (by decide), if_neg (by decide)] at hr0
  exact finds_none nn vv px0 py0 px1 py1 n (-1) (-1) _ _ m w bn hnn hm hr0 hr1 (St0 n m) k0 (St0.new n m) hnear0 true _ rfl rfl (Bool.true_or _)
 | true =>
  rw [if_pos rfl, if_pos rfl] at hr0
  cases ok1 with
  | false =>
   rw [if_neg (by decide), if_neg (by decide)] at hr1
   exact finds_none nn vv px0 py0 px1 py1 n _ _ (-1) (-1) m w bn hnn hm hr0 hr1 (St0 n m) k0 (St0.new n m) hnear0 _ true rfl rfl (Bool.or_true _)
  | true =>
   rw [if_pos rfl, if_pos rfl] at hr1
   have g0 := hq0 rfl
   have g1 := hq1 rfl
   have P0 : Pt n px0 py0 (q1 * n / 1000) (q2 * n / 1000) := ⟨⟨q1, q2, r1, r2, hh0, ⟨g0.1, g0.2.1, g0.2.2.1, g0.2.2.2.1⟩, rfl, rfl⟩⟩
   have P1 : Pt n px1 py1 (s1 * n / 1000) (s2 * n / 1000) := ⟨⟨s1, s2, t1, t2, hh1, ⟨g1.1, g1.2.1, g1.2.2.1, g1.2.2.2.1⟩, rfl, rfl⟩⟩
   clear hq0 hq1 hh0 hh1 g0 g1
   generalize q1 * n / 1000 = A at hr0 P0
   generalize q2 * n / 1000 = B at hr0 P0
   generalize s1 * n / 1000 = X at hr1 P1
   generalize s2 * n / 1000 = Y at hr1 P1
   obtain ⟨a1, a2, a3, a4⟩ := P0.bd h1
   obtain ⟨b1, b2, b3, b4⟩ := P1.bd h1
   by_cases hs : A = X ∧ B = Y
   ·obtain ⟨rfl, rfl⟩ := hs
    exact finds_same nn vv px0 py0 px1 py1 n A B m w bn hnn hm hr0 hr1 (St0 n m) (St1 n vv m (A * n + B).toNat) (St2s n vv m (A * n + B).toNat) k0 (St0.new n m) (fun _ _ _ h k => h.keep k) (fun _ _ _ h k => h.keep k)
     (put0_c P0 h1 h2 hm) (put1_s P1 h1 h2 hm) (near1_c P0 P1 h1 h2 hm) (near2_s P1 (by omega) h1 h2 hm) hvw hvw2 (fun _ _ h => len_2s h) (decide_eq_false (by omega)) (beq_eq_false_iff_ne.mpr (by omega))
   ·have hne : (X * n + Y).toNat ≠ (A * n + B).toNat := by
     intro e
     have p1 := place a1 a2 a3 a4
     have p2 := place b1 b2 b3 b4
     have e2 : X * n + Y = A * n + B := by omega
     have d1 : (X * n + Y) / n = X := by rw [Int.add_comm, Int.add_mul_ediv_right _ _ (by omega), Int.ediv_eq_zero_of_lt b3 b4, Int.zero_add]
     have d2 : (A * n + B) / n = A := by rw [Int.add_comm, Int.add_mul_ediv_right _ _ (by omega), Int.ediv_eq_zero_of_lt a3 a4, Int.zero_add]
     rw [e2, d2] at d1
     subst d1
     exact hs ⟨rfl, by omega⟩
    exact finds_apart nn vv px0 py0 px1 py1 n A B X Y m w bn hnn hm hr0 hr1 (St0 n m) (St1 n vv m (A * n + B).toNat) (St2a n vv m (A * n + B).toNat (X * n + Y).toNat) k0 (St0.new n m) (fun _ _ _ h k => h.keep k) (fun _ _ _ h k => h.keep k)
     (put0_c P0 h1 h2 hm) (put1_a P0 P1 hne h1 h2 hm) (near1_c P0 P1 h1 h2 hm) (near2_a P0 P1 hne h1 h2 hm) hvw hvw2 (fun _ _ h => len_2a h) (decide_eq_false (by omega)) (decide_eq_false (by omega))
end Go.Proofs.Ytfangodjmppooaa.Rd
end
section
namespace Go.Proofs.Ytfangodjmppooaa.RK
open Go Go.ChangeShapes Go.WideShapes Go.ChangeAt RowKit Go.WideElems Go.Maps Go.Deep
variable {H : Type} {enc : TypeId × Value → H} {P : Program}
theorem okWide_array {k e : TypeId} {n : Nat} (hu : P.underlying k = some (.array n e)) {W : World} {r : Reach} {b0 : Nat} {v : Value} (h : Value.okWide P W r b0 k v) : ∃ cs : Array Value, v = .agg cs ∧ cs.size = P.cellsOf k := by
 simp only [Value.okWide, hu] at h
 obtain ⟨cs, h1, h2, _⟩ := h
 exact ⟨cs, h1, h2⟩
theorem list4 {α : Type} {l : List α} (h : l.length = 4) : ∃ a b c d, l = [a, b, c, d] := by
 match l, h with
 | [a, b, c, d], _ => exact ⟨a, b, c, d, rfl⟩
theorem cells_two {w : World} {sp : Nat → Bool} {held : Bool} {base fuel : Nat} {e : TypeId} {f0 f1 : Field} {k0 k1 : IntKind} {v0 v1 : Value} {x : DataW H × List MemPlace} (hs : P.underlying e = some (.struct #[f0, f1]))
  (o0 : f0.offset = 0) (o1 : f1.offset = 1) (s0 : P.cellsOf f0.type = 1) (s1 : P.cellsOf f1.type = 1) (h0 : P.underlying f0.type = some (.int k0)) (h1 : P.underlying f1.type = some (.int k1)) (h : DataW.trod enc P w base sp held fuel e [v0, v1] = some x) :
  ∃ a b : Int, v0 = .int k0 a ∧ v1 = .int k1 b ∧ (Lit.int k0 a).wf = true ∧ (Lit.int k1 b).wf = true := by
 obtain ⟨y0, y1, n, _, _, g0, g1⟩ := trod_struct2 hs h
 rw [o0, s0] at g0
 rw [o1, s1] at g1
 obtain ⟨a, ea, _, wa⟩ := DataW.trod_int h0 g0
 obtain ⟨b, eb, _, wb⟩ := DataW.trod_int h1 g1
 simp at ea eb
 exact ⟨a, b, ea, eb, wa, wb⟩
theorem open_pairs2 {w : World} {sp : Nat → Bool} {held : Bool} {r : Reach} {b0 base : Nat} {t e : TypeId} {f0 f1 : Field} {k0 k1 : IntKind} {v : Value} {d : DataW H} {p : List MemPlace} (hu : P.underlying t = some (.array 2 e)) (hs : P.underlying e = some (.struct #[f0, f1]))
  (o0 : f0.offset = 0) (o1 : f1.offset = 1) (s0 : P.cellsOf f0.type = 1) (s1 : P.cellsOf f1.type = 1) (h0 : P.underlying f0.type = some (.int k0)) (h1 : P.underlying f1.type = some (.int k1)) (two : P.cellsOf e = 2) (size : P.cellsOf t = 4)
  (hv : Value.okWide P w r b0 t v) (h : DataW.Trod enc P w base sp held t v d p) :
  ∃ a b a' b' : Int, v = .agg #[.int k0 a, .int k1 b, .int k0 a', .int k1 b'] ∧ (Lit.int k0 a).wf = true ∧ (Lit.int k1 b).wf = true ∧ (Lit.int k0 a').wf = true ∧ (Lit.int k1 b').wf = true := by
 obtain ⟨cs, rfl, hsz⟩ := okWide_array hu hv
 obtain ⟨l⟩ := cs
 obtain ⟨c0, c1, c2, c3, rfl⟩ := list4 (hsz.trans size)
 obtain ⟨fuel, hf⟩ := h
 cases fuel with
 | zero => simp [DataW.trod] at hf
 | succ n =>
  rw [DataW.trod_step] at hf
  unfold DataW.trodStep at hf
  simp only [hu, Value.cells] at hf
  rw [if_pos (by rw [size]; rfl)] at hf
  simp only [Option.map_eq_some_iff] at hf
  obtain ⟨xs, hx, e1⟩ := hf
  rw [show List.range 2 = [0, 1] from rfl, List.mapM_cons, List.mapM_cons, List.mapM_nil] at hx
  simp only [bind, Option.bind_eq_some_iff, pure, Option.some.injEq, two] at hx
  obtain ⟨y0, g0, _, ⟨y1, g1, _, rfl, rfl⟩, rfl⟩ := hx
  obtain ⟨a, b, rfl, rfl, wa, wb⟩ := cells_two hs o0 o1 s0 s1 h0 h1 g0
  obtain ⟨a', b', rfl, rfl, wa', wb'⟩ := cells_two hs o0 o1 s0 s1 h0 h1 g1
  exact ⟨a, b, a', b', rfl, wa, wb, wa', wb'⟩
end Go.Proofs.Ytfangodjmppooaa.RK
end
