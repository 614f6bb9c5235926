/- BucketNews: walked by hand. -/
import Derived.Test.YtfangodjmppooaaGridE
import Derived.Test.YtfangodjmppooaaHome
import Derived.OpenShut
namespace Go.Proofs.Ytfangodjmppooaa.Rd
open Go Go.RowKit Go.Proofs.YtfangodjmppooaaW.PrintWords Go.Proofs.YtfangodjmppooaaW.PrintLast Go.Proofs.YtfangodjmppooaaW.PrintMore Go.Proofs.Ytfangodjmppooaa.F
set_option linter.unusedVariables false
set_option linter.unusedSimpArgs false
theorem home_any (px py side : Int) (h1 : 1 ≤ side) (h2 : side ≤ 17179869184) : ∃ q1 q2 r1 r2 ok, lift_Home.f 20 px py side = some (q1, q2, r1, r2, ok) ∧ (ok = true → 0 ≤ q1 ∧ q1 < side ∧ 0 ≤ q2 ∧ q2 < side ∧ side ≤ 100000000000) := by
  have h := LiftH.lhome_f px py side (k := 20) (by decide)
  by_cases c : LiftH.HomeOk px py side
  · rw [if_pos c] at h
    exact ⟨_, _, _, _, _, h, fun _ => ⟨Int.emod_nonneg _ (by omega), Int.emod_lt_of_pos _ (by omega), Int.emod_nonneg _ (by omega), Int.emod_lt_of_pos _ (by omega), by omega⟩⟩
  · rw [if_neg c] at h
    exact ⟨_, _, _, _, _, h, fun e => by cases e⟩
theorem near_zero (g : Nat) (side n px py : Int) (v : Value) (w : World) (h1 : 1 ≤ side) (h2 : side ≤ 17179869184) (h3 : 1 ≤ n) (h4 : n ≤ 64) (hg : w.heap[g]? = some (.cells #[.int .i64 side, .int .i64 n, v, .int .i64 0] 48 (0, 0))) :
    Calls Try.prog 12 #[.pointer (some ⟨g, 0, none⟩), .agg #[.int .i64 px, .int .i64 py]] w fun e w' => e = .returned (.int .i64 (-1)) ∧ Below w.heap.size w w' := by
  obtain ⟨q1, q2, r1, r2, ok, hh, hq⟩ := home_any px py side h1 h2
  have hc := CellAt.grid 20 g side n px py q1 q2 r1 r2 ok w v 0 h1 h3 h4 hq hg hh
  cases ok with
  | true => exact near_empty px py _ _ w g _ hg rfl hc
  | false => exact near_off px py _ _ w _ hc
set_option maxHeartbeats 4000000 in
theorem news_some (side n px py : Int) (m : Nat) (w : World) (h1 : 1 ≤ side) (h2 : side ≤ 17179869184) (h3 : 1 ≤ n) (h4 : n ≤ 64) (hm : (m : Int) = n * n) :
    Calls Try.prog 6 #[.int .i64 side, .int .i64 n, .agg #[.int .i64 px, .int .i64 py]] w fun e w' => e = .returned (.bool true) ∧ Below w.heap.size w w' := by
  have HB := Aside0.mk (below_alloc (Below.refl w.heap.size w) (.cells #[.int .i64 px, .int .i64 py] 23))
  have HP := Aside0.mk (blk_new w (.cells #[.int .i64 px, .int .i64 py] 23))
  have HM := Aside0.mk (And.intro (And.intro h1 h2) (And.intro (And.intro h3 h4) hm))
  have c1 : decide (1 ≤ side) = true := decide_eq_true h1
  have c2 : decide (side ≤ 17179869184) = true := decide_eq_true h2
  have c3 : decide (1 ≤ n) = true := decide_eq_true h3
  have c4 : decide (n ≤ 64) = true := decide_eq_true h4
  clear hm
  go_enter Try.func6, Try.ntmps6
  go_wp2_with fail
  obtain ⟨w0, hw0⟩ : ∃ w0, w0 = w.alloc (.cells #[.int .i64 px, .int .i64 py] 23) := ⟨_, rfl⟩
  rw [← hw0] at HB HP ⊢
  clear hw0
  with_reducible refine (new_some side n m _ HM.out.1.1 HM.out.1.2 HM.out.2.1.1 HM.out.2.1.2 HM.out.2.2).mono ?_
  rintro e w1 ⟨rfl, hw1⟩
  have s1 : (w0.alloc (.cells (nils m) 57)).heap.size = w0.heap.size + 1 := World.size_alloc _ _
  have hg := blk_new (w0.alloc (.cells (nils m) 57)) (.cells #[.int .i64 side, .int .i64 n, .slice (some ⟨w0.heap.size, 0, none⟩) m m, .int .i64 0] 48)
  have hb1 := below_alloc (below_alloc (Below.refl w0.heap.size w0) (.cells (nils m) 57)) (.cells #[.int .i64 side, .int .i64 n, .slice (some ⟨w0.heap.size, 0, none⟩) m m, .int .i64 0] 48)
  rw [s1] at hg
  rw [← hw1] at hg hb1
  clear hw1 s1
  have HG := Aside0.mk hg
  have HB1 := Aside0.mk (below_step HB.out hb1)
  have HP1 := Aside0.mk (blk_below HP.out hb1)
  have p0 : w1.cell? ⟨w.heap.size, 0, none⟩ = some (.int .i64 px) := (blk_cell HP1.out 0).trans rfl
  have p1 : w1.cell? ⟨w.heap.size, 1, none⟩ = some (.int .i64 py) := (blk_cell HP1.out 1).trans rfl
  clear hg hb1 HB HP HP1
  go_wp2_with (first | (with_reducible go_at_call 12; with_reducible refine (near_zero _ side n px py _ _ HM.out.1.1 HM.out.1.2 HM.out.2.1.1 HM.out.2.1.2 HG.out).mono ?_; rintro e w4 ⟨rfl, hb⟩; have HB4 := Aside0.mk (below_step HB1.out hb); have z3 : w4.cell? ⟨w0.heap.size + 1, 3, none⟩ = some (.int .i64 0) := (blk_cell (blk_below HG.out hb) 3).trans rfl; clear hb HB1 HG) | (with_reducible go_at_call 14; with_reducible refine (len_c _ 0 _ z3).mono ?_; rintro e w5 ⟨rfl, rfl⟩) | (with_reducible go_at_call 11; with_reducible refine (lives_c _).mono ?_; rintro e w6 ⟨rfl, hb⟩; have HB6 := Aside0.mk (below_step HB4.out hb); clear hb) | fail)
  go_ret
  exact ⟨rfl, HB6.out⟩
set_option maxHeartbeats 4000000 in
theorem news_none0 (side n px py : Int) (w : World) (h : ¬ (1 ≤ side ∧ side ≤ 17179869184 ∧ 1 ≤ n ∧ n ≤ 64)) (c0 : decide (1 ≤ side) = false) :
    Calls Try.prog 6 #[.int .i64 side, .int .i64 n, .agg #[.int .i64 px, .int .i64 py]] w fun e w' => e = .returned (.bool true) ∧ Below w.heap.size w w' := by
  have HB := Aside0.mk (below_alloc (Below.refl w.heap.size w) (.cells #[.int .i64 px, .int .i64 py] 23))
  have HP := Aside0.mk (blk_new w (.cells #[.int .i64 px, .int .i64 py] 23))
  have HN := Aside0.mk h
  clear h
  go_enter Try.func6, Try.ntmps6
  go_wp2_with (first | (with_reducible go_at_call 8; with_reducible refine (new_none side n _ HN.out).mono ?_; rintro e w1 ⟨rfl, rfl⟩) | (with_reducible go_at_call 9; with_reducible refine (Cell_at _ px py (-1) (-1) false _ (CellAt.nil px py _)).mono ?_; rintro e w2 ⟨rfl, hb⟩; have HB2 := Aside0.mk (below_step HB.out hb); have HP2 := Aside0.mk (blk_below HP.out hb); have p0 : w2.cell? ⟨w.heap.size, 0, none⟩ = some (.int .i64 px) := (blk_cell HP2.out 0).trans rfl; have p1 : w2.cell? ⟨w.heap.size, 1, none⟩ = some (.int .i64 py) := (blk_cell HP2.out 1).trans rfl; clear hb HB HP) | (with_reducible go_at_call 13; with_reducible refine (put_none _ 1 px py (-1) (-1) _ (CellAt.nil px py _)).mono ?_; rintro e w3 ⟨⟨v3, rfl⟩, hb⟩; have HB3 := Aside0.mk (below_step HB2.out hb); have HP3 := Aside0.mk (blk_below HP2.out hb); clear p0 p1; have p0 : w3.cell? ⟨w.heap.size, 0, none⟩ = some (.int .i64 px) := (blk_cell HP3.out 0).trans rfl; have p1 : w3.cell? ⟨w.heap.size, 1, none⟩ = some (.int .i64 py) := (blk_cell HP3.out 1).trans rfl; clear hb HB2 HP2) | (with_reducible go_at_call 15; with_reducible refine (drop_none _ 1 px py (-1) (-1) _ (CellAt.nil px py _)).mono ?_; rintro e w4 ⟨⟨v4, rfl⟩, hb⟩; have HB4 := Aside0.mk (below_step HB3.out hb); have HP4 := Aside0.mk (blk_below HP3.out hb); clear p0 p1; have p0 : w4.cell? ⟨w.heap.size, 0, none⟩ = some (.int .i64 px) := (blk_cell HP4.out 0).trans rfl; have p1 : w4.cell? ⟨w.heap.size, 1, none⟩ = some (.int .i64 py) := (blk_cell HP4.out 1).trans rfl; clear hb HB3 HP3) | (with_reducible go_at_call 12; with_reducible refine (near_off px py (-1) (-1) _ none (CellAt.nil px py _)).mono ?_; rintro e w5 ⟨rfl, hb⟩; have HB5 := Aside0.mk (below_step HB4.out hb); clear hb HB4 HP4 p0 p1) | (with_reducible go_at_call 14; with_reducible refine (len_nil _).mono ?_; rintro e w6 ⟨rfl, rfl⟩) | (with_reducible go_at_call 11; with_reducible refine (lives_c _).mono ?_; rintro e w7 ⟨rfl, hb⟩; have HB7 := Aside0.mk (below_step HB5.out hb); clear hb) | fail)
  go_ret
  exact ⟨rfl, HB7.out⟩
set_option maxHeartbeats 4000000 in
theorem news_none1 (side n px py : Int) (w : World) (h : ¬ (1 ≤ side ∧ side ≤ 17179869184 ∧ 1 ≤ n ∧ n ≤ 64)) (c0 : decide (1 ≤ side) = true) (c1 : decide (side ≤ 17179869184) = false) :
    Calls Try.prog 6 #[.int .i64 side, .int .i64 n, .agg #[.int .i64 px, .int .i64 py]] w fun e w' => e = .returned (.bool true) ∧ Below w.heap.size w w' := by
  have HB := Aside0.mk (below_alloc (Below.refl w.heap.size w) (.cells #[.int .i64 px, .int .i64 py] 23))
  have HP := Aside0.mk (blk_new w (.cells #[.int .i64 px, .int .i64 py] 23))
  have HN := Aside0.mk h
  clear h
  go_enter Try.func6, Try.ntmps6
  go_wp2_with (first | (with_reducible go_at_call 8; with_reducible refine (new_none side n _ HN.out).mono ?_; rintro e w1 ⟨rfl, rfl⟩) | (with_reducible go_at_call 9; with_reducible refine (Cell_at _ px py (-1) (-1) false _ (CellAt.nil px py _)).mono ?_; rintro e w2 ⟨rfl, hb⟩; have HB2 := Aside0.mk (below_step HB.out hb); have HP2 := Aside0.mk (blk_below HP.out hb); have p0 : w2.cell? ⟨w.heap.size, 0, none⟩ = some (.int .i64 px) := (blk_cell HP2.out 0).trans rfl; have p1 : w2.cell? ⟨w.heap.size, 1, none⟩ = some (.int .i64 py) := (blk_cell HP2.out 1).trans rfl; clear hb HB HP) | (with_reducible go_at_call 13; with_reducible refine (put_none _ 1 px py (-1) (-1) _ (CellAt.nil px py _)).mono ?_; rintro e w3 ⟨⟨v3, rfl⟩, hb⟩; have HB3 := Aside0.mk (below_step HB2.out hb); have HP3 := Aside0.mk (blk_below HP2.out hb); clear p0 p1; have p0 : w3.cell? ⟨w.heap.size, 0, none⟩ = some (.int .i64 px) := (blk_cell HP3.out 0).trans rfl; have p1 : w3.cell? ⟨w.heap.size, 1, none⟩ = some (.int .i64 py) := (blk_cell HP3.out 1).trans rfl; clear hb HB2 HP2) | (with_reducible go_at_call 15; with_reducible refine (drop_none _ 1 px py (-1) (-1) _ (CellAt.nil px py _)).mono ?_; rintro e w4 ⟨⟨v4, rfl⟩, hb⟩; have HB4 := Aside0.mk (below_step HB3.out hb); have HP4 := Aside0.mk (blk_below HP3.out hb); clear p0 p1; have p0 : w4.cell? ⟨w.heap.size, 0, none⟩ = some (.int .i64 px) := (blk_cell HP4.out 0).trans rfl; have p1 : w4.cell? ⟨w.heap.size, 1, none⟩ = some (.int .i64 py) := (blk_cell HP4.out 1).trans rfl; clear hb HB3 HP3) | (with_reducible go_at_call 12; with_reducible refine (near_off px py (-1) (-1) _ none (CellAt.nil px py _)).mono ?_; rintro e w5 ⟨rfl, hb⟩; have HB5 := Aside0.mk (below_step HB4.out hb); clear hb HB4 HP4 p0 p1) | (with_reducible go_at_call 14; with_reducible refine (len_nil _).mono ?_; rintro e w6 ⟨rfl, rfl⟩) | (with_reducible go_at_call 11; with_reducible refine (lives_c _).mono ?_; rintro e w7 ⟨rfl, hb⟩; have HB7 := Aside0.mk (below_step HB5.out hb); clear hb) | fail)
  go_ret
  exact ⟨rfl, HB7.out⟩
set_option maxHeartbeats 4000000 in
theorem news_none2 (side n px py : Int) (w : World) (h : ¬ (1 ≤ side ∧ side ≤ 17179869184 ∧ 1 ≤ n ∧ n ≤ 64)) (c0 : decide (1 ≤ side) = true) (c1 : decide (side ≤ 17179869184) = true) (c2 : decide (1 ≤ n) = false) :
    Calls Try.prog 6 #[.int .i64 side, .int .i64 n, .agg #[.int .i64 px, .int .i64 py]] w fun e w' => e = .returned (.bool true) ∧ Below w.heap.size w w' := by
  have HB := Aside0.mk (below_alloc (Below.refl w.heap.size w) (.cells #[.int .i64 px, .int .i64 py] 23))
  have HP := Aside0.mk (blk_new w (.cells #[.int .i64 px, .int .i64 py] 23))
  have HN := Aside0.mk h
  clear h
  go_enter Try.func6, Try.ntmps6
  go_wp2_with (first | (with_reducible go_at_call 8; with_reducible refine (new_none side n _ HN.out).mono ?_; rintro e w1 ⟨rfl, rfl⟩) | (with_reducible go_at_call 9; with_reducible refine (Cell_at _ px py (-1) (-1) false _ (CellAt.nil px py _)).mono ?_; rintro e w2 ⟨rfl, hb⟩; have HB2 := Aside0.mk (below_step HB.out hb); have HP2 := Aside0.mk (blk_below HP.out hb); have p0 : w2.cell? ⟨w.heap.size, 0, none⟩ = some (.int .i64 px) := (blk_cell HP2.out 0).trans rfl; have p1 : w2.cell? ⟨w.heap.size, 1, none⟩ = some (.int .i64 py) := (blk_cell HP2.out 1).trans rfl; clear hb HB HP) | (with_reducible go_at_call 13; with_reducible refine (put_none _ 1 px py (-1) (-1) _ (CellAt.nil px py _)).mono ?_; rintro e w3 ⟨⟨v3, rfl⟩, hb⟩; have HB3 := Aside0.mk (below_step HB2.out hb); have HP3 := Aside0.mk (blk_below HP2.out hb); clear p0 p1; have p0 : w3.cell? ⟨w.heap.size, 0, none⟩ = some (.int .i64 px) := (blk_cell HP3.out 0).trans rfl; have p1 : w3.cell? ⟨w.heap.size, 1, none⟩ = some (.int .i64 py) := (blk_cell HP3.out 1).trans rfl; clear hb HB2 HP2) | (with_reducible go_at_call 15; with_reducible refine (drop_none _ 1 px py (-1) (-1) _ (CellAt.nil px py _)).mono ?_; rintro e w4 ⟨⟨v4, rfl⟩, hb⟩; have HB4 := Aside0.mk (below_step HB3.out hb); have HP4 := Aside0.mk (blk_below HP3.out hb); clear p0 p1; have p0 : w4.cell? ⟨w.heap.size, 0, none⟩ = some (.int .i64 px) := (blk_cell HP4.out 0).trans rfl; have p1 : w4.cell? ⟨w.heap.size, 1, none⟩ = some (.int .i64 py) := (blk_cell HP4.out 1).trans rfl; clear hb HB3 HP3) | (with_reducible go_at_call 12; with_reducible refine (near_off px py (-1) (-1) _ none (CellAt.nil px py _)).mono ?_; rintro e w5 ⟨rfl, hb⟩; have HB5 := Aside0.mk (below_step HB4.out hb); clear hb HB4 HP4 p0 p1) | (with_reducible go_at_call 14; with_reducible refine (len_nil _).mono ?_; rintro e w6 ⟨rfl, rfl⟩) | (with_reducible go_at_call 11; with_reducible refine (lives_c _).mono ?_; rintro e w7 ⟨rfl, hb⟩; have HB7 := Aside0.mk (below_step HB5.out hb); clear hb) | fail)
  go_ret
  exact ⟨rfl, HB7.out⟩
set_option maxHeartbeats 4000000 in
theorem news_none3 (side n px py : Int) (w : World) (h : ¬ (1 ≤ side ∧ side ≤ 17179869184 ∧ 1 ≤ n ∧ n ≤ 64)) (c0 : decide (1 ≤ side) = true) (c1 : decide (side ≤ 17179869184) = true) (c2 : decide (1 ≤ n) = true) (c3 : decide (n ≤ 64) = false) :
    Calls Try.prog 6 #[.int .i64 side, .int .i64 n, .agg #[.int .i64 px, .int .i64 py]] w fun e w' => e = .returned (.bool true) ∧ Below w.heap.size w w' := by
  have HB := Aside0.mk (below_alloc (Below.refl w.heap.size w) (.cells #[.int .i64 px, .int .i64 py] 23))
  have HP := Aside0.mk (blk_new w (.cells #[.int .i64 px, .int .i64 py] 23))
  have HN := Aside0.mk h
  clear h
  go_enter Try.func6, Try.ntmps6
  go_wp2_with (first | (with_reducible go_at_call 8; with_reducible refine (new_none side n _ HN.out).mono ?_; rintro e w1 ⟨rfl, rfl⟩) | (with_reducible go_at_call 9; with_reducible refine (Cell_at _ px py (-1) (-1) false _ (CellAt.nil px py _)).mono ?_; rintro e w2 ⟨rfl, hb⟩; have HB2 := Aside0.mk (below_step HB.out hb); have HP2 := Aside0.mk (blk_below HP.out hb); have p0 : w2.cell? ⟨w.heap.size, 0, none⟩ = some (.int .i64 px) := (blk_cell HP2.out 0).trans rfl; have p1 : w2.cell? ⟨w.heap.size, 1, none⟩ = some (.int .i64 py) := (blk_cell HP2.out 1).trans rfl; clear hb HB HP) | (with_reducible go_at_call 13; with_reducible refine (put_none _ 1 px py (-1) (-1) _ (CellAt.nil px py _)).mono ?_; rintro e w3 ⟨⟨v3, rfl⟩, hb⟩; have HB3 := Aside0.mk (below_step HB2.out hb); have HP3 := Aside0.mk (blk_below HP2.out hb); clear p0 p1; have p0 : w3.cell? ⟨w.heap.size, 0, none⟩ = some (.int .i64 px) := (blk_cell HP3.out 0).trans rfl; have p1 : w3.cell? ⟨w.heap.size, 1, none⟩ = some (.int .i64 py) := (blk_cell HP3.out 1).trans rfl; clear hb HB2 HP2) | (with_reducible go_at_call 15; with_reducible refine (drop_none _ 1 px py (-1) (-1) _ (CellAt.nil px py _)).mono ?_; rintro e w4 ⟨⟨v4, rfl⟩, hb⟩; have HB4 := Aside0.mk (below_step HB3.out hb); have HP4 := Aside0.mk (blk_below HP3.out hb); clear p0 p1; have p0 : w4.cell? ⟨w.heap.size, 0, none⟩ = some (.int .i64 px) := (blk_cell HP4.out 0).trans rfl; have p1 : w4.cell? ⟨w.heap.size, 1, none⟩ = some (.int .i64 py) := (blk_cell HP4.out 1).trans rfl; clear hb HB3 HP3) | (with_reducible go_at_call 12; with_reducible refine (near_off px py (-1) (-1) _ none (CellAt.nil px py _)).mono ?_; rintro e w5 ⟨rfl, hb⟩; have HB5 := Aside0.mk (below_step HB4.out hb); clear hb HB4 HP4 p0 p1) | (with_reducible go_at_call 14; with_reducible refine (len_nil _).mono ?_; rintro e w6 ⟨rfl, rfl⟩) | (with_reducible go_at_call 11; with_reducible refine (lives_c _).mono ?_; rintro e w7 ⟨rfl, hb⟩; have HB7 := Aside0.mk (below_step HB5.out hb); clear hb) | fail)
  go_ret
  exact ⟨rfl, HB7.out⟩
theorem news_calls (side n px py : Int) (w : World) (hs : (Lit.int .i64 side).wf = true) (hn : (Lit.int .i64 n).wf = true) (hx : (Lit.int .i64 px).wf = true) (hy : (Lit.int .i64 py).wf = true) :
    Calls Try.prog 6 #[.int .i64 side, .int .i64 n, .agg #[.int .i64 px, .int .i64 py]] w fun e w' => e = .returned (.bool true) ∧ Below w.heap.size w w' := by
  by_cases a1 : 1 ≤ side
  case neg => exact news_none0 side n px py w (fun h => a1 h.1) (decide_eq_false a1)
  by_cases a2 : side ≤ 17179869184
  case neg => exact news_none1 side n px py w (fun h => a2 h.2.1) (decide_eq_true a1) (decide_eq_false a2)
  by_cases a3 : 1 ≤ n
  case neg => exact news_none2 side n px py w (fun h => a3 h.2.2.1) (decide_eq_true a1) (decide_eq_true a2) (decide_eq_false a3)
  by_cases a4 : n ≤ 64
  case neg => exact news_none3 side n px py w (fun h => a4 h.2.2.2) (decide_eq_true a1) (decide_eq_true a2) (decide_eq_true a3) (decide_eq_false a4)
  have m0 : 0 ≤ n * n := Int.mul_nonneg (by omega) (by omega)
  exact news_some side n px py (n * n).toNat w a1 a2 a3 a4 (by omega)
end Go.Proofs.Ytfangodjmppooaa.Rd
