/- The reference's bounds of a point's numbers (In, Can): walked. -/
import Derived.Test.YtgjpemfjccajkaaWholeB
import Derived.Deep.RegionWith
namespace Go.Proofs.Ytgjpemfjccajkaa.Whole
open Go Go.RowKit Go.Proofs.YtgjpemfjccajkaaW.PrintWords Go.Proofs.YtgjpemfjccajkaaW.PrintLast Go.Proofs.YtgjpemfjccajkaaW.PrintMore Go.Proofs.Ytgjpemfjccajkaa.F Go.Proofs.Ytgjpemfjccajkaa.Dig
set_option linter.unusedVariables false
theorem bthen {w w1 w2 : World} (k : Below w1.heap.size w1 w2) (h : Below w.heap.size w w1) : Below w.heap.size w w2 := below_then h h.size k
theorem one_new (w : World) (o0 : Obj) : (w.alloc o0).heap[w.heap.size]? = some o0 ∧ Below w.heap.size w (w.alloc o0) := ⟨blk_new _ _, (Below.refl _ _).alloc (Nat.le_refl _) _⟩

/-! ### In -/
set_option maxHeartbeats 1000000 in
theorem in_high (s : Int) (A : Option Addr) (l c : Nat) (n : Int) (hn : Sm n) (q1 : Int) (hq1 : Aside0 ((n - 1099511627776).sign = q1)) (h1 : decide (q1 ≤ 0) = false) (w : World) (h : NI w (.agg #[.int .i64 s, .slice A l c]) n) :
    Calls Try.prog 32 #[.agg #[.int .i64 s, .slice A l c]] w fun e w' => e = .returned (.bool false) ∧ Below w.heap.size w w' := by
  have HA := Aside0.mk (fun (W : World) (hb : Below w.heap.size w W) => h.below hb)
  clear h
  go_enter Try.func32, Try.ntmps32
  go_wp2_with fail
  obtain ⟨n0, bw⟩ := one_new w (.cells #[.int .i64 s, .slice A l c] 48)
  generalize (w.alloc (.cells #[.int .i64 s, .slice A l c] 48)) = W at n0 bw ⊢
  have Hb := Aside0.mk bw
  have d0 : W.cell? ⟨w.heap.size, 0, none⟩ = some (.int .i64 s) := (blk_cell n0 0).trans rfl
  have d1 : W.cell? ⟨w.heap.size, 1, none⟩ = some (.slice A l c) := (blk_cell n0 1).trans rfl
  clear n0 bw
  go_region_with (first | (go_at_call 27; refine (long_c _ ?hw _).mono ?_; (case hw => decide); rintro e w1 ⟨v, rfl, hN, hb⟩; have HN := Aside0.mk hN; clear hN; obtain ⟨s1, A1, l1, cc1, rfl⟩ := HN.out.shape; have d0 := pw_cell_below hb d0; have d1 := pw_cell_below hb d1; have Hb := Aside0.mk (bthen (w := w) hb (by repeat (first | exact Hb.out | apply below_drew | apply pw_below_drewN))); clear hb) | (go_at_call 40; refine (cmp_c _ _ n 1099511627776 hn (Sm.of (by decide) (by decide)) _ (HA.out _ Hb.out) HN.out).mono ?_; rw [hq1.out]; rintro e w1 ⟨rfl, hb⟩; have d0 := pw_cell_below hb d0; have d1 := pw_cell_below hb d1; have Hb := Aside0.mk (bthen (w := w) hb Hb.out); clear hb))
  all_goals go_wp2
  all_goals trace_state
  all_goals go_ret
  all_goals exact ⟨rfl, Hb.out⟩
set_option maxHeartbeats 1000000 in
theorem in_low (s : Int) (A : Option Addr) (l c : Nat) (n : Int) (hn : Sm n) (q1 q2 : Int) (hq1 : Aside0 ((n - 1099511627776).sign = q1)) (h1 : decide (q1 ≤ 0) = true) (hq2 : Aside0 ((n - -1099511627776).sign = q2)) (w : World) (h : NI w (.agg #[.int .i64 s, .slice A l c]) n) :
    Calls Try.prog 32 #[.agg #[.int .i64 s, .slice A l c]] w fun e w' => e = .returned (.bool (decide (0 ≤ q2))) ∧ Below w.heap.size w w' := by
  have HA := Aside0.mk (fun (W : World) (hb : Below w.heap.size w W) => h.below hb)
  clear h
  go_enter Try.func32, Try.ntmps32
  go_wp2_with fail
  obtain ⟨n0, bw⟩ := one_new w (.cells #[.int .i64 s, .slice A l c] 48)
  generalize (w.alloc (.cells #[.int .i64 s, .slice A l c] 48)) = W at n0 bw ⊢
  have Hb := Aside0.mk bw
  have d0 : W.cell? ⟨w.heap.size, 0, none⟩ = some (.int .i64 s) := (blk_cell n0 0).trans rfl
  have d1 : W.cell? ⟨w.heap.size, 1, none⟩ = some (.slice A l c) := (blk_cell n0 1).trans rfl
  clear n0 bw
  go_region_held3 (fun w' => w'.cell? ⟨w.heap.size, 0, none⟩ = some (.int .i64 s) ∧ w'.cell? ⟨w.heap.size, 1, none⟩ = some (.slice A l c)) (first | exact ⟨d0, d1⟩)
    (first | (go_at_call 27; refine (long_c _ ?hw _).mono ?_; (case hw => decide); rintro e w1 ⟨v, rfl, hN, hb⟩; have HN := Aside0.mk hN; clear hN; obtain ⟨s1, A1, l1, cc1, rfl⟩ := HN.out.shape; have d0 := pw_cell_below hb d0; have d1 := pw_cell_below hb d1; have Hb := Aside0.mk (bthen (w := w) hb (by repeat (first | exact Hb.out | apply below_drew | apply pw_below_drewN))); clear hb) | (go_at_call 40; refine (cmp_c _ _ n 1099511627776 hn (Sm.of (by decide) (by decide)) _ (HA.out _ Hb.out) HN.out).mono ?_; rw [hq1.out]; rintro e w1 ⟨rfl, hb⟩; have d0 := pw_cell_below hb d0; have d1 := pw_cell_below hb d1; have Hb := Aside0.mk (bthen (w := w) hb Hb.out); clear hb) | (go_at_call 40; refine (cmp_c _ _ n (-1099511627776) hn (Sm.of (by decide) (by decide)) _ (HA.out _ Hb.out) HN.out).mono ?_; rw [hq2.out]; rintro e w1 ⟨rfl, hb⟩; have d0 := pw_cell_below hb d0; have d1 := pw_cell_below hb d1; have Hb := Aside0.mk (bthen (w := w) hb Hb.out); clear hb))
  go_wp2
  go_ret
  exact ⟨rfl, Hb.out⟩
/-- In: between -2^40 and 2^40. -/
theorem in_c (v : Value) (n : Int) (hn : Sm n) (w : World) (h : NI w v n) :
    Calls Try.prog 32 #[v] w fun e w' => e = .returned (.bool (decide (-1099511627776 ≤ n ∧ n ≤ 1099511627776))) ∧ Below w.heap.size w w' := by
  obtain ⟨s, A, l, c, rfl⟩ := h.shape
  by_cases h1 : n ≤ 1099511627776
  · refine (in_low s A l c n hn _ _ ⟨rfl⟩ (decide_eq_true (by rw [sign_eq]; omega)) ⟨rfl⟩ w h).mono fun e w' ⟨he, hb⟩ => ⟨?_, hb⟩
    rw [he]
    congr 2
    rw [decide_eq_decide, sign_eq]
    omega
  · refine (in_high s A l c n hn _ ⟨rfl⟩ (decide_eq_false (by rw [sign_eq]; omega)) w h).mono fun e w' ⟨he, hb⟩ => ⟨?_, hb⟩
    rw [he]
    congr 2
    exact (decide_eq_false (by omega)).symm
end Go.Proofs.Ytgjpemfjccajkaa.Whole
