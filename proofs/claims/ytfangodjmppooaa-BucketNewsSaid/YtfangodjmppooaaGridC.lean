/- cell, where there is a grid (printed by gen_grid.py). -/
import Derived.Test.YtfangodjmppooaaGrid
import Derived.BigQuiet
namespace Go.Proofs.Ytfangodjmppooaa.Rd
open Go Go.RowKit Go.Proofs.YtfangodjmppooaaW.PrintWords Go.Proofs.YtfangodjmppooaaW.PrintLast Go.Proofs.YtfangodjmppooaaW.PrintMore Go.Proofs.Ytfangodjmppooaa.F
set_option linter.unusedVariables false
set_option linter.unusedSimpArgs false
set_option maxHeartbeats 8000000 in
set_option maxRecDepth 100000 in
theorem cell_c (k g : Nat) (side n px py q1 q2 r1 r2 : Int) (ok : Bool) (w : World) (hg : g < w.heap.size) (hs1 : 1 ≤ side) (hn1 : 1 ≤ n) (hn2 : n ≤ 64) (hq1 : ok = true → 0 ≤ q1 ∧ q1 < side ∧ 0 ≤ q2 ∧ q2 < side ∧ side ≤ 100000000000) (hc0 : w.cell? ⟨g, 0, none⟩ = some (.int .i64 side)) (hc1 : w.cell? ⟨g, 1, none⟩ = some (.int .i64 n)) (h : lift_Home.f k px py side = some (q1, q2, r1, r2, ok)) :
    Calls Try.prog 19 #[.pointer (some ⟨g, 0, none⟩), .agg #[.int .i64 px, .int .i64 py]] w fun e w' => e = .returned (.tuple #[.int .i64 (if ok then q1 * n / side else -1), .int .i64 (if ok then q2 * n / side else -1), .bool ok]) ∧ Below w.heap.size w w' := by
  have HH := Aside0.mk h
  have HQ := Aside0.mk hq1
  clear h hq1
  go_enter Try.func19, Try.ntmps19
  go_wp2_with fail
  have HB := below_alloc (Below.refl w.heap.size w) (.cells #[.int .i64 px, .int .i64 py] 23)
  have HP := Aside0.mk (blk_new w (.cells #[.int .i64 px, .int .i64 py] 23))
  replace hc0 := (HB.cell (p := ⟨g, 0, none⟩) hg).trans hc0
  replace hc1 := (HB.cell (p := ⟨g, 1, none⟩) hg).trans hc1
  have hg0 : g < (w.alloc (.cells #[.int .i64 px, .int .i64 py] 23)).heap.size := by have := HB.size; omega
  have hsz := HB.size
  obtain ⟨b3, eb3⟩ : ∃ b, w.heap.size = b := ⟨_, rfl⟩
  rw [eb3] at HP ⊢
  generalize w.alloc (.cells #[.int .i64 px, .int .i64 py] 23) = w0 at HB HP hc0 hc1 hg0 hsz ⊢
  rename_i K0 hK0
  have FIN : ∀ (b7 b8 : Nat) (W' : World), Below w0.heap.size w0 W' → W'.heap[b7]? = some (.cells #[.int .i64 q1, .int .i64 q2] 23 (0, 0)) → K0 { tmps := #[.pointer (some ⟨g, 0, none⟩), .agg #[.int .i64 px, .int .i64 py], undef, .pointer (some ⟨b3, 0, none⟩), .int .i64 0, .int .i64 0, .bool false, .pointer (some ⟨b7, 0, none⟩), .pointer (some ⟨b8, 0, none⟩), .bool ok, .pointer (some ⟨g, 0, none⟩), .bool false, .tuple #[.agg #[.int .i64 q1, .int .i64 q2], .agg #[.int .i64 r1, .int .i64 r2], .bool ok], .agg #[.int .i64 px, .int .i64 py], .pointer (some ⟨g, 0, none⟩), .pointer (some ⟨g, 0, none⟩), .pointer (some ⟨g, 0, none⟩), .int .i64 side, .tuple #[.agg #[.int .i64 q1, .int .i64 q2], .agg #[.int .i64 r1, .int .i64 r2], .bool ok], .agg #[.int .i64 q1, .int .i64 q2], .agg #[.int .i64 r1, .int .i64 r2], .bool ok, undef, undef, undef, undef, undef, undef, undef, undef, undef, undef, undef, undef, undef, undef, undef, undef, undef, undef, undef, undef, undef, undef, undef, undef, undef, undef], defers := [] } W' := by
    intro b7 b8 W' hs hv
    refine hK0 _ _ ?_
    have z0 := (hs.cell (p := ⟨g, 0, none⟩) hg0).trans hc0
    have z1 := (hs.cell (p := ⟨g, 1, none⟩) hg0).trans hc1
    have HS := Aside0.mk (HB.trans (below_weaken2 hs hsz))
    have y0 := (blk_cell hv 0).trans rfl
    have y1 := (blk_cell hv 1).trans rfl
    clear hs hv hc0 hc1
    cases ok with
    | false =>
      go_wp2_with fail
      go_ret3
      exact ⟨rfl, by rw [← eb3]; exact HS.out⟩
    | true =>
      obtain ⟨p0, p1, p2, p3, p4⟩ := HQ.out rfl
      have m0 : 0 ≤ q1 * n := Int.mul_nonneg p0 (by omega)
      have m1 : q1 * n ≤ 100000000000 * 64 := Int.mul_le_mul (by omega) (by omega) (by omega) (by omega)
      have m2 : 0 ≤ q2 * n := Int.mul_nonneg p2 (by omega)
      have m3 : q2 * n ≤ 100000000000 * 64 := Int.mul_le_mul (by omega) (by omega) (by omega) (by omega)
      have t1 : Int.tdiv (q1 * n) side = q1 * n / side := Int.tdiv_eq_ediv_of_nonneg m0
      have t2 : Int.tdiv (q2 * n) side = q2 * n / side := Int.tdiv_eq_ediv_of_nonneg m2
      have d1 : 0 ≤ q1 * n / side := Int.ediv_nonneg m0 (by omega)
      have d2 : 0 ≤ q2 * n / side := Int.ediv_nonneg m2 (by omega)
      have d3 : q1 * n / side ≤ q1 * n := Int.ediv_le_self _ m0
      have d4 : q2 * n / side ≤ q2 * n := Int.ediv_le_self _ m2
      have w1 : IntKind.i64.wrap (q1 * n) = q1 * n := w64s (by omega)
      have w2 : IntKind.i64.wrap (q2 * n) = q2 * n := w64s (by omega)
      have w3 : IntKind.i64.wrap (q1 * n / side) = q1 * n / side := w64s (by omega)
      have w4 : IntKind.i64.wrap (q2 * n / side) = q2 * n / side := w64s (by omega)
      have nz : (side == 0) = false := beq_eq_false_iff_ne.mpr (by omega)
      have nz2 : ¬ side = 0 := by omega
      clear m0 m1 m2 m3 d1 d2 d3 d4 p0 p1 p2 p3 p4
      go_wp2_with fail
      go_quiet (fail)
      go_wp2_with fail
      go_ret3
      exact ⟨rfl, by rw [← eb3]; exact pw_below_drewN HS.out _⟩
  refine start_ (n := 15) (S := fun w' => Below w0.heap.size w0 w') (ds := []) #[false, false, false, false, false, false, false, false, false, false, false, false, false, false, false] (by kernel_rfl) rfl rfl (below_drew (Below.refl _ _)) (fun hHeld => ?_)
  refine take_ (i := 0) (N := some 13) (v := ?_) (a' := ?_) #[true, false, false, false, false, false, false, false, false, false, false, false, false, false, false] rfl rfl (by kernel_rfl) (fun _ _ _ h => h) (Or.inl ⟨by rfl, ?_⟩) hHeld ?_ ?_
  rotate_left
  · intro w' s0
    have z0 := (blk_cell (blk_below HP.out s0) 0).trans rfl
    have z1 := (blk_cell (blk_below HP.out s0) 1).trans rfl
    go_simp
    with_reducible rfl
  rotate_left
  · simp only [Act.put, List.setIfInBounds_toArray, List.set_cons_zero, List.set_cons_succ, i64_w, i32_w]
    rfl
  refine pure_ (i := 1) (N := some 14) (v := ?_) (a' := ?_) #[true, true, false, false, false, false, false, false, false, false, false, false, false, false, false] rfl rfl (by kernel_rfl) (fun _ _ _ h => h) (Or.inl ⟨by rfl, ?_⟩) ?_ ?_
  rotate_left
  · intro w'
    go_simp
    with_reducible rfl
  rotate_left
  · simp only [Act.put, List.setIfInBounds_toArray, List.set_cons_zero, List.set_cons_succ, i64_w, i32_w]
    rfl
  refine pure_ (i := 2) (N := some 15) (v := ?_) (a' := ?_) #[true, true, true, false, false, false, false, false, false, false, false, false, false, false, false] rfl rfl (by kernel_rfl) (fun _ _ _ h => h) (Or.inl ⟨by rfl, ?_⟩) ?_ ?_
  rotate_left
  · intro w'
    go_simp
    with_reducible rfl
  rotate_left
  · simp only [Act.put, List.setIfInBounds_toArray, List.set_cons_zero, List.set_cons_succ, i64_w, i32_w]
    rfl
  refine pure_ (i := 3) (N := some 16) (v := ?_) (a' := ?_) #[true, true, true, true, false, false, false, false, false, false, false, false, false, false, false] rfl rfl (by kernel_rfl) (fun _ _ _ h => h) (Or.inl ⟨by rfl, ?_⟩) ?_ ?_
  rotate_left
  · intro w'
    go_simp
    with_reducible rfl
  rotate_left
  · simp only [Act.put, List.setIfInBounds_toArray, List.set_cons_zero, List.set_cons_succ, i64_w, i32_w]
    rfl
  refine take_ (i := 4) (N := some 17) (v := ?_) (a' := ?_) #[true, true, true, true, true, false, false, false, false, false, false, false, false, false, false] rfl rfl (by kernel_rfl) (fun _ _ _ h => h) (Or.inl ⟨by rfl, ?_⟩) hHeld ?_ ?_
  rotate_left
  · intro w' s0
    have z0 := (s0.cell (p := ⟨g, 0, none⟩) hg0).trans hc0
    go_simp
    with_reducible rfl
  rotate_left
  · simp only [Act.put, List.setIfInBounds_toArray, List.set_cons_zero, List.set_cons_succ, i64_w, i32_w]
    rfl
  have s1 := hHeld
  clear hHeld
  generalize w0.drew = w1 at s1 ⊢
  refine wpAnyLast_ready (rs := [5, 10, 11]) (by kernel_rfl) (by simp) ?_
  refine AllReadyL.cons (i := 5) rfl (by decide) (fun K hK => ?_) ?_
  · refine goes_ Try.func28 (by kernel_rfl) rfl #[.agg #[.int .i64 px, .int .i64 py], .int .i64 side] (by rfl) rfl rfl (by (try simp only [List.map_toArray, List.map_cons, List.map_nil]); first | done | rfl) ?_
    with_reducible refine (lift_Home.calls k px py side q1 q2 r1 r2 ok _ HH.out).mono ?_
    rintro e w2 ⟨rfl, hb2⟩
    have s2 := below_then s1 s1.size hb2
    refine ⟨_, rfl, ?_⟩
    refine hK.out _ _ s2 (fun hHeld => ?_)
    clear hK K hHeld
    refine norm_ (a' := ?_) ?_ ?_
    rotate_left
    · show Act.put _ (some 18) _ = _
      simp only [Act.put, List.setIfInBounds_toArray, List.set_cons_zero, List.set_cons_succ, i64_w, i32_w]
      rfl
    refine pure_ (i := 6) (N := some 12) (v := ?_) (a' := ?_) #[true, true, true, true, true, true, true, false, false, false, false, false, false, false, false] rfl rfl (by kernel_rfl) (fun _ _ _ h => h) (Or.inl ⟨by rfl, ?_⟩) ?_ ?_
    rotate_left
    · intro w'
      go_simp
      with_reducible rfl
    rotate_left
    · simp only [Act.put, List.setIfInBounds_toArray, List.set_cons_zero, List.set_cons_succ, i64_w, i32_w]
      rfl
    refine pure_ (i := 7) (N := some 19) (v := ?_) (a' := ?_) #[true, true, true, true, true, true, true, true, false, false, false, false, false, false, false] rfl rfl (by kernel_rfl) (fun _ _ _ h => h) (Or.inl ⟨by rfl, ?_⟩) ?_ ?_
    rotate_left
    · intro w'
      go_simp
      with_reducible rfl
    rotate_left
    · simp only [Act.put, List.setIfInBounds_toArray, List.set_cons_zero, List.set_cons_succ, i64_w, i32_w]
      rfl
    refine pure_ (i := 8) (N := some 20) (v := ?_) (a' := ?_) #[true, true, true, true, true, true, true, true, true, false, false, false, false, false, false] rfl rfl (by kernel_rfl) (fun _ _ _ h => h) (Or.inl ⟨by rfl, ?_⟩) ?_ ?_
    rotate_left
    · intro w'
      go_simp
      with_reducible rfl
    rotate_left
    · simp only [Act.put, List.setIfInBounds_toArray, List.set_cons_zero, List.set_cons_succ, i64_w, i32_w]
      rfl
    refine pure_ (i := 9) (N := some 21) (v := ?_) (a' := ?_) #[true, true, true, true, true, true, true, true, true, true, false, false, false, false, false] rfl rfl (by kernel_rfl) (fun _ _ _ h => h) (Or.inl ⟨by rfl, ?_⟩) ?_ ?_
    rotate_left
    · intro w'
      go_simp
      with_reducible rfl
    rotate_left
    · simp only [Act.put, List.setIfInBounds_toArray, List.set_cons_zero, List.set_cons_succ, i64_w, i32_w]
      rfl
    refine wpAnyLast_ready (rs := [10, 11]) (by kernel_rfl) (by simp) ?_
    refine AllReadyL.cons (i := 10) rfl (by decide) (fun K hK => ?_) ?_
    · refine value_ (w1 := ?_) (v := ?_) (by rfl) rfl ?_ ?_
      rotate_left 2
      · go_simp
        constructor
        · rfl
        · rfl
      have s3 := below_then s2 s2.size (below_alloc (Below.refl w2.heap.size w2) (.cells #[.int .i64 0, .int .i64 0] 23))
      have hb3 := below_alloc (Below.refl w2.heap.size w2) (.cells #[.int .i64 0, .int .i64 0] 23)
      have v10 := blk_new w2 (.cells #[.int .i64 0, .int .i64 0] 23)
      refine hK.out _ _ s3 (fun hHeld => ?_)
      clear hK K hHeld
      refine norm_ (a' := ?_) ?_ ?_
      rotate_left
      · show Act.put _ (some 7) _ = _
        simp only [Act.put, List.setIfInBounds_toArray, List.set_cons_zero, List.set_cons_succ, i64_w, i32_w]
        rfl
      obtain ⟨b7, eb7⟩ : ∃ b, b = w2.heap.size := ⟨_, rfl⟩
      have lb7 : w0.heap.size ≤ b7 := by rw [eb7]; exact s2.size
      rw [← eb7] at v10 ⊢
      clear eb7
      generalize w2.alloc (.cells #[.int .i64 0, .int .i64 0] 23) = w3 at s3 hb3 v10 ⊢
      refine one_ (i := 11) (N := some 8) #[true, true, true, true, true, true, true, true, true, true, true, true, false, false, false] rfl rfl (by kernel_rfl) (by decide) (fun K hK => ?_)
      refine value_ (w1 := ?_) (v := ?_) (by rfl) rfl ?_ ?_
      rotate_left 2
      · go_simp
        constructor
        · rfl
        · rfl
      have s4 := below_then s3 s3.size (below_alloc (Below.refl w3.heap.size w3) (.cells #[.int .i64 0, .int .i64 0] 52))
      have hb4 := below_alloc (Below.refl w3.heap.size w3) (.cells #[.int .i64 0, .int .i64 0] 52)
      have v11 := blk_new w3 (.cells #[.int .i64 0, .int .i64 0] 52)
      refine hK.out _ _ s4 (fun hHeld => ?_)
      clear hK K hHeld
      refine norm_ (a' := ?_) ?_ ?_
      rotate_left
      · show Act.put _ (some 8) _ = _
        simp only [Act.put, List.setIfInBounds_toArray, List.set_cons_zero, List.set_cons_succ, i64_w, i32_w]
        rfl
      obtain ⟨b8, eb8⟩ : ∃ b, b = w3.heap.size := ⟨_, rfl⟩
      have lb8 : w0.heap.size ≤ b8 := by rw [eb8]; exact s3.size
      rw [← eb8] at v11 ⊢
      clear eb8
      generalize w3.alloc (.cells #[.int .i64 0, .int .i64 0] 52) = w4 at s4 hb4 v11 ⊢
      have V7 := (blk_below v10 hb4)
      have V8 := v11
      have c0 := (blk_cell V7 0).trans rfl
      have c1 := (blk_cell V7 1).trans rfl
      have f0 := blk_frozen V7 0
      have f1 := blk_frozen V7 1
      refine one_ (i := 12) (N := none) #[true, true, true, true, true, true, true, true, true, true, true, true, true, false, false] rfl rfl (by kernel_rfl) (by decide) (fun K hK => ?_)
      refine skip_ (w1 := ?_) (by rfl) rfl ?_ ?_
      rotate_left
      · go_simp
        rfl
      have s5 := below_set (j := 1) (v := .int .i64 q2) (below_set (j := 0) (v := .int .i64 q1) s4 lb7) lb7
      have V4 := blk_put (cs' := #[.int .i64 q1, .int .i64 q2]) (blk_put (cs' := #[.int .i64 q1, .int .i64 0]) V7 0 (.int .i64 q1) rfl) 1 (.int .i64 q2) rfl
      have O4 := blk_far (blk_far (p := ⟨b7, 0, none⟩) V8 (blk_ne V8 V7 (by decide)) (.int .i64 q1)) (p := ⟨b7, 1, none⟩) (blk_ne V8 V7 (by decide)) (.int .i64 q2)
      refine hK.out _ _ s5 (fun hHeld => ?_)
      clear hK K hHeld c0 c1 f0 f1
      generalize (w4.setCell ⟨b7, 0, none⟩ (.int .i64 q1)).setCell ⟨b7, 1, none⟩ (.int .i64 q2) = w5 at s5 V4 O4 ⊢
      have c0 := (blk_cell O4 0).trans rfl
      have c1 := (blk_cell O4 1).trans rfl
      have f0 := blk_frozen O4 0
      have f1 := blk_frozen O4 1
      refine one_ (i := 13) (N := none) #[true, true, true, true, true, true, true, true, true, true, true, true, true, true, false] rfl rfl (by kernel_rfl) (by decide) (fun K hK => ?_)
      refine skip_ (w1 := ?_) (by rfl) rfl ?_ ?_
      rotate_left
      · go_simp
        rfl
      have s6 := below_set (j := 1) (v := .int .i64 r2) (below_set (j := 0) (v := .int .i64 r1) s5 lb8) lb8
      have V5 := blk_put (cs' := #[.int .i64 r1, .int .i64 r2]) (blk_put (cs' := #[.int .i64 r1, .int .i64 0]) O4 0 (.int .i64 r1) rfl) 1 (.int .i64 r2) rfl
      have O5 := blk_far (blk_far (p := ⟨b8, 0, none⟩) V4 (blk_ne V4 O4 (by decide)) (.int .i64 r1)) (p := ⟨b8, 1, none⟩) (blk_ne V4 O4 (by decide)) (.int .i64 r2)
      refine hK.out _ _ s6 (fun hHeld => ?_)
      clear hK K hHeld c0 c1 f0 f1
      generalize (w5.setCell ⟨b8, 0, none⟩ (.int .i64 r1)).setCell ⟨b8, 1, none⟩ (.int .i64 r2) = w6 at s6 V5 O5 ⊢
      refine pure_ (i := 14) (N := some 9) (v := ?_) (a' := ?_) #[true, true, true, true, true, true, true, true, true, true, true, true, true, true, true] rfl rfl (by kernel_rfl) (fun _ _ _ h => h) (Or.inl ⟨by rfl, ?_⟩) ?_ ?_
      rotate_left
      · intro w'
        go_simp
        with_reducible rfl
      rotate_left
      · simp only [Act.put, List.setIfInBounds_toArray, List.set_cons_zero, List.set_cons_succ, i64_w, i32_w]
        rfl
      refine done_ (by kernel_rfl) ?_
      exact FIN b7 b8 _ s6 O5
    refine AllReadyL.cons (i := 11) rfl (by decide) (fun K hK => ?_) ?_
    · refine value_ (w1 := ?_) (v := ?_) (by rfl) rfl ?_ ?_
      rotate_left 2
      · go_simp
        constructor
        · rfl
        · rfl
      have s3 := below_then s2 s2.size (below_alloc (Below.refl w2.heap.size w2) (.cells #[.int .i64 0, .int .i64 0] 52))
      have hb3 := below_alloc (Below.refl w2.heap.size w2) (.cells #[.int .i64 0, .int .i64 0] 52)
      have v11 := blk_new w2 (.cells #[.int .i64 0, .int .i64 0] 52)
      refine hK.out _ _ s3 (fun hHeld => ?_)
      clear hK K hHeld
      refine norm_ (a' := ?_) ?_ ?_
      rotate_left
      · show Act.put _ (some 8) _ = _
        simp only [Act.put, List.setIfInBounds_toArray, List.set_cons_zero, List.set_cons_succ, i64_w, i32_w]
        rfl
      obtain ⟨b8, eb8⟩ : ∃ b, b = w2.heap.size := ⟨_, rfl⟩
      have lb8 : w0.heap.size ≤ b8 := by rw [eb8]; exact s2.size
      rw [← eb8] at v11 ⊢
      clear eb8
      generalize w2.alloc (.cells #[.int .i64 0, .int .i64 0] 52) = w3 at s3 hb3 v11 ⊢
      refine one_ (i := 10) (N := some 7) #[true, true, true, true, true, true, true, true, true, true, true, true, false, false, false] rfl rfl (by kernel_rfl) (by decide) (fun K hK => ?_)
      refine value_ (w1 := ?_) (v := ?_) (by rfl) rfl ?_ ?_
      rotate_left 2
      · go_simp
        constructor
        · rfl
        · rfl
      have s4 := below_then s3 s3.size (below_alloc (Below.refl w3.heap.size w3) (.cells #[.int .i64 0, .int .i64 0] 23))
      have hb4 := below_alloc (Below.refl w3.heap.size w3) (.cells #[.int .i64 0, .int .i64 0] 23)
      have v10 := blk_new w3 (.cells #[.int .i64 0, .int .i64 0] 23)
      refine hK.out _ _ s4 (fun hHeld => ?_)
      clear hK K hHeld
      refine norm_ (a' := ?_) ?_ ?_
      rotate_left
      · show Act.put _ (some 7) _ = _
        simp only [Act.put, List.setIfInBounds_toArray, List.set_cons_zero, List.set_cons_succ, i64_w, i32_w]
        rfl
      obtain ⟨b7, eb7⟩ : ∃ b, b = w3.heap.size := ⟨_, rfl⟩
      have lb7 : w0.heap.size ≤ b7 := by rw [eb7]; exact s3.size
      rw [← eb7] at v10 ⊢
      clear eb7
      generalize w3.alloc (.cells #[.int .i64 0, .int .i64 0] 23) = w4 at s4 hb4 v10 ⊢
      have V7 := v10
      have V8 := (blk_below v11 hb4)
      have c0 := (blk_cell V7 0).trans rfl
      have c1 := (blk_cell V7 1).trans rfl
      have f0 := blk_frozen V7 0
      have f1 := blk_frozen V7 1
      refine one_ (i := 12) (N := none) #[true, true, true, true, true, true, true, true, true, true, true, true, true, false, false] rfl rfl (by kernel_rfl) (by decide) (fun K hK => ?_)
      refine skip_ (w1 := ?_) (by rfl) rfl ?_ ?_
      rotate_left
      · go_simp
        rfl
      have s5 := below_set (j := 1) (v := .int .i64 q2) (below_set (j := 0) (v := .int .i64 q1) s4 lb7) lb7
      have V4 := blk_put (cs' := #[.int .i64 q1, .int .i64 q2]) (blk_put (cs' := #[.int .i64 q1, .int .i64 0]) V7 0 (.int .i64 q1) rfl) 1 (.int .i64 q2) rfl
      have O4 := blk_far (blk_far (p := ⟨b7, 0, none⟩) V8 (blk_ne V8 V7 (by decide)) (.int .i64 q1)) (p := ⟨b7, 1, none⟩) (blk_ne V8 V7 (by decide)) (.int .i64 q2)
      refine hK.out _ _ s5 (fun hHeld => ?_)
      clear hK K hHeld c0 c1 f0 f1
      generalize (w4.setCell ⟨b7, 0, none⟩ (.int .i64 q1)).setCell ⟨b7, 1, none⟩ (.int .i64 q2) = w5 at s5 V4 O4 ⊢
      have c0 := (blk_cell O4 0).trans rfl
      have c1 := (blk_cell O4 1).trans rfl
      have f0 := blk_frozen O4 0
      have f1 := blk_frozen O4 1
      refine one_ (i := 13) (N := none) #[true, true, true, true, true, true, true, true, true, true, true, true, true, true, false] rfl rfl (by kernel_rfl) (by decide) (fun K hK => ?_)
      refine skip_ (w1 := ?_) (by rfl) rfl ?_ ?_
      rotate_left
      · go_simp
        rfl
      have s6 := below_set (j := 1) (v := .int .i64 r2) (below_set (j := 0) (v := .int .i64 r1) s5 lb8) lb8
      have V5 := blk_put (cs' := #[.int .i64 r1, .int .i64 r2]) (blk_put (cs' := #[.int .i64 r1, .int .i64 0]) O4 0 (.int .i64 r1) rfl) 1 (.int .i64 r2) rfl
      have O5 := blk_far (blk_far (p := ⟨b8, 0, none⟩) V4 (blk_ne V4 O4 (by decide)) (.int .i64 r1)) (p := ⟨b8, 1, none⟩) (blk_ne V4 O4 (by decide)) (.int .i64 r2)
      refine hK.out _ _ s6 (fun hHeld => ?_)
      clear hK K hHeld c0 c1 f0 f1
      generalize (w5.setCell ⟨b8, 0, none⟩ (.int .i64 r1)).setCell ⟨b8, 1, none⟩ (.int .i64 r2) = w6 at s6 V5 O5 ⊢
      refine pure_ (i := 14) (N := some 9) (v := ?_) (a' := ?_) #[true, true, true, true, true, true, true, true, true, true, true, true, true, true, true] rfl rfl (by kernel_rfl) (fun _ _ _ h => h) (Or.inl ⟨by rfl, ?_⟩) ?_ ?_
      rotate_left
      · intro w'
        go_simp
        with_reducible rfl
      rotate_left
      · simp only [Act.put, List.setIfInBounds_toArray, List.set_cons_zero, List.set_cons_succ, i64_w, i32_w]
        rfl
      refine done_ (by kernel_rfl) ?_
      exact FIN b7 b8 _ s6 O5
    exact AllReadyL.nil
  refine AllReadyL.cons (i := 10) rfl (by decide) (fun K hK => ?_) ?_
  · refine value_ (w1 := ?_) (v := ?_) (by rfl) rfl ?_ ?_
    rotate_left 2
    · go_simp
      constructor
      · rfl
      · rfl
    have s2 := below_then s1 s1.size (below_alloc (Below.refl w1.heap.size w1) (.cells #[.int .i64 0, .int .i64 0] 23))
    have hb2 := below_alloc (Below.refl w1.heap.size w1) (.cells #[.int .i64 0, .int .i64 0] 23)
    have v10 := blk_new w1 (.cells #[.int .i64 0, .int .i64 0] 23)
    refine hK.out _ _ s2 (fun hHeld => ?_)
    clear hK K hHeld
    refine norm_ (a' := ?_) ?_ ?_
    rotate_left
    · show Act.put _ (some 7) _ = _
      simp only [Act.put, List.setIfInBounds_toArray, List.set_cons_zero, List.set_cons_succ, i64_w, i32_w]
      rfl
    obtain ⟨b7, eb7⟩ : ∃ b, b = w1.heap.size := ⟨_, rfl⟩
    have lb7 : w0.heap.size ≤ b7 := by rw [eb7]; exact s1.size
    rw [← eb7] at v10 ⊢
    clear eb7
    generalize w1.alloc (.cells #[.int .i64 0, .int .i64 0] 23) = w2 at s2 hb2 v10 ⊢
    refine wpAnyLast_ready (rs := [5, 11]) (by kernel_rfl) (by simp) ?_
    refine AllReadyL.cons (i := 5) rfl (by decide) (fun K hK => ?_) ?_
    · refine goes_ Try.func28 (by kernel_rfl) rfl #[.agg #[.int .i64 px, .int .i64 py], .int .i64 side] (by rfl) rfl rfl (by (try simp only [List.map_toArray, List.map_cons, List.map_nil]); first | done | rfl) ?_
      with_reducible refine (lift_Home.calls k px py side q1 q2 r1 r2 ok _ HH.out).mono ?_
      rintro e w3 ⟨rfl, hb3⟩
      have s3 := below_then s2 s2.size hb3
      refine ⟨_, rfl, ?_⟩
      refine hK.out _ _ s3 (fun hHeld => ?_)
      clear hK K hHeld
      refine norm_ (a' := ?_) ?_ ?_
      rotate_left
      · show Act.put _ (some 18) _ = _
        simp only [Act.put, List.setIfInBounds_toArray, List.set_cons_zero, List.set_cons_succ, i64_w, i32_w]
        rfl
      refine pure_ (i := 6) (N := some 12) (v := ?_) (a' := ?_) #[true, true, true, true, true, true, true, false, false, false, true, false, false, false, false] rfl rfl (by kernel_rfl) (fun _ _ _ h => h) (Or.inl ⟨by rfl, ?_⟩) ?_ ?_
      rotate_left
      · intro w'
        go_simp
        with_reducible rfl
      rotate_left
      · simp only [Act.put, List.setIfInBounds_toArray, List.set_cons_zero, List.set_cons_succ, i64_w, i32_w]
        rfl
      refine pure_ (i := 7) (N := some 19) (v := ?_) (a' := ?_) #[true, true, true, true, true, true, true, true, false, false, true, false, false, false, false] rfl rfl (by kernel_rfl) (fun _ _ _ h => h) (Or.inl ⟨by rfl, ?_⟩) ?_ ?_
      rotate_left
      · intro w'
        go_simp
        with_reducible rfl
      rotate_left
      · simp only [Act.put, List.setIfInBounds_toArray, List.set_cons_zero, List.set_cons_succ, i64_w, i32_w]
        rfl
      refine pure_ (i := 8) (N := some 20) (v := ?_) (a' := ?_) #[true, true, true, true, true, true, true, true, true, false, true, false, false, false, false] rfl rfl (by kernel_rfl) (fun _ _ _ h => h) (Or.inl ⟨by rfl, ?_⟩) ?_ ?_
      rotate_left
      · intro w'
        go_simp
        with_reducible rfl
      rotate_left
      · simp only [Act.put, List.setIfInBounds_toArray, List.set_cons_zero, List.set_cons_succ, i64_w, i32_w]
        rfl
      refine pure_ (i := 9) (N := some 21) (v := ?_) (a' := ?_) #[true, true, true, true, true, true, true, true, true, true, true, false, false, false, false] rfl rfl (by kernel_rfl) (fun _ _ _ h => h) (Or.inl ⟨by rfl, ?_⟩) ?_ ?_
      rotate_left
      · intro w'
        go_simp
        with_reducible rfl
      rotate_left
      · simp only [Act.put, List.setIfInBounds_toArray, List.set_cons_zero, List.set_cons_succ, i64_w, i32_w]
        rfl
      refine one_ (i := 11) (N := some 8) #[true, true, true, true, true, true, true, true, true, true, true, true, false, false, false] rfl rfl (by kernel_rfl) (by decide) (fun K hK => ?_)
      refine value_ (w1 := ?_) (v := ?_) (by rfl) rfl ?_ ?_
      rotate_left 2
      · go_simp
        constructor
        · rfl
        · rfl
      have s4 := below_then s3 s3.size (below_alloc (Below.refl w3.heap.size w3) (.cells #[.int .i64 0, .int .i64 0] 52))
      have hb4 := below_alloc (Below.refl w3.heap.size w3) (.cells #[.int .i64 0, .int .i64 0] 52)
      have v11 := blk_new w3 (.cells #[.int .i64 0, .int .i64 0] 52)
      refine hK.out _ _ s4 (fun hHeld => ?_)
      clear hK K hHeld
      refine norm_ (a' := ?_) ?_ ?_
      rotate_left
      · show Act.put _ (some 8) _ = _
        simp only [Act.put, List.setIfInBounds_toArray, List.set_cons_zero, List.set_cons_succ, i64_w, i32_w]
        rfl
      obtain ⟨b8, eb8⟩ : ∃ b, b = w3.heap.size := ⟨_, rfl⟩
      have lb8 : w0.heap.size ≤ b8 := by rw [eb8]; exact s3.size
      rw [← eb8] at v11 ⊢
      clear eb8
      generalize w3.alloc (.cells #[.int .i64 0, .int .i64 0] 52) = w4 at s4 hb4 v11 ⊢
      have V7 := (blk_below (blk_below v10 hb3) hb4)
      have V8 := v11
      have c0 := (blk_cell V7 0).trans rfl
      have c1 := (blk_cell V7 1).trans rfl
      have f0 := blk_frozen V7 0
      have f1 := blk_frozen V7 1
      refine one_ (i := 12) (N := none) #[true, true, true, true, true, true, true, true, true, true, true, true, true, false, false] rfl rfl (by kernel_rfl) (by decide) (fun K hK => ?_)
      refine skip_ (w1 := ?_) (by rfl) rfl ?_ ?_
      rotate_left
      · go_simp
        rfl
      have s5 := below_set (j := 1) (v := .int .i64 q2) (below_set (j := 0) (v := .int .i64 q1) s4 lb7) lb7
      have V4 := blk_put (cs' := #[.int .i64 q1, .int .i64 q2]) (blk_put (cs' := #[.int .i64 q1, .int .i64 0]) V7 0 (.int .i64 q1) rfl) 1 (.int .i64 q2) rfl
      have O4 := blk_far (blk_far (p := ⟨b7, 0, none⟩) V8 (blk_ne V8 V7 (by decide)) (.int .i64 q1)) (p := ⟨b7, 1, none⟩) (blk_ne V8 V7 (by decide)) (.int .i64 q2)
      refine hK.out _ _ s5 (fun hHeld => ?_)
      clear hK K hHeld c0 c1 f0 f1
      generalize (w4.setCell ⟨b7, 0, none⟩ (.int .i64 q1)).setCell ⟨b7, 1, none⟩ (.int .i64 q2) = w5 at s5 V4 O4 ⊢
      have c0 := (blk_cell O4 0).trans rfl
      have c1 := (blk_cell O4 1).trans rfl
      have f0 := blk_frozen O4 0
      have f1 := blk_frozen O4 1
      refine one_ (i := 13) (N := none) #[true, true, true, true, true, true, true, true, true, true, true, true, true, true, false] rfl rfl (by kernel_rfl) (by decide) (fun K hK => ?_)
      refine skip_ (w1 := ?_) (by rfl) rfl ?_ ?_
      rotate_left
      · go_simp
        rfl
      have s6 := below_set (j := 1) (v := .int .i64 r2) (below_set (j := 0) (v := .int .i64 r1) s5 lb8) lb8
      have V5 := blk_put (cs' := #[.int .i64 r1, .int .i64 r2]) (blk_put (cs' := #[.int .i64 r1, .int .i64 0]) O4 0 (.int .i64 r1) rfl) 1 (.int .i64 r2) rfl
      have O5 := blk_far (blk_far (p := ⟨b8, 0, none⟩) V4 (blk_ne V4 O4 (by decide)) (.int .i64 r1)) (p := ⟨b8, 1, none⟩) (blk_ne V4 O4 (by decide)) (.int .i64 r2)
      refine hK.out _ _ s6 (fun hHeld => ?_)
      clear hK K hHeld c0 c1 f0 f1
      generalize (w5.setCell ⟨b8, 0, none⟩ (.int .i64 r1)).setCell ⟨b8, 1, none⟩ (.int .i64 r2) = w6 at s6 V5 O5 ⊢
      refine pure_ (i := 14) (N := some 9) (v := ?_) (a' := ?_) #[true, true, true, true, true, true, true, true, true, true, true, true, true, true, true] rfl rfl (by kernel_rfl) (fun _ _ _ h => h) (Or.inl ⟨by rfl, ?_⟩) ?_ ?_
      rotate_left
      · intro w'
        go_simp
        with_reducible rfl
      rotate_left
      · simp only [Act.put, List.setIfInBounds_toArray, List.set_cons_zero, List.set_cons_succ, i64_w, i32_w]
        rfl
      refine done_ (by kernel_rfl) ?_
      exact FIN b7 b8 _ s6 O5
    refine AllReadyL.cons (i := 11) rfl (by decide) (fun K hK => ?_) ?_
    · refine value_ (w1 := ?_) (v := ?_) (by rfl) rfl ?_ ?_
      rotate_left 2
      · go_simp
        constructor
        · rfl
        · rfl
      have s3 := below_then s2 s2.size (below_alloc (Below.refl w2.heap.size w2) (.cells #[.int .i64 0, .int .i64 0] 52))
      have hb3 := below_alloc (Below.refl w2.heap.size w2) (.cells #[.int .i64 0, .int .i64 0] 52)
      have v11 := blk_new w2 (.cells #[.int .i64 0, .int .i64 0] 52)
      refine hK.out _ _ s3 (fun hHeld => ?_)
      clear hK K hHeld
      refine norm_ (a' := ?_) ?_ ?_
      rotate_left
      · show Act.put _ (some 8) _ = _
        simp only [Act.put, List.setIfInBounds_toArray, List.set_cons_zero, List.set_cons_succ, i64_w, i32_w]
        rfl
      obtain ⟨b8, eb8⟩ : ∃ b, b = w2.heap.size := ⟨_, rfl⟩
      have lb8 : w0.heap.size ≤ b8 := by rw [eb8]; exact s2.size
      rw [← eb8] at v11 ⊢
      clear eb8
      generalize w2.alloc (.cells #[.int .i64 0, .int .i64 0] 52) = w3 at s3 hb3 v11 ⊢
      refine one_ (i := 5) (N := some 18) #[true, true, true, true, true, true, false, false, false, false, true, true, false, false, false] rfl rfl (by kernel_rfl) (by decide) (fun K hK => ?_)
      refine goes_ Try.func28 (by kernel_rfl) rfl #[.agg #[.int .i64 px, .int .i64 py], .int .i64 side] (by rfl) rfl rfl (by (try simp only [List.map_toArray, List.map_cons, List.map_nil]); first | done | rfl) ?_
      with_reducible refine (lift_Home.calls k px py side q1 q2 r1 r2 ok _ HH.out).mono ?_
      rintro e w4 ⟨rfl, hb4⟩
      have s4 := below_then s3 s3.size hb4
      refine ⟨_, rfl, ?_⟩
      refine hK.out _ _ s4 (fun hHeld => ?_)
      clear hK K hHeld
      refine norm_ (a' := ?_) ?_ ?_
      rotate_left
      · show Act.put _ (some 18) _ = _
        simp only [Act.put, List.setIfInBounds_toArray, List.set_cons_zero, List.set_cons_succ, i64_w, i32_w]
        rfl
      refine pure_ (i := 6) (N := some 12) (v := ?_) (a' := ?_) #[true, true, true, true, true, true, true, false, false, false, true, true, false, false, false] rfl rfl (by kernel_rfl) (fun _ _ _ h => h) (Or.inl ⟨by rfl, ?_⟩) ?_ ?_
      rotate_left
      · intro w'
        go_simp
        with_reducible rfl
      rotate_left
      · simp only [Act.put, List.setIfInBounds_toArray, List.set_cons_zero, List.set_cons_succ, i64_w, i32_w]
        rfl
      refine pure_ (i := 7) (N := some 19) (v := ?_) (a' := ?_) #[true, true, true, true, true, true, true, true, false, false, true, true, false, false, false] rfl rfl (by kernel_rfl) (fun _ _ _ h => h) (Or.inl ⟨by rfl, ?_⟩) ?_ ?_
      rotate_left
      · intro w'
        go_simp
        with_reducible rfl
      rotate_left
      · simp only [Act.put, List.setIfInBounds_toArray, List.set_cons_zero, List.set_cons_succ, i64_w, i32_w]
        rfl
      refine pure_ (i := 8) (N := some 20) (v := ?_) (a' := ?_) #[true, true, true, true, true, true, true, true, true, false, true, true, false, false, false] rfl rfl (by kernel_rfl) (fun _ _ _ h => h) (Or.inl ⟨by rfl, ?_⟩) ?_ ?_
      rotate_left
      · intro w'
        go_simp
        with_reducible rfl
      rotate_left
      · simp only [Act.put, List.setIfInBounds_toArray, List.set_cons_zero, List.set_cons_succ, i64_w, i32_w]
        rfl
      refine pure_ (i := 9) (N := some 21) (v := ?_) (a' := ?_) #[true, true, true, true, true, true, true, true, true, true, true, true, false, false, false] rfl rfl (by kernel_rfl) (fun _ _ _ h => h) (Or.inl ⟨by rfl, ?_⟩) ?_ ?_
      rotate_left
      · intro w'
        go_simp
        with_reducible rfl
      rotate_left
      · simp only [Act.put, List.setIfInBounds_toArray, List.set_cons_zero, List.set_cons_succ, i64_w, i32_w]
        rfl
      have V7 := (blk_below (blk_below v10 hb3) hb4)
      have V8 := (blk_below v11 hb4)
      have c0 := (blk_cell V7 0).trans rfl
      have c1 := (blk_cell V7 1).trans rfl
      have f0 := blk_frozen V7 0
      have f1 := blk_frozen V7 1
      refine one_ (i := 12) (N := none) #[true, true, true, true, true, true, true, true, true, true, true, true, true, false, false] rfl rfl (by kernel_rfl) (by decide) (fun K hK => ?_)
      refine skip_ (w1 := ?_) (by rfl) rfl ?_ ?_
      rotate_left
      · go_simp
        rfl
      have s5 := below_set (j := 1) (v := .int .i64 q2) (below_set (j := 0) (v := .int .i64 q1) s4 lb7) lb7
      have V4 := blk_put (cs' := #[.int .i64 q1, .int .i64 q2]) (blk_put (cs' := #[.int .i64 q1, .int .i64 0]) V7 0 (.int .i64 q1) rfl) 1 (.int .i64 q2) rfl
      have O4 := blk_far (blk_far (p := ⟨b7, 0, none⟩) V8 (blk_ne V8 V7 (by decide)) (.int .i64 q1)) (p := ⟨b7, 1, none⟩) (blk_ne V8 V7 (by decide)) (.int .i64 q2)
      refine hK.out _ _ s5 (fun hHeld => ?_)
      clear hK K hHeld c0 c1 f0 f1
      generalize (w4.setCell ⟨b7, 0, none⟩ (.int .i64 q1)).setCell ⟨b7, 1, none⟩ (.int .i64 q2) = w5 at s5 V4 O4 ⊢
      have c0 := (blk_cell O4 0).trans rfl
      have c1 := (blk_cell O4 1).trans rfl
      have f0 := blk_frozen O4 0
      have f1 := blk_frozen O4 1
      refine one_ (i := 13) (N := none) #[true, true, true, true, true, true, true, true, true, true, true, true, true, true, false] rfl rfl (by kernel_rfl) (by decide) (fun K hK => ?_)
      refine skip_ (w1 := ?_) (by rfl) rfl ?_ ?_
      rotate_left
      · go_simp
        rfl
      have s6 := below_set (j := 1) (v := .int .i64 r2) (below_set (j := 0) (v := .int .i64 r1) s5 lb8) lb8
      have V5 := blk_put (cs' := #[.int .i64 r1, .int .i64 r2]) (blk_put (cs' := #[.int .i64 r1, .int .i64 0]) O4 0 (.int .i64 r1) rfl) 1 (.int .i64 r2) rfl
      have O5 := blk_far (blk_far (p := ⟨b8, 0, none⟩) V4 (blk_ne V4 O4 (by decide)) (.int .i64 r1)) (p := ⟨b8, 1, none⟩) (blk_ne V4 O4 (by decide)) (.int .i64 r2)
      refine hK.out _ _ s6 (fun hHeld => ?_)
      clear hK K hHeld c0 c1 f0 f1
      generalize (w5.setCell ⟨b8, 0, none⟩ (.int .i64 r1)).setCell ⟨b8, 1, none⟩ (.int .i64 r2) = w6 at s6 V5 O5 ⊢
      refine pure_ (i := 14) (N := some 9) (v := ?_) (a' := ?_) #[true, true, true, true, true, true, true, true, true, true, true, true, true, true, true] rfl rfl (by kernel_rfl) (fun _ _ _ h => h) (Or.inl ⟨by rfl, ?_⟩) ?_ ?_
      rotate_left
      · intro w'
        go_simp
        with_reducible rfl
      rotate_left
      · simp only [Act.put, List.setIfInBounds_toArray, List.set_cons_zero, List.set_cons_succ, i64_w, i32_w]
        rfl
      refine done_ (by kernel_rfl) ?_
      exact FIN b7 b8 _ s6 O5
    exact AllReadyL.nil
  refine AllReadyL.cons (i := 11) rfl (by decide) (fun K hK => ?_) ?_
  · refine value_ (w1 := ?_) (v := ?_) (by rfl) rfl ?_ ?_
    rotate_left 2
    · go_simp
      constructor
      · rfl
      · rfl
    have s2 := below_then s1 s1.size (below_alloc (Below.refl w1.heap.size w1) (.cells #[.int .i64 0, .int .i64 0] 52))
    have hb2 := below_alloc (Below.refl w1.heap.size w1) (.cells #[.int .i64 0, .int .i64 0] 52)
    have v11 := blk_new w1 (.cells #[.int .i64 0, .int .i64 0] 52)
    refine hK.out _ _ s2 (fun hHeld => ?_)
    clear hK K hHeld
    refine norm_ (a' := ?_) ?_ ?_
    rotate_left
    · show Act.put _ (some 8) _ = _
      simp only [Act.put, List.setIfInBounds_toArray, List.set_cons_zero, List.set_cons_succ, i64_w, i32_w]
      rfl
    obtain ⟨b8, eb8⟩ : ∃ b, b = w1.heap.size := ⟨_, rfl⟩
    have lb8 : w0.heap.size ≤ b8 := by rw [eb8]; exact s1.size
    rw [← eb8] at v11 ⊢
    clear eb8
    generalize w1.alloc (.cells #[.int .i64 0, .int .i64 0] 52) = w2 at s2 hb2 v11 ⊢
    refine wpAnyLast_ready (rs := [5, 10]) (by kernel_rfl) (by simp) ?_
    refine AllReadyL.cons (i := 5) rfl (by decide) (fun K hK => ?_) ?_
    · refine goes_ Try.func28 (by kernel_rfl) rfl #[.agg #[.int .i64 px, .int .i64 py], .int .i64 side] (by rfl) rfl rfl (by (try simp only [List.map_toArray, List.map_cons, List.map_nil]); first | done | rfl) ?_
      with_reducible refine (lift_Home.calls k px py side q1 q2 r1 r2 ok _ HH.out).mono ?_
      rintro e w3 ⟨rfl, hb3⟩
      have s3 := below_then s2 s2.size hb3
      refine ⟨_, rfl, ?_⟩
      refine hK.out _ _ s3 (fun hHeld => ?_)
      clear hK K hHeld
      refine norm_ (a' := ?_) ?_ ?_
      rotate_left
      · show Act.put _ (some 18) _ = _
        simp only [Act.put, List.setIfInBounds_toArray, List.set_cons_zero, List.set_cons_succ, i64_w, i32_w]
        rfl
      refine pure_ (i := 6) (N := some 12) (v := ?_) (a' := ?_) #[true, true, true, true, true, true, true, false, false, false, false, true, false, false, false] rfl rfl (by kernel_rfl) (fun _ _ _ h => h) (Or.inl ⟨by rfl, ?_⟩) ?_ ?_
      rotate_left
      · intro w'
        go_simp
        with_reducible rfl
      rotate_left
      · simp only [Act.put, List.setIfInBounds_toArray, List.set_cons_zero, List.set_cons_succ, i64_w, i32_w]
        rfl
      refine pure_ (i := 7) (N := some 19) (v := ?_) (a' := ?_) #[true, true, true, true, true, true, true, true, false, false, false, true, false, false, false] rfl rfl (by kernel_rfl) (fun _ _ _ h => h) (Or.inl ⟨by rfl, ?_⟩) ?_ ?_
      rotate_left
      · intro w'
        go_simp
        with_reducible rfl
      rotate_left
      · simp only [Act.put, List.setIfInBounds_toArray, List.set_cons_zero, List.set_cons_succ, i64_w, i32_w]
        rfl
      refine pure_ (i := 8) (N := some 20) (v := ?_) (a' := ?_) #[true, true, true, true, true, true, true, true, true, false, false, true, false, false, false] rfl rfl (by kernel_rfl) (fun _ _ _ h => h) (Or.inl ⟨by rfl, ?_⟩) ?_ ?_
      rotate_left
      · intro w'
        go_simp
        with_reducible rfl
      rotate_left
      · simp only [Act.put, List.setIfInBounds_toArray, List.set_cons_zero, List.set_cons_succ, i64_w, i32_w]
        rfl
      refine pure_ (i := 9) (N := some 21) (v := ?_) (a' := ?_) #[true, true, true, true, true, true, true, true, true, true, false, true, false, false, false] rfl rfl (by kernel_rfl) (fun _ _ _ h => h) (Or.inl ⟨by rfl, ?_⟩) ?_ ?_
      rotate_left
      · intro w'
        go_simp
        with_reducible rfl
      rotate_left
      · simp only [Act.put, List.setIfInBounds_toArray, List.set_cons_zero, List.set_cons_succ, i64_w, i32_w]
        rfl
      refine one_ (i := 10) (N := some 7) #[true, true, true, true, true, true, true, true, true, true, true, true, false, false, false] rfl rfl (by kernel_rfl) (by decide) (fun K hK => ?_)
      refine value_ (w1 := ?_) (v := ?_) (by rfl) rfl ?_ ?_
      rotate_left 2
      · go_simp
        constructor
        · rfl
        · rfl
      have s4 := below_then s3 s3.size (below_alloc (Below.refl w3.heap.size w3) (.cells #[.int .i64 0, .int .i64 0] 23))
      have hb4 := below_alloc (Below.refl w3.heap.size w3) (.cells #[.int .i64 0, .int .i64 0] 23)
      have v10 := blk_new w3 (.cells #[.int .i64 0, .int .i64 0] 23)
      refine hK.out _ _ s4 (fun hHeld => ?_)
      clear hK K hHeld
      refine norm_ (a' := ?_) ?_ ?_
      rotate_left
      · show Act.put _ (some 7) _ = _
        simp only [Act.put, List.setIfInBounds_toArray, List.set_cons_zero, List.set_cons_succ, i64_w, i32_w]
        rfl
      obtain ⟨b7, eb7⟩ : ∃ b, b = w3.heap.size := ⟨_, rfl⟩
      have lb7 : w0.heap.size ≤ b7 := by rw [eb7]; exact s3.size
      rw [← eb7] at v10 ⊢
      clear eb7
      generalize w3.alloc (.cells #[.int .i64 0, .int .i64 0] 23) = w4 at s4 hb4 v10 ⊢
      have V7 := v10
      have V8 := (blk_below (blk_below v11 hb3) hb4)
      have c0 := (blk_cell V7 0).trans rfl
      have c1 := (blk_cell V7 1).trans rfl
      have f0 := blk_frozen V7 0
      have f1 := blk_frozen V7 1
      refine one_ (i := 12) (N := none) #[true, true, true, true, true, true, true, true, true, true, true, true, true, false, false] rfl rfl (by kernel_rfl) (by decide) (fun K hK => ?_)
      refine skip_ (w1 := ?_) (by rfl) rfl ?_ ?_
      rotate_left
      · go_simp
        rfl
      have s5 := below_set (j := 1) (v := .int .i64 q2) (below_set (j := 0) (v := .int .i64 q1) s4 lb7) lb7
      have V4 := blk_put (cs' := #[.int .i64 q1, .int .i64 q2]) (blk_put (cs' := #[.int .i64 q1, .int .i64 0]) V7 0 (.int .i64 q1) rfl) 1 (.int .i64 q2) rfl
      have O4 := blk_far (blk_far (p := ⟨b7, 0, none⟩) V8 (blk_ne V8 V7 (by decide)) (.int .i64 q1)) (p := ⟨b7, 1, none⟩) (blk_ne V8 V7 (by decide)) (.int .i64 q2)
      refine hK.out _ _ s5 (fun hHeld => ?_)
      clear hK K hHeld c0 c1 f0 f1
      generalize (w4.setCell ⟨b7, 0, none⟩ (.int .i64 q1)).setCell ⟨b7, 1, none⟩ (.int .i64 q2) = w5 at s5 V4 O4 ⊢
      have c0 := (blk_cell O4 0).trans rfl
      have c1 := (blk_cell O4 1).trans rfl
      have f0 := blk_frozen O4 0
      have f1 := blk_frozen O4 1
      refine one_ (i := 13) (N := none) #[true, true, true, true, true, true, true, true, true, true, true, true, true, true, false] rfl rfl (by kernel_rfl) (by decide) (fun K hK => ?_)
      refine skip_ (w1 := ?_) (by rfl) rfl ?_ ?_
      rotate_left
      · go_simp
        rfl
      have s6 := below_set (j := 1) (v := .int .i64 r2) (below_set (j := 0) (v := .int .i64 r1) s5 lb8) lb8
      have V5 := blk_put (cs' := #[.int .i64 r1, .int .i64 r2]) (blk_put (cs' := #[.int .i64 r1, .int .i64 0]) O4 0 (.int .i64 r1) rfl) 1 (.int .i64 r2) rfl
      have O5 := blk_far (blk_far (p := ⟨b8, 0, none⟩) V4 (blk_ne V4 O4 (by decide)) (.int .i64 r1)) (p := ⟨b8, 1, none⟩) (blk_ne V4 O4 (by decide)) (.int .i64 r2)
      refine hK.out _ _ s6 (fun hHeld => ?_)
      clear hK K hHeld c0 c1 f0 f1
      generalize (w5.setCell ⟨b8, 0, none⟩ (.int .i64 r1)).setCell ⟨b8, 1, none⟩ (.int .i64 r2) = w6 at s6 V5 O5 ⊢
      refine pure_ (i := 14) (N := some 9) (v := ?_) (a' := ?_) #[true, true, true, true, true, true, true, true, true, true, true, true, true, true, true] rfl rfl (by kernel_rfl) (fun _ _ _ h => h) (Or.inl ⟨by rfl, ?_⟩) ?_ ?_
      rotate_left
      · intro w'
        go_simp
        with_reducible rfl
      rotate_left
      · simp only [Act.put, List.setIfInBounds_toArray, List.set_cons_zero, List.set_cons_succ, i64_w, i32_w]
        rfl
      refine done_ (by kernel_rfl) ?_
      exact FIN b7 b8 _ s6 O5
    refine AllReadyL.cons (i := 10) rfl (by decide) (fun K hK => ?_) ?_
    · refine value_ (w1 := ?_) (v := ?_) (by rfl) rfl ?_ ?_
      rotate_left 2
      · go_simp
        constructor
        · rfl
        · rfl
      have s3 := below_then s2 s2.size (below_alloc (Below.refl w2.heap.size w2) (.cells #[.int .i64 0, .int .i64 0] 23))
      have hb3 := below_alloc (Below.refl w2.heap.size w2) (.cells #[.int .i64 0, .int .i64 0] 23)
      have v10 := blk_new w2 (.cells #[.int .i64 0, .int .i64 0] 23)
      refine hK.out _ _ s3 (fun hHeld => ?_)
      clear hK K hHeld
      refine norm_ (a' := ?_) ?_ ?_
      rotate_left
      · show Act.put _ (some 7) _ = _
        simp only [Act.put, List.setIfInBounds_toArray, List.set_cons_zero, List.set_cons_succ, i64_w, i32_w]
        rfl
      obtain ⟨b7, eb7⟩ : ∃ b, b = w2.heap.size := ⟨_, rfl⟩
      have lb7 : w0.heap.size ≤ b7 := by rw [eb7]; exact s2.size
      rw [← eb7] at v10 ⊢
      clear eb7
      generalize w2.alloc (.cells #[.int .i64 0, .int .i64 0] 23) = w3 at s3 hb3 v10 ⊢
      refine one_ (i := 5) (N := some 18) #[true, true, true, true, true, true, false, false, false, false, true, true, false, false, false] rfl rfl (by kernel_rfl) (by decide) (fun K hK => ?_)
      refine goes_ Try.func28 (by kernel_rfl) rfl #[.agg #[.int .i64 px, .int .i64 py], .int .i64 side] (by rfl) rfl rfl (by (try simp only [List.map_toArray, List.map_cons, List.map_nil]); first | done | rfl) ?_
      with_reducible refine (lift_Home.calls k px py side q1 q2 r1 r2 ok _ HH.out).mono ?_
      rintro e w4 ⟨rfl, hb4⟩
      have s4 := below_then s3 s3.size hb4
      refine ⟨_, rfl, ?_⟩
      refine hK.out _ _ s4 (fun hHeld => ?_)
      clear hK K hHeld
      refine norm_ (a' := ?_) ?_ ?_
      rotate_left
      · show Act.put _ (some 18) _ = _
        simp only [Act.put, List.setIfInBounds_toArray, List.set_cons_zero, List.set_cons_succ, i64_w, i32_w]
        rfl
      refine pure_ (i := 6) (N := some 12) (v := ?_) (a' := ?_) #[true, true, true, true, true, true, true, false, false, false, true, true, false, false, false] rfl rfl (by kernel_rfl) (fun _ _ _ h => h) (Or.inl ⟨by rfl, ?_⟩) ?_ ?_
      rotate_left
      · intro w'
        go_simp
        with_reducible rfl
      rotate_left
      · simp only [Act.put, List.setIfInBounds_toArray, List.set_cons_zero, List.set_cons_succ, i64_w, i32_w]
        rfl
      refine pure_ (i := 7) (N := some 19) (v := ?_) (a' := ?_) #[true, true, true, true, true, true, true, true, false, false, true, true, false, false, false] rfl rfl (by kernel_rfl) (fun _ _ _ h => h) (Or.inl ⟨by rfl, ?_⟩) ?_ ?_
      rotate_left
      · intro w'
        go_simp
        with_reducible rfl
      rotate_left
      · simp only [Act.put, List.setIfInBounds_toArray, List.set_cons_zero, List.set_cons_succ, i64_w, i32_w]
        rfl
      refine pure_ (i := 8) (N := some 20) (v := ?_) (a' := ?_) #[true, true, true, true, true, true, true, true, true, false, true, true, false, false, false] rfl rfl (by kernel_rfl) (fun _ _ _ h => h) (Or.inl ⟨by rfl, ?_⟩) ?_ ?_
      rotate_left
      · intro w'
        go_simp
        with_reducible rfl
      rotate_left
      · simp only [Act.put, List.setIfInBounds_toArray, List.set_cons_zero, List.set_cons_succ, i64_w, i32_w]
        rfl
      refine pure_ (i := 9) (N := some 21) (v := ?_) (a' := ?_) #[true, true, true, true, true, true, true, true, true, true, true, true, false, false, false] rfl rfl (by kernel_rfl) (fun _ _ _ h => h) (Or.inl ⟨by rfl, ?_⟩) ?_ ?_
      rotate_left
      · intro w'
        go_simp
        with_reducible rfl
      rotate_left
      · simp only [Act.put, List.setIfInBounds_toArray, List.set_cons_zero, List.set_cons_succ, i64_w, i32_w]
        rfl
      have V7 := (blk_below v10 hb4)
      have V8 := (blk_below (blk_below v11 hb3) hb4)
      have c0 := (blk_cell V7 0).trans rfl
      have c1 := (blk_cell V7 1).trans rfl
      have f0 := blk_frozen V7 0
      have f1 := blk_frozen V7 1
      refine one_ (i := 12) (N := none) #[true, true, true, true, true, true, true, true, true, true, true, true, true, false, false] rfl rfl (by kernel_rfl) (by decide) (fun K hK => ?_)
      refine skip_ (w1 := ?_) (by rfl) rfl ?_ ?_
      rotate_left
      · go_simp
        rfl
      have s5 := below_set (j := 1) (v := .int .i64 q2) (below_set (j := 0) (v := .int .i64 q1) s4 lb7) lb7
      have V4 := blk_put (cs' := #[.int .i64 q1, .int .i64 q2]) (blk_put (cs' := #[.int .i64 q1, .int .i64 0]) V7 0 (.int .i64 q1) rfl) 1 (.int .i64 q2) rfl
      have O4 := blk_far (blk_far (p := ⟨b7, 0, none⟩) V8 (blk_ne V8 V7 (by decide)) (.int .i64 q1)) (p := ⟨b7, 1, none⟩) (blk_ne V8 V7 (by decide)) (.int .i64 q2)
      refine hK.out _ _ s5 (fun hHeld => ?_)
      clear hK K hHeld c0 c1 f0 f1
      generalize (w4.setCell ⟨b7, 0, none⟩ (.int .i64 q1)).setCell ⟨b7, 1, none⟩ (.int .i64 q2) = w5 at s5 V4 O4 ⊢
      have c0 := (blk_cell O4 0).trans rfl
      have c1 := (blk_cell O4 1).trans rfl
      have f0 := blk_frozen O4 0
      have f1 := blk_frozen O4 1
      refine one_ (i := 13) (N := none) #[true, true, true, true, true, true, true, true, true, true, true, true, true, true, false] rfl rfl (by kernel_rfl) (by decide) (fun K hK => ?_)
      refine skip_ (w1 := ?_) (by rfl) rfl ?_ ?_
      rotate_left
      · go_simp
        rfl
      have s6 := below_set (j := 1) (v := .int .i64 r2) (below_set (j := 0) (v := .int .i64 r1) s5 lb8) lb8
      have V5 := blk_put (cs' := #[.int .i64 r1, .int .i64 r2]) (blk_put (cs' := #[.int .i64 r1, .int .i64 0]) O4 0 (.int .i64 r1) rfl) 1 (.int .i64 r2) rfl
      have O5 := blk_far (blk_far (p := ⟨b8, 0, none⟩) V4 (blk_ne V4 O4 (by decide)) (.int .i64 r1)) (p := ⟨b8, 1, none⟩) (blk_ne V4 O4 (by decide)) (.int .i64 r2)
      refine hK.out _ _ s6 (fun hHeld => ?_)
      clear hK K hHeld c0 c1 f0 f1
      generalize (w5.setCell ⟨b8, 0, none⟩ (.int .i64 r1)).setCell ⟨b8, 1, none⟩ (.int .i64 r2) = w6 at s6 V5 O5 ⊢
      refine pure_ (i := 14) (N := some 9) (v := ?_) (a' := ?_) #[true, true, true, true, true, true, true, true, true, true, true, true, true, true, true] rfl rfl (by kernel_rfl) (fun _ _ _ h => h) (Or.inl ⟨by rfl, ?_⟩) ?_ ?_
      rotate_left
      · intro w'
        go_simp
        with_reducible rfl
      rotate_left
      · simp only [Act.put, List.setIfInBounds_toArray, List.set_cons_zero, List.set_cons_succ, i64_w, i32_w]
        rfl
      refine done_ (by kernel_rfl) ?_
      exact FIN b7 b8 _ s6 O5
    exact AllReadyL.nil
  exact AllReadyL.nil
end Go.Proofs.Ytfangodjmppooaa.Rd
