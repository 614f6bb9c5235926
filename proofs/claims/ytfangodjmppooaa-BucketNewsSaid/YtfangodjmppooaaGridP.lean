/- Put, where the point has a cell that is empty (printed by gen_put.py). -/
import Derived.Test.YtfangodjmppooaaGridN
namespace Go.Proofs.Ytfangodjmppooaa.Rd
open Go Go.RowKit Go.Proofs.YtfangodjmppooaaW.PrintWords Go.Proofs.YtfangodjmppooaaW.PrintLast Go.Proofs.YtfangodjmppooaaW.PrintMore Go.Proofs.Ytfangodjmppooaa.F
set_option linter.unusedVariables false
set_option linter.unusedSimpArgs false
theorem info_int : (Try.prog.info? 3).map (fun i => (i.zero, i.size, i.bytes)) = some (some (.int .i64 0), 1, 8) := by kernel_rfl
set_option maxHeartbeats 4000000 in
theorem put_none (v : Value) (vv px py x y : Int) (w : World) (h : CellAt v px py x y false w) : Calls Try.prog 13 #[v, .int .i64 vv, .agg #[.int .i64 px, .int .i64 py]] w fun e w' => (∃ v, e = .returned v) ∧ Below w.heap.size w w' := by
  have HB := Aside0.mk (below_alloc (Below.refl w.heap.size w) (.cells #[.int .i64 px, .int .i64 py] 23))
  have H := Aside0.mk (h _ HB.out)
  clear h
  go_enter Try.func13, Try.ntmps13
  go_wp2_with (first | (with_reducible go_at_call 19; with_reducible refine H.out.mono ?_; rintro e w2 ⟨rfl, hb⟩; have HB2 := Aside0.mk (below_step HB.out hb); clear hb) | fail)
  go_end0
  exact ⟨⟨_, rfl⟩, HB2.out⟩
set_option maxHeartbeats 4000000 in
theorem drop_none (v : Value) (vv px py x y : Int) (w : World) (h : CellAt v px py x y false w) : Calls Try.prog 15 #[v, .int .i64 vv, .agg #[.int .i64 px, .int .i64 py]] w fun e w' => (∃ v, e = .returned v) ∧ Below w.heap.size w w' := by
  have HB := Aside0.mk (below_alloc (Below.refl w.heap.size w) (.cells #[.int .i64 px, .int .i64 py] 23))
  have H := Aside0.mk (h _ HB.out)
  clear h
  go_enter Try.func15, Try.ntmps15
  go_wp2_with (first | (with_reducible go_at_call 19; with_reducible refine H.out.mono ?_; rintro e w2 ⟨rfl, hb⟩; have HB2 := Aside0.mk (below_step HB.out hb); clear hb) | fail)
  refine bodyPost_ret (results_none rfl _ _ _) rfl ?_
  exact ⟨⟨_, rfl⟩, HB2.out⟩
set_option maxHeartbeats 8000000 in
set_option maxRecDepth 100000 in
theorem put_c (g b M i : Nat) (side n m vv px py x y : Int) (cs : Array Value) (w : World) (H : CellAt (.pointer (some ⟨g, 0, none⟩)) px py x y true w) (h1 : 1 ≤ n) (h2 : n ≤ 64) (hx : -n ≤ x) (hx2 : x ≤ 1000) (hy : -n ≤ y) (hy2 : y ≤ 1000) (hidx : idx n x y = (i : Int)) (hi : i < M) (hM : M ≤ 4096) (hm : 0 ≤ m ∧ m ≤ 1000000)
    (hg : w.heap[g]? = some (.cells #[.int .i64 side, .int .i64 n, .slice (some ⟨b, 0, none⟩) M M, .int .i64 m] 48 (0, 0))) (hb : w.heap[b]? = some (.cells cs 57 (0, 0))) (hcs : cs[i]? = some (.slice none 0 0)) :
    Calls Try.prog 13 #[.pointer (some ⟨g, 0, none⟩), .int .i64 vv, .agg #[.int .i64 px, .int .i64 py]] w fun e w' => (∃ v, e = .returned v) ∧ ∃ (h c : Nat) (cells : Array Value), w'.heap[g]? = some (.cells #[.int .i64 side, .int .i64 n, .slice (some ⟨b, 0, none⟩) M M, .int .i64 (m + 1)] 48 (0, 0)) ∧ w'.heap[b]? = some (.cells (cs.setIfInBounds i (.slice (some ⟨h, 0, none⟩) 1 c)) 57 (0, 0)) ∧ w'.heap[h]? = some (.cells cells 3 (0, 0)) ∧ cells[0]? = some (.int .i64 vv) ∧ ∀ n0, n0 ≤ g → n0 ≤ b → Below n0 w w' := by
  have HB := Aside0.mk (below_alloc (Below.refl w.heap.size w) (.cells #[.int .i64 px, .int .i64 py] 23))
  have HH := Aside0.mk (H _ HB.out)
  have hgb : g ≠ b := blk_ne hg hb (by decide)
  have HG := Aside0.mk hg
  have HR := Aside0.mk hb
  have HI := Aside0.mk hidx
  clear H hg hb
  go_enter Try.func13, Try.ntmps13
  go_wp2_with (first | (with_reducible go_at_call 19; with_reducible refine HH.out.mono ?_; rintro e w2 ⟨rfl, hb⟩; have HB2 := Aside0.mk (below_step HB.out hb); clear hb; have z1 := (blk_cell (blk_below HG.out HB2.out) 1).trans rfl) | (with_reducible go_at_call 22; with_reducible refine (at_c g n x y _ h1 h2 hx hx2 hy hy2 z1).mono ?_; rintro e w3 ⟨rfl, rfl⟩; rw [HI.out]) | fail)
  have HB3 := Aside0.mk (below_drew HB2.out)
  have HG3 := Aside0.mk (blk_below HG.out HB3.out)
  have HR3 := Aside0.mk (blk_below HR.out HB3.out)
  clear z1 HB2
  generalize w2.drew = w0 at HB3 HG3 HR3 ⊢
  have i0 : (0 : Int) ≤ (i : Int) := by omega
  have i1 : (i : Int) < (M : Int) := by omega
  refine start_ (n := 17) (S := fun w' => Below w0.heap.size w0 w') (ds := [16]) #[false, false, false, false, false, false, false, false, false, false, false, false, false, false, false, false, false] (by kernel_rfl) rfl rfl (below_drew (Below.refl _ _)) (fun hHeld => ?_)
  refine pure_ (i := 0) (N := some 22) (v := ?_) (a' := ?_) #[true, false, false, false, false, false, false, false, false, false, false, false, false, false, false, false, false] rfl rfl (by kernel_rfl) (fun _ _ _ h => h) (Or.inl ⟨by rfl, ?_⟩) ?_ ?_
  rotate_left
  · intro w'
    go_simp
    with_reducible rfl
  rotate_left
  · simp only [Act.put, List.setIfInBounds_toArray, List.set_cons_zero, List.set_cons_succ, i64_w, i32_w]
    rfl
  refine pure_ (i := 1) (N := some 23) (v := ?_) (a' := ?_) #[true, true, false, false, false, false, false, false, false, false, false, false, false, false, false, false, false] rfl rfl (by kernel_rfl) (fun _ _ _ h => h) (Or.inl ⟨by rfl, ?_⟩) ?_ ?_
  rotate_left
  · intro w'
    go_simp
    with_reducible rfl
  rotate_left
  · simp only [Act.put, List.setIfInBounds_toArray, List.set_cons_zero, List.set_cons_succ, i64_w, i32_w]
    rfl
  refine pure_ (i := 2) (N := some 24) (v := ?_) (a' := ?_) #[true, true, true, false, false, false, false, false, false, false, false, false, false, false, false, false, false] rfl rfl (by kernel_rfl) (fun _ _ _ h => h) (Or.inl ⟨by rfl, ?_⟩) ?_ ?_
  rotate_left
  · intro w'
    go_simp
    with_reducible rfl
  rotate_left
  · simp only [Act.put, List.setIfInBounds_toArray, List.set_cons_zero, List.set_cons_succ, i64_w, i32_w]
    rfl
  refine take_ (i := 3) (N := some 25) (v := ?_) (a' := ?_) #[true, true, true, true, false, false, false, false, false, false, false, false, false, false, false, false, false] rfl rfl (by kernel_rfl) (fun _ _ _ h => h) (Or.inl ⟨by rfl, ?_⟩) hHeld ?_ ?_
  rotate_left
  · intro w' s0
    have z0 := (blk_cell (blk_below HG3.out s0) 2).trans rfl
    go_simp
    with_reducible rfl
  rotate_left
  · simp only [Act.put, List.setIfInBounds_toArray, List.set_cons_zero, List.set_cons_succ, i64_w, i32_w]
    rfl
  refine pure_ (i := 4) (N := some 26) (v := ?_) (a' := ?_) #[true, true, true, true, true, false, false, false, false, false, false, false, false, false, false, false, false] rfl rfl (by kernel_rfl) (fun _ _ _ h => h) (Or.inl ⟨by rfl, ?_⟩) ?_ ?_
  rotate_left
  · intro w'
    go_simp
    with_reducible rfl
  rotate_left
  · simp only [Act.put, List.setIfInBounds_toArray, List.set_cons_zero, List.set_cons_succ, i64_w, i32_w]
    rfl
  refine pure_ (i := 5) (N := some 27) (v := ?_) (a' := ?_) #[true, true, true, true, true, true, false, false, false, false, false, false, false, false, false, false, false] rfl rfl (by kernel_rfl) (fun _ _ _ h => h) (Or.inl ⟨by rfl, ?_⟩) ?_ ?_
  rotate_left
  · intro w'
    go_simp
    with_reducible rfl
  rotate_left
  · simp only [Act.put, List.setIfInBounds_toArray, List.set_cons_zero, List.set_cons_succ, i64_w, i32_w]
    rfl
  refine pure_ (i := 6) (N := some 28) (v := ?_) (a' := ?_) #[true, true, true, true, true, true, true, false, false, false, false, false, false, false, false, false, false] rfl rfl (by kernel_rfl) (fun _ _ _ h => h) (Or.inl ⟨by rfl, ?_⟩) ?_ ?_
  rotate_left
  · intro w'
    go_simp
    with_reducible rfl
  rotate_left
  · simp only [Act.put, List.setIfInBounds_toArray, List.set_cons_zero, List.set_cons_succ, i64_w, i32_w]
    rfl
  refine pure_ (i := 7) (N := some 29) (v := ?_) (a' := ?_) #[true, true, true, true, true, true, true, true, false, false, false, false, false, false, false, false, false] rfl rfl (by kernel_rfl) (fun _ _ _ h => h) (Or.inl ⟨by rfl, ?_⟩) ?_ ?_
  rotate_left
  · intro w'
    go_simp
    with_reducible rfl
  rotate_left
  · simp only [Act.put, List.setIfInBounds_toArray, List.set_cons_zero, List.set_cons_succ, i64_w, i32_w]
    rfl
  refine take_ (i := 8) (N := some 30) (v := ?_) (a' := ?_) #[true, true, true, true, true, true, true, true, true, false, false, false, false, false, false, false, false] rfl rfl (by kernel_rfl) (fun _ _ _ h => h) (Or.inl ⟨by rfl, ?_⟩) hHeld ?_ ?_
  rotate_left
  · intro w' s0
    have z0 := (blk_cell (blk_below HG3.out s0) 2).trans rfl
    go_simp
    with_reducible rfl
  rotate_left
  · simp only [Act.put, List.setIfInBounds_toArray, List.set_cons_zero, List.set_cons_succ, i64_w, i32_w]
    rfl
  refine pure_ (i := 9) (N := some 31) (v := ?_) (a' := ?_) #[true, true, true, true, true, true, true, true, true, true, false, false, false, false, false, false, false] rfl rfl (by kernel_rfl) (fun _ _ _ h => h) (Or.inl ⟨by rfl, ?_⟩) ?_ ?_
  rotate_left
  · intro w'
    go_simp
    with_reducible rfl
  rotate_left
  · simp only [Act.put, List.setIfInBounds_toArray, List.set_cons_zero, List.set_cons_succ, i64_w, i32_w]
    rfl
  refine pure_ (i := 10) (N := some 32) (v := ?_) (a' := ?_) #[true, true, true, true, true, true, true, true, true, true, true, false, false, false, false, false, false] rfl rfl (by kernel_rfl) (fun _ _ _ h => h) (Or.inl ⟨by rfl, ?_⟩) ?_ ?_
  rotate_left
  · intro w'
    go_simp
    with_reducible rfl
  rotate_left
  · simp only [Act.put, List.setIfInBounds_toArray, List.set_cons_zero, List.set_cons_succ, i64_w, i32_w]
    rfl
  refine take_ (i := 11) (N := some 33) (v := ?_) (a' := ?_) #[true, true, true, true, true, true, true, true, true, true, true, true, false, false, false, false, false] rfl rfl (by kernel_rfl) (fun _ _ _ h => h) (Or.inl ⟨by rfl, ?_⟩) hHeld ?_ ?_
  rotate_left
  · intro w' s0
    have z0 := (blk_cell (blk_below HR3.out s0) i).trans hcs
    go_simp
    with_reducible rfl
  rotate_left
  · simp only [Act.put, List.setIfInBounds_toArray, List.set_cons_zero, List.set_cons_succ, i64_w, i32_w]
    rfl
  refine pure_ (i := 12) (N := some 34) (v := ?_) (a' := ?_) #[true, true, true, true, true, true, true, true, true, true, true, true, true, false, false, false, false] rfl rfl (by kernel_rfl) (fun _ _ _ h => h) (Or.inl ⟨by rfl, ?_⟩) ?_ ?_
  rotate_left
  · intro w'
    go_simp
    with_reducible rfl
  rotate_left
  · simp only [Act.put, List.setIfInBounds_toArray, List.set_cons_zero, List.set_cons_succ, i64_w, i32_w]
    rfl
  have s1 := hHeld
  clear hHeld
  generalize w0.drew = w1 at s1 ⊢
  refine one_ (i := 13) (N := some 35) #[true, true, true, true, true, true, true, true, true, true, true, true, true, true, false, false, false] rfl rfl (by kernel_rfl) (by decide) (fun K hK => ?_)
  refine Kd.R_lit_step (Kd.int .i64) (w0 := w0) w0.heap.size 3 (by rfl) (N := 35) rfl (xs := [vv]) (inner := [.int .i64 vv]) (ok := fun _ => True) (okp := fun _ => False) ?hr ?hp (fun _ h => h.elim) trivial s1 s1.size (by simp) ?_
  case hr => first | (go_simp; done) | (go_simp; rfl)
  case hp => exact Kd.reps_scalar [vv]
  intro v2 w2 hR2 s2 hg2 hn2
  clear hg2 hn2
  obtain ⟨A2, c2, rfl⟩ := Kd.R_slice hR2
  refine hK.out _ _ s2 (fun hHeld => ?_)
  clear hK K hHeld
  refine norm_ (a' := ?_) ?_ ?_
  rotate_left
  · show Act.put _ (some 35) _ = _
    simp only [Act.put, List.setIfInBounds_toArray, List.set_cons_zero, List.set_cons_succ, i64_w, i32_w]
    rfl
  refine one_ (i := 14) (N := some 36) #[true, true, true, true, true, true, true, true, true, true, true, true, true, true, true, false, false] rfl rfl (by kernel_rfl) (by decide) (fun K hK => ?_)
  refine Kd.R_append_rows_step (Kd.int .i64) (w0 := w0) w0.heap.size (by rfl) (.tmp 33) (.tmp 35) 57 3 (.int .i64 0) 8 rfl Try.underlying57 info_int rfl (by decide) (by decide) (.slice none 0 0) [] [vv] _ _ _ (fun _ => True) (fun _ => False) rfl rfl ?aO ?aR (fun _ _ h => h) (fun _ h => h.elim) (fun _ _ => trivial) s2 s2.size (by simp) ?_
  case aO => exact Kd.R_nil _ _ _ _ _
  case aR => exact (Kd.R_reads' hR2).2.2
  intro v3 w3 hR3 s3 hg3 hn3
  clear hg3 hn3
  obtain ⟨A3, c3, rfl⟩ := Kd.R_slice hR3
  refine hK.out _ _ s3 (fun hHeld => ?_)
  clear hK K hHeld
  refine norm_ (a' := ?_) ?_ ?_
  rotate_left
  · show Act.put _ (some 36) _ = _
    simp only [Act.put, List.setIfInBounds_toArray, List.set_cons_zero, List.set_cons_succ, i64_w, i32_w]
    rfl
  refine pure_ (i := 15) (N := some 37) (v := ?_) (a' := ?_) #[true, true, true, true, true, true, true, true, true, true, true, true, true, true, true, true, false] rfl rfl (by kernel_rfl) (fun _ _ _ h => h) (Or.inl ⟨by rfl, ?_⟩) ?_ ?_
  rotate_left
  · intro w'
    go_simp
    with_reducible rfl
  rotate_left
  · simp only [Act.put, List.setIfInBounds_toArray, List.set_cons_zero, List.set_cons_succ, i64_w, i32_w]
    rfl
  have c0 := (blk_cell (blk_below HR3.out s3) i).trans hcs
  have f0 := blk_frozen (blk_below HR3.out s3) i
  refine wpAnyLast_ready (rs := [16]) (by kernel_rfl) (by simp) (AllReadyL.cons_last rfl (by decide) (fun K hK => ?_) AllReadyL.nil)
  refine skip_ (w1 := ?_) (by rfl) rfl ?_ ?_
  rotate_left
  · go_simp
    rfl
  refine hK.out _ _ ?_
  clear hK K c0 f0
  have G4 := blk_far (p := ⟨b, i, none⟩) (blk_below HG3.out s3) hgb (.slice A3 1 c3)
  have R4 := blk_set (blk_below HR3.out s3) i (.slice A3 1 c3)
  have C3 := (Kd.R_reads' hR3).2.2
  obtain ⟨h, cp, ev, h3, h4, cells, hc4⟩ := Kd.R_form hR3 (show 0 < ([] ++ [vv]).length from Nat.zero_lt_one)
  injection ev with ev1 ev2 ev3
  subst ev1
  have hce : cells[0]? = some (.int .i64 vv) := by
    obtain ⟨ad', cs', e', _, hK', hcc⟩ := Kd.C_get C3 (0 : Int) 0 (by omega) (by simp)
    cases e'
    have hK2 : cs' = [.int .i64 vv] := hK'
    have h5 := hcc 0 (.int .i64 vv) (by rw [hK2]; rfl)
    exact (blk_cell hc4 0).symm.trans h5
  have sb := blk_lt (blk_below HR3.out (Below.refl _ _))
  have sg := blk_lt (blk_below HG3.out (Below.refl _ _))
  have H4 := blk_far (p := ⟨b, i, none⟩) hc4 (show h ≠ b by omega) (.slice (some ⟨h, 0, none⟩) 1 c3)
  have N4 : Aside0 (∀ n0, n0 ≤ w0.heap.size → n0 ≤ b → Below n0 w0 (w3.setCell ⟨b, i, none⟩ (.slice (some ⟨h, 0, none⟩) 1 c3))) := ⟨fun n0 a1 a2 => (below_weaken2 s3 a1).setCell (p := ⟨b, i, none⟩) a2 _⟩
  have hhg : h ≠ g := by omega
  clear hR2 hR3 C3 hc4 s1 s2 ev2 ev3
  have Q4 := Aside0.mk (And.intro G4 (And.intro R4 H4))
  clear G4 R4 H4 s3 sb sg
  generalize w3.setCell ⟨b, i, none⟩ (.slice (some ⟨h, 0, none⟩) 1 c3) = w4 at Q4 N4 ⊢
  refine done_ (by kernel_rfl) ?_
  have y3 : w4.cell? ⟨g, 3, none⟩ = some (.int .i64 m) := (blk_cell Q4.out.1 3).trans rfl
  have yf := blk_frozen Q4.out.1 3
  have wm : IntKind.i64.wrap (m + 1) = m + 1 := w64s (by omega)
  go_wp2_with fail
  go_end0
  have hbg : b ≠ g := fun e => hgb e.symm
  refine ⟨⟨_, rfl⟩, h, c3, cells, blk_put Q4.out.1 3 _ rfl, blk_far Q4.out.2.1 hbg _, blk_far Q4.out.2.2 hhg _, hce, fun n0 a1 a2 => ?_⟩
  have sw := HB3.out.size
  have swg := blk_lt HG.out
  exact (((below_then (Below.refl n0 w) (by omega) HB3.out).trans (N4.out n0 (by omega) a2)).setCell (p := ⟨g, 3, none⟩) a1 _)

end Go.Proofs.Ytfangodjmppooaa.Rd
