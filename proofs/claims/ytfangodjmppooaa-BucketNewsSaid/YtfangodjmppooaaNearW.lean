/- Near, walked by hand (printed by gen_near.py). -/
import Derived.Test.YtfangodjmppooaaNear
namespace Go.Proofs.Ytfangodjmppooaa.Rd
open Go Go.RowKit Go.Shelf Go.Proofs.YtfangodjmppooaaW.PrintWords Go.Proofs.YtfangodjmppooaaW.PrintLast Go.Proofs.YtfangodjmppooaaW.PrintMore Go.Proofs.Ytfangodjmppooaa.F
attribute [local go_sem] Oper.semAt_some
set_option linter.unusedVariables false
set_option linter.unusedSimpArgs false
set_option maxHeartbeats 8000000 in
set_option maxRecDepth 100000 in
theorem near_c (g b M : Nat) (side n m px py x y : Int) (cs : Array Value) (mins : Nat → Option Int) (w : World) (H : CellAt (.pointer (some ⟨g, 0, none⟩)) px py x y true w) (h1 : 1 ≤ n) (h2 : n ≤ 64) (hx : 0 ≤ x) (hx2 : x ≤ 64) (hy : 0 ≤ y) (hy2 : y ≤ 64) (hM : (M : Int) = n * n) (hm : (m == 0) = false)
    (hg : w.heap[g]? = some (.cells #[.int .i64 side, .int .i64 n, .slice (some ⟨b, 0, none⟩) M M, .int .i64 m] 48 (0, 0))) (hb : w.heap[b]? = some (.cells cs 57 (0, 0)))
    (hrows : ∀ j v, mins j = some v → ∃ (h len c : Nat) (hc : Array Value), cs[j]? = some (.slice (some ⟨h, 0, none⟩) len c) ∧ 0 < len ∧ w.heap[h]? = some (.cells hc 3 (0, 0)) ∧ MinOk h len c hc v)
    (hnone : ∀ j, j < M → mins j = none → cs[j]? = some (.slice none 0 0)) :
    Calls Try.prog 12 #[.pointer (some ⟨g, 0, none⟩), .agg #[.int .i64 px, .int .i64 py]] w fun e w' => ∃ r, e = .returned (.int .i64 r) ∧ NearR n x y mins r ∧ Below w.heap.size w w' := by
  refine (callsIn_wide (n := 8)).1 ?_
  have HB := Aside0.mk (below_alloc (below_alloc (below_alloc (Below.refl w.heap.size w) (.cells #[.pointer (some ⟨g, 0, none⟩)] 26)) (.cells #[.int .i64 px, .int .i64 py] 23)) (.cells #[.int .i64 0] 3))
  have HH := Aside0.mk (H _ HB.out)
  have wn : IntKind.i64.wrap (n + 1) = n + 1 := w64s (by omega)
  clear H
  refine callsIn_of_wp_marks Try.func12 rfl trivial ?_ rfl
  simp only [Try.ntmps12, List.size_toArray, List.length_cons, List.length_nil, Nat.reduceAdd, Nat.reduceSub, Array.replicate_succ, Array.replicate_zero, List.push_toArray, List.append_toArray, List.nil_append, List.cons_append]
  gi_wp2_with (first | (refine ⟨trivial, ?_⟩; gi_at_call 19; refine (callsIn_wide.2 HH.out).mono ?_; rintro e w2 ⟨rfl, hb2⟩; have HB2 := Aside0.mk (below_alloc (below_alloc (below_step HB.out hb2) (.cells #[.int .i64 x] 3)) (.cells #[.int .i64 y] 3)); have HN := Aside0.mk (NF.start (x := x) (y := y) hb2 hg hb hrows); clear hb2; obtain ⟨k1, k2, k3, k4, k5, k6, k7, k8⟩ := HN.out.cells) | fail)
  clear HB HH k1 k2 k3 k4 k5 k6 k7 k8
  obtain ⟨b5, eb5⟩ : ∃ b, b = w2.heap.size := ⟨_, rfl⟩
  rw [← eb5] at HN ⊢
  clear eb5
  generalize (w2.alloc (.cells #[.int .i64 x] 3)).alloc (.cells #[.int .i64 y] 3) = W0 at HN HB2 ⊢
  refine wpIn_loop (fun a' W => ∃ (i : Nat) (ds : List Nat) (u8 u34 u35 u36 u37 u69 : Value), a' = { tmps := #[.pointer (some ⟨g, 0, none⟩), .agg #[.int .i64 px, .int .i64 py], .pointer (some ⟨w.heap.size, 0, none⟩), .pointer (some ⟨w.heap.size + 1, 0, none⟩), .pointer (some ⟨w.heap.size + 1 + 1, 0, none⟩), .pointer (some ⟨b5, 0, none⟩), .pointer (some ⟨b5 + 1, 0, none⟩), .bool true, u8, undef, undef, undef, .tuple #[.int .i64 x, .int .i64 y, .bool true], .pointer (some ⟨g, 0, none⟩), .agg #[.int .i64 px, .int .i64 py], .tuple #[.int .i64 x, .int .i64 y, .bool true], .int .i64 x, .int .i64 y, .bool true, .bool true, .bool false, .bool false, .pointer (some ⟨g, 0, none⟩), .pointer (some ⟨g, 0, none⟩), .pointer (some ⟨g, 3, none⟩), .int .i64 m, .bool false, .bool false, .pointer (some ⟨g, 0, none⟩), .pointer (some ⟨g, 0, none⟩), .pointer (some ⟨g, 1, none⟩), .int .i64 n, .int .i64 (n + 1), .int .i64 (i : Int), u34, u35, u36, u37, undef, undef, undef, undef, undef, undef, undef, undef, undef, undef, undef, undef, undef, undef, undef, undef, undef, undef, undef, undef, undef, undef, undef, undef, undef, undef, undef, undef, undef, undef, undef, u69], defers := ds.map mark } ∧ (i : Int) ≤ n + 1 ∧ NF g b w.heap.size (w.heap.size + 1 + 1) b5 (b5 + 1) side n m x y M cs mins W ∧ Below w.heap.size w W ∧ (∀ D, D ∈ ds → w.heap.size ≤ D ∧ W.heap[D]? = some (.deferred (some []))) ∧ ds.Nodup ∧ (∀ f' : Nat, f' < i → ∀ q ∈ ring f', hit n x y mins q = none))
    (fun a' _ => (n + 1 - intOf (a'.tmps.getD 33 undef)).toNat) ?start ?round
  case start => exact ⟨0, [], undef, undef, undef, undef, undef, undef, rfl, by omega, HN.out, HB2.out, (fun D hD => absurd hD List.not_mem_nil), List.nodup_nil, fun f' hf => absurd hf (Nat.not_lt_zero _)⟩
  case round =>
    clear HN HB2
    rintro a' W ⟨i, ds, u8, u34, u35, u36, u37, u69, rfl, hi, hNF, hBW, hDs, hnd, hpast⟩
    have HI := Aside0.mk hi
    have HP := Aside0.mk (And.intro hDs (And.intro hnd hpast))
    have HW := Aside0.mk (And.intro hNF hBW)
    clear hi hDs hnd hpast hNF hBW
    by_cases hlt : (i : Int) < n + 1
    · have hdec : decide ((i : Int) < n + 1) = true := decide_eq_true hlt
      gi_wp2_with (first | (refine ⟨trivial, ?_⟩; gi_at_call 21; refine (callsIn_wide.2 (about_c (i : Int) W)).mono ?_; rintro e w3 ⟨rfl, hw3⟩) | fail)
      clear hdec
      have hcell : (W.alloc (.cells #[.int .i64 (i : Int)] 3)).cell? ⟨W.heap.size, 0, none⟩ = some (.int .i64 (i : Int)) := (blk_cell (blk_new W _) 0).trans rfl
      have hs3 : (W.alloc (.cells #[.int .i64 (i : Int)] 3)).heap.size = W.heap.size + 1 := World.size_alloc _ _
      have hNF1 := HW.out.1.keep (CK.below (below_alloc (Below.refl W.heap.size W) (.cells #[.int .i64 (i : Int)] 3)))
      have hB1 := below_alloc HW.out.2 (.cells #[.int .i64 (i : Int)] 3)
      have hD1 : ∀ D, D ∈ ds → w.heap.size ≤ D ∧ (W.alloc (.cells #[.int .i64 (i : Int)] 3)).heap[D]? = some (.deferred (some [])) := fun D hD => ⟨(HP.out.1 D hD).1, blk_alloc (HP.out.1 D hD).2 _⟩
      have hlD : ∀ D, D ∈ ds → D < (W.alloc (.cells #[.int .i64 (i : Int)] 3)).heap.size := fun D hD => blk_lt (hD1 D hD).2
      obtain ⟨b7, e7⟩ : ∃ b, b = W.heap.size := ⟨_, rfl⟩
      rw [← e7] at hcell hs3 ⊢
      clear e7
      generalize W.alloc (.cells #[.int .i64 (i : Int)] 3) = W1 at hcell hs3 hNF1 hB1 hD1 hlD ⊢
      have hwW := hB1.size
      refine wpIn_rangeFunc_ownF (F := Fence.wide) (n := 8) rfl (by decide) (gf := 34) (lb := #[.pointer (some ⟨b7, 0, none⟩)]) rfl trivial (enters_of Try.func34 (by kernel_rfl) rfl)
        (about_stops Fence.wide (8 - 1) trivial rfl (by decide) b7 (b7 + 1) (Nat.lt_succ_self _) (i : Int) (by omega) (by omega) W1 (by omega) hcell) belowK_t (belowK_b (by omega)) (Below.refl _ _) (fun _ => rfl)
        (fun pre W' => (NF g b w.heap.size (w.heap.size + 1 + 1) b5 (b5 + 1) side n m x y M cs mins W' ∧ Below w.heap.size w W' ∧ (∀ D, D ∈ ds → w.heap.size ≤ D ∧ W'.heap[D]? = some (.deferred (some [])))) ∧ (∀ q ∈ pre, hit n x y mins q = none))
        (fun c pre W' => c = .ret ∧ ∃ (pre' : List (Int × Int)) (p : Int × Int) (r : Int), pre = pre' ++ [p] ∧ (∀ q ∈ pre', hit n x y mins q = none) ∧ hit n x y mins p = some r ∧ W'.heap[w.heap.size + 1 + 1]? = some (.cells #[.int .i64 r] 3 (0, 0)) ∧ Below w.heap.size w W' ∧ (∀ D, D ∈ ds → w.heap.size ≤ D ∧ W'.heap[D]? = some (.deferred (some []))))
        ?hI ?hIx ⟨⟨hNF1, hB1, hD1⟩, fun q hq => absurd hq List.not_mem_nil⟩ (fun x_ => { tmps := #[.pointer (some ⟨g, 0, none⟩), .agg #[.int .i64 px, .int .i64 py], .pointer (some ⟨w.heap.size, 0, none⟩), .pointer (some ⟨w.heap.size + 1, 0, none⟩), .pointer (some ⟨w.heap.size + 1 + 1, 0, none⟩), .pointer (some ⟨b5, 0, none⟩), .pointer (some ⟨b5 + 1, 0, none⟩), .bool true, .int .i64 (i : Int), .int .i64 x_.1, .int .i64 x_.2, undef, .tuple #[.int .i64 x, .int .i64 y, .bool true], .pointer (some ⟨g, 0, none⟩), .agg #[.int .i64 px, .int .i64 py], .tuple #[.int .i64 x, .int .i64 y, .bool true], .int .i64 x, .int .i64 y, .bool true, .bool true, .bool false, .bool false, .pointer (some ⟨g, 0, none⟩), .pointer (some ⟨g, 0, none⟩), .pointer (some ⟨g, 3, none⟩), .int .i64 m, .bool false, .bool false, .pointer (some ⟨g, 0, none⟩), .pointer (some ⟨g, 0, none⟩), .pointer (some ⟨g, 1, none⟩), .int .i64 n, .int .i64 (n + 1), .int .i64 (i : Int), .bool true, .int .i64 (i : Int), .int .i64 (i : Int), .func (.func 34) #[] #[.pointer (some ⟨b7, 0, none⟩)], .int .i64 x_.1, .int .i64 x_.2, undef, undef, undef, undef, undef, undef, undef, undef, undef, undef, undef, undef, undef, undef, undef, undef, undef, undef, undef, undef, undef, undef, undef, undef, undef, undef, undef, undef, undef, u69], defers := [] }) ?assign ?body ?done ?stop
      case hI =>
        intro s A B row hs hg hr
        exact ⟨⟨hs.1.1.keep (CK.grown hg (fun r e => (hr r e).2)), hs.1.2.1.grown hg hs.1.2.1.size (fun k e => Nat.le_trans hwW (hr k e).1), fun D hD => ⟨(hs.1.2.2 D hD).1, blk_grown (hs.1.2.2 D hD).2 hg (fun e => by have := (hr D e.symm).1; have := hlD D hD; omega)⟩⟩, hs.2⟩
      case hIx =>
        intro c s A B row hs hg hr
        obtain ⟨e0, pre', p, r, e1, e2, e3, e4, e5, e6⟩ := hs
        exact ⟨e0, pre', p, r, e1, e2, e3, CK.grown hg (fun r e => (hr r e).2) _ _ _ e4, e5.grown hg e5.size (fun k e => Nat.le_trans hwW (hr k e).1), fun D hD => ⟨(e6 D hD).1, blk_grown (e6 D hD).2 hg (fun e => by have := (hr D e.symm).1; have := hlD D hD; omega)⟩⟩
      case assign =>
        intro l x_ W' K hK
        gi_wp2
        exact hK
      case body =>
        rintro l pre x_ W3 ⟨⟨hNF, hB, hD⟩, hp⟩ hln
        obtain ⟨X1, hX1⟩ : ∃ X, X = x + Int.tmod x_.1 n := ⟨_, rfl⟩
        obtain ⟨Y1, hY1⟩ : ∃ Y, Y = y + Int.tmod x_.2 n := ⟨_, rfl⟩
        have tb1 := tmod_bd (a := x_.1) h1
        have tb2 := tmod_bd (a := x_.2) h1
        have wx : IntKind.i64.wrap (x + Int.tmod x_.1 n) = X1 := by rw [w64s (by omega), hX1]
        have wy : IntKind.i64.wrap (y + Int.tmod x_.2 n) = Y1 := by rw [w64s (by omega), hY1]
        have HX : Aside0 (-n ≤ X1 ∧ X1 ≤ 1000 ∧ -n ≤ Y1 ∧ Y1 ≤ 1000) := ⟨by omega⟩
        have ib := idx_bd (n := n) (x := X1) (y := Y1) h1
        obtain ⟨j, hj⟩ : ∃ j : Nat, idx n X1 Y1 = (j : Int) := ⟨(idx n X1 Y1).toNat, by omega⟩
        have hhit : hit n x y mins x_ = mins j := by unfold hit; rw [← hX1, ← hY1, hj, Int.toNat_natCast]
        have HJ := Aside0.mk hj
        have i0 : (0 : Int) ≤ (j : Int) := by omega
        have i1 : (j : Int) < (M : Int) := by omega
        have jM : j < M := by omega
        have nz : (n == 0) = false := beq_eq_false_iff_ne.mpr (by omega)
        have nz2 : ¬ n = 0 := by omega
        clear hX1 hY1 tb1 tb2 ib hj hM
        cases hmj : mins j with
        | none =>
          have hcj := hnone j jM hmj
          refine wpIn_block (wpIn_seq ?_)
          refine startR_ (n := 25) (S := fun w' => CK W3 w') (ds := []) (by rintro ⟨a_, w_, h_⟩; exact h_) (by kernel_rfl) #[false, false, false, false, false, false, false, false, false, false, false, false, false, false, false, false, false, false, false, false, false, false, false, false, false] (by kernel_rfl) rfl rfl (CK.drew _) (fun hHeld => ?_)
          refine take_ (i := 0) (N := some 40) (v := ?_) (a' := ?_) #[true, false, false, false, false, false, false, false, false, false, false, false, false, false, false, false, false, false, false, false, false, false, false, false, false] rfl rfl (by kernel_rfl) (fun _ _ _ h => h) (Or.inl ⟨by rfl, ?_⟩) hHeld ?_ ?_
          rotate_left
          · intro w' s0
            obtain ⟨k1, k2, k3, k4, k5, k6, k7, k8⟩ := (hNF.keep s0).cells
            go_simp
            with_reducible rfl
          rotate_left
          · simp only [Act.put, List.setIfInBounds_toArray, List.set_cons_zero, List.set_cons_succ, i64_w, i32_w]
            rfl
          refine pure_ (i := 1) (N := some 41) (v := ?_) (a' := ?_) #[true, true, false, false, false, false, false, false, false, false, false, false, false, false, false, false, false, false, false, false, false, false, false, false, false] rfl rfl (by kernel_rfl) (fun _ _ _ h => h) (Or.inl ⟨by rfl, ?_⟩) ?_ ?_
          rotate_left
          · intro w'
            go_simp
            with_reducible rfl
          rotate_left
          · simp only [Act.put, List.setIfInBounds_toArray, List.set_cons_zero, List.set_cons_succ, i64_w, i32_w]
            rfl
          refine pure_ (i := 2) (N := some 42) (v := ?_) (a' := ?_) #[true, true, true, false, false, false, false, false, false, false, false, false, false, false, false, false, false, false, false, false, false, false, false, false, false] rfl rfl (by kernel_rfl) (fun _ _ _ h => h) (Or.inl ⟨by rfl, ?_⟩) ?_ ?_
          rotate_left
          · intro w'
            go_simp
            with_reducible rfl
          rotate_left
          · simp only [Act.put, List.setIfInBounds_toArray, List.set_cons_zero, List.set_cons_succ, i64_w, i32_w]
            rfl
          refine take_ (i := 3) (N := some 43) (v := ?_) (a' := ?_) #[true, true, true, true, false, false, false, false, false, false, false, false, false, false, false, false, false, false, false, false, false, false, false, false, false] rfl rfl (by kernel_rfl) (fun _ _ _ h => h) (Or.inl ⟨by rfl, ?_⟩) hHeld ?_ ?_
          rotate_left
          · intro w' s0
            obtain ⟨k1, k2, k3, k4, k5, k6, k7, k8⟩ := (hNF.keep s0).cells
            go_simp
            with_reducible rfl
          rotate_left
          · simp only [Act.put, List.setIfInBounds_toArray, List.set_cons_zero, List.set_cons_succ, i64_w, i32_w]
            rfl
          refine take_ (i := 4) (N := some 44) (v := ?_) (a' := ?_) #[true, true, true, true, true, false, false, false, false, false, false, false, false, false, false, false, false, false, false, false, false, false, false, false, false] rfl rfl (by kernel_rfl) (fun _ _ _ h => h) (Or.inl ⟨by rfl, ?_⟩) hHeld ?_ ?_
          rotate_left
          · intro w' s0
            obtain ⟨k1, k2, k3, k4, k5, k6, k7, k8⟩ := (hNF.keep s0).cells
            go_simp
            with_reducible rfl
          rotate_left
          · simp only [Act.put, List.setIfInBounds_toArray, List.set_cons_zero, List.set_cons_succ, i64_w, i32_w]
            rfl
          refine take_ (i := 5) (N := some 45) (v := ?_) (a' := ?_) #[true, true, true, true, true, true, false, false, false, false, false, false, false, false, false, false, false, false, false, false, false, false, false, false, false] rfl rfl (by kernel_rfl) (fun _ _ _ h => h) (Or.inl ⟨by rfl, ?_⟩) hHeld ?_ ?_
          rotate_left
          · intro w' s0
            obtain ⟨k1, k2, k3, k4, k5, k6, k7, k8⟩ := (hNF.keep s0).cells
            go_simp
            with_reducible rfl
          rotate_left
          · simp only [Act.put, List.setIfInBounds_toArray, List.set_cons_zero, List.set_cons_succ, i64_w, i32_w]
            rfl
          refine pure_ (i := 6) (N := some 46) (v := ?_) (a' := ?_) #[true, true, true, true, true, true, true, false, false, false, false, false, false, false, false, false, false, false, false, false, false, false, false, false, false] rfl rfl (by kernel_rfl) (fun _ _ _ h => h) (Or.inl ⟨by rfl, ?_⟩) ?_ ?_
          rotate_left
          · intro w'
            go_simp
            with_reducible rfl
          rotate_left
          · simp only [Act.put, List.setIfInBounds_toArray, List.set_cons_zero, List.set_cons_succ, i64_w, i32_w]
            rfl
          refine take_ (i := 7) (N := some 47) (v := ?_) (a' := ?_) #[true, true, true, true, true, true, true, true, false, false, false, false, false, false, false, false, false, false, false, false, false, false, false, false, false] rfl rfl (by kernel_rfl) (fun _ _ _ h => h) (Or.inl ⟨by rfl, ?_⟩) hHeld ?_ ?_
          rotate_left
          · intro w' s0
            obtain ⟨k1, k2, k3, k4, k5, k6, k7, k8⟩ := (hNF.keep s0).cells
            go_simp
            with_reducible rfl
          rotate_left
          · simp only [Act.put, List.setIfInBounds_toArray, List.set_cons_zero, List.set_cons_succ, i64_w, i32_w]
            rfl
          refine pure_ (i := 8) (N := some 48) (v := ?_) (a' := ?_) #[true, true, true, true, true, true, true, true, true, false, false, false, false, false, false, false, false, false, false, false, false, false, false, false, false] rfl rfl (by kernel_rfl) (fun _ _ _ h => h) (Or.inl ⟨by rfl, ?_⟩) ?_ ?_
          rotate_left
          · intro w'
            go_simp
            with_reducible rfl
          rotate_left
          · simp only [Act.put, List.setIfInBounds_toArray, List.set_cons_zero, List.set_cons_succ, i64_w, i32_w]
            rfl
          refine pure_ (i := 9) (N := some 49) (v := ?_) (a' := ?_) #[true, true, true, true, true, true, true, true, true, true, false, false, false, false, false, false, false, false, false, false, false, false, false, false, false] rfl rfl (by kernel_rfl) (fun _ _ _ h => h) (Or.inl ⟨by rfl, ?_⟩) ?_ ?_
          rotate_left
          · intro w'
            go_simp
            with_reducible rfl
          rotate_left
          · simp only [Act.put, List.setIfInBounds_toArray, List.set_cons_zero, List.set_cons_succ, i64_w, i32_w]
            rfl
          refine take_ (i := 10) (N := some 50) (v := ?_) (a' := ?_) #[true, true, true, true, true, true, true, true, true, true, true, false, false, false, false, false, false, false, false, false, false, false, false, false, false] rfl rfl (by kernel_rfl) (fun _ _ _ h => h) (Or.inl ⟨by rfl, ?_⟩) hHeld ?_ ?_
          rotate_left
          · intro w' s0
            obtain ⟨k1, k2, k3, k4, k5, k6, k7, k8⟩ := (hNF.keep s0).cells
            go_simp
            with_reducible rfl
          rotate_left
          · simp only [Act.put, List.setIfInBounds_toArray, List.set_cons_zero, List.set_cons_succ, i64_w, i32_w]
            rfl
          refine pure_ (i := 11) (N := some 51) (v := ?_) (a' := ?_) #[true, true, true, true, true, true, true, true, true, true, true, true, false, false, false, false, false, false, false, false, false, false, false, false, false] rfl rfl (by kernel_rfl) (fun _ _ _ h => h) (Or.inl ⟨by rfl, ?_⟩) ?_ ?_
          rotate_left
          · intro w'
            go_simp
            with_reducible rfl
          rotate_left
          · simp only [Act.put, List.setIfInBounds_toArray, List.set_cons_zero, List.set_cons_succ, i64_w, i32_w]
            rfl
          refine pure_ (i := 12) (N := some 52) (v := ?_) (a' := ?_) #[true, true, true, true, true, true, true, true, true, true, true, true, true, false, false, false, false, false, false, false, false, false, false, false, false] rfl rfl (by kernel_rfl) (fun _ _ _ h => h) (Or.inl ⟨by rfl, ?_⟩) ?_ ?_
          rotate_left
          · intro w'
            go_simp
            with_reducible rfl
          rotate_left
          · simp only [Act.put, List.setIfInBounds_toArray, List.set_cons_zero, List.set_cons_succ, i64_w, i32_w]
            rfl
          refine take_ (i := 13) (N := some 53) (v := ?_) (a' := ?_) #[true, true, true, true, true, true, true, true, true, true, true, true, true, true, false, false, false, false, false, false, false, false, false, false, false] rfl rfl (by kernel_rfl) (fun _ _ _ h => h) (Or.inl ⟨by rfl, ?_⟩) hHeld ?_ ?_
          rotate_left
          · intro w' s0
            obtain ⟨k1, k2, k3, k4, k5, k6, k7, k8⟩ := (hNF.keep s0).cells
            go_simp
            with_reducible rfl
          rotate_left
          · simp only [Act.put, List.setIfInBounds_toArray, List.set_cons_zero, List.set_cons_succ, i64_w, i32_w]
            rfl
          refine pure_ (i := 14) (N := some 54) (v := ?_) (a' := ?_) #[true, true, true, true, true, true, true, true, true, true, true, true, true, true, true, false, false, false, false, false, false, false, false, false, false] rfl rfl (by kernel_rfl) (fun _ _ _ h => h) (Or.inl ⟨by rfl, ?_⟩) ?_ ?_
          rotate_left
          · intro w'
            go_simp
            with_reducible rfl
          rotate_left
          · simp only [Act.put, List.setIfInBounds_toArray, List.set_cons_zero, List.set_cons_succ, i64_w, i32_w]
            rfl
          refine take_ (i := 15) (N := some 55) (v := ?_) (a' := ?_) #[true, true, true, true, true, true, true, true, true, true, true, true, true, true, true, true, false, false, false, false, false, false, false, false, false] rfl rfl (by kernel_rfl) (fun _ _ _ h => h) (Or.inl ⟨by rfl, ?_⟩) hHeld ?_ ?_
          rotate_left
          · intro w' s0
            obtain ⟨k1, k2, k3, k4, k5, k6, k7, k8⟩ := (hNF.keep s0).cells
            go_simp
            with_reducible rfl
          rotate_left
          · simp only [Act.put, List.setIfInBounds_toArray, List.set_cons_zero, List.set_cons_succ, i64_w, i32_w]
            rfl
          refine pure_ (i := 16) (N := some 56) (v := ?_) (a' := ?_) #[true, true, true, true, true, true, true, true, true, true, true, true, true, true, true, true, true, false, false, false, false, false, false, false, false] rfl rfl (by kernel_rfl) (fun _ _ _ h => h) (Or.inl ⟨by rfl, ?_⟩) ?_ ?_
          rotate_left
          · intro w'
            go_simp
            with_reducible rfl
          rotate_left
          · simp only [Act.put, List.setIfInBounds_toArray, List.set_cons_zero, List.set_cons_succ, i64_w, i32_w]
            rfl
          refine pure_ (i := 17) (N := some 57) (v := ?_) (a' := ?_) #[true, true, true, true, true, true, true, true, true, true, true, true, true, true, true, true, true, true, false, false, false, false, false, false, false] rfl rfl (by kernel_rfl) (fun _ _ _ h => h) (Or.inl ⟨by rfl, ?_⟩) ?_ ?_
          rotate_left
          · intro w'
            go_simp
            with_reducible rfl
          rotate_left
          · simp only [Act.put, List.setIfInBounds_toArray, List.set_cons_zero, List.set_cons_succ, i64_w, i32_w]
            rfl
          refine take_ (i := 18) (N := some 58) (v := ?_) (a' := ?_) #[true, true, true, true, true, true, true, true, true, true, true, true, true, true, true, true, true, true, true, false, false, false, false, false, false] rfl rfl (by kernel_rfl) (fun _ _ _ h => h) (Or.inl ⟨by rfl, ?_⟩) hHeld ?_ ?_
          rotate_left
          · intro w' s0
            obtain ⟨k1, k2, k3, k4, k5, k6, k7, k8⟩ := (hNF.keep s0).cells
            go_simp
            with_reducible rfl
          rotate_left
          · simp only [Act.put, List.setIfInBounds_toArray, List.set_cons_zero, List.set_cons_succ, i64_w, i32_w]
            rfl
          refine pure_ (i := 19) (N := some 59) (v := ?_) (a' := ?_) #[true, true, true, true, true, true, true, true, true, true, true, true, true, true, true, true, true, true, true, true, false, false, false, false, false] rfl rfl (by kernel_rfl) (fun _ _ _ h => h) (Or.inl ⟨by rfl, ?_⟩) ?_ ?_
          rotate_left
          · intro w'
            go_simp
            with_reducible rfl
          rotate_left
          · simp only [Act.put, List.setIfInBounds_toArray, List.set_cons_zero, List.set_cons_succ, i64_w, i32_w]
            rfl
          refine pure_ (i := 20) (N := some 60) (v := ?_) (a' := ?_) #[true, true, true, true, true, true, true, true, true, true, true, true, true, true, true, true, true, true, true, true, true, false, false, false, false] rfl rfl (by kernel_rfl) (fun _ _ _ h => h) (Or.inl ⟨by rfl, ?_⟩) ?_ ?_
          rotate_left
          · intro w'
            go_simp
            with_reducible rfl
          rotate_left
          · simp only [Act.put, List.setIfInBounds_toArray, List.set_cons_zero, List.set_cons_succ, i64_w, i32_w]
            rfl
          clear hHeld
          refine one_ (i := 21) (N := some 61) #[true, true, true, true, true, true, true, true, true, true, true, true, true, true, true, true, true, true, true, true, true, true, false, false, false] rfl rfl (by kernel_rfl) (by decide) (fun K hK => ?_)
          refine goes_ Try.func22 (by kernel_rfl) rfl #[.pointer (some ⟨g, 0, none⟩), .int .i64 X1, .int .i64 Y1] (by rfl) rfl rfl (by (try simp only [List.map_toArray, List.map_cons, List.map_nil]); first | done | rfl) ?_
          have hat := at_c g n X1 Y1 W3.drew h1 h2 HX.out.1 HX.out.2.1 HX.out.2.2.1 HX.out.2.2.2 (hNF.keep (CK.drew _)).cells.2.2.2.2.2.1
          rw [HJ.out] at hat
          with_reducible refine hat.mono ?_
          rintro e w4 ⟨rfl, rfl⟩
          clear hat
          refine ⟨_, rfl, ?_⟩
          refine hK.out _ _ ((CK.drew _).trans (CK.drew _)) (fun hHeld => ?_)
          clear hK K
          refine norm_ (a' := ?_) ?_ ?_
          rotate_left
          · show Act.put _ (some 61) _ = _
            simp only [Act.put, List.setIfInBounds_toArray, List.set_cons_zero, List.set_cons_succ, i64_w, i32_w]
            rfl
          refine pure_ (i := 22) (N := some 62) (v := ?_) (a' := ?_) #[true, true, true, true, true, true, true, true, true, true, true, true, true, true, true, true, true, true, true, true, true, true, true, false, false] rfl rfl (by kernel_rfl) (fun _ _ _ h => h) (Or.inl ⟨by rfl, ?_⟩) ?_ ?_
          rotate_left
          · intro w'
            go_simp
            with_reducible rfl
          rotate_left
          · simp only [Act.put, List.setIfInBounds_toArray, List.set_cons_zero, List.set_cons_succ, i64_w, i32_w]
            rfl
          refine take_ (i := 23) (N := some 63) (v := ?_) (a' := ?_) #[true, true, true, true, true, true, true, true, true, true, true, true, true, true, true, true, true, true, true, true, true, true, true, true, false] rfl rfl (by kernel_rfl) (fun _ _ _ h => h) (Or.inl ⟨by rfl, ?_⟩) hHeld ?_ ?_
          rotate_left
          · intro w' s0
            have k9 := (blk_cell (s0 _ _ _ hNF.out.2.2.2.2.2.1) j).trans hcj
            go_simp
            with_reducible rfl
          rotate_left
          · simp only [Act.put, List.setIfInBounds_toArray, List.set_cons_zero, List.set_cons_succ, i64_w, i32_w]
            rfl
          refine pure_ (i := 24) (N := some 11) (v := ?_) (a' := ?_) #[true, true, true, true, true, true, true, true, true, true, true, true, true, true, true, true, true, true, true, true, true, true, true, true, true] rfl rfl (by kernel_rfl) (fun _ _ _ h => h) (Or.inl ⟨by rfl, ?_⟩) ?_ ?_
          rotate_left
          · intro w'
            go_simp
            with_reducible rfl
          rotate_left
          · simp only [Act.put, List.setIfInBounds_toArray, List.set_cons_zero, List.set_cons_succ, i64_w, i32_w]
            rfl
          refine done_ (by kernel_rfl) ?_
          gi_wp2
          refine ⟨(KeepsOthers.drew _).trans (KeepsOthers.drew _), below_drew (below_drew (Below.refl _ _)), ⟨hNF.keep ((CK.drew _).trans (CK.drew _)), below_drew (below_drew hB), fun D hD' => hD D hD'⟩, fun q hq => ?_⟩
          rcases List.mem_append.1 hq with hq | hq
          · exact hp q hq
          · rw [List.mem_singleton.1 hq]; exact hhit.trans hmj
        | some v =>
          obtain ⟨h, len, c, hc, hcj, hlen, hh, hmin⟩ := hNF.out.2.2.2.2.2.2 j v hmj
          have dl : decide ((0 : Int) < (len : Int)) = true := decide_eq_true (by omega)
          have hlen2 : 0 < len := hlen
          refine wpIn_block (wpIn_seq ?_)
          refine startR_ (n := 25) (S := fun w' => CK W3 w') (ds := []) (by rintro ⟨a_, w_, h_⟩; exact h_) (by kernel_rfl) #[false, false, false, false, false, false, false, false, false, false, false, false, false, false, false, false, false, false, false, false, false, false, false, false, false] (by kernel_rfl) rfl rfl (CK.drew _) (fun hHeld => ?_)
          refine take_ (i := 0) (N := some 40) (v := ?_) (a' := ?_) #[true, false, false, false, false, false, false, false, false, false, false, false, false, false, false, false, false, false, false, false, false, false, false, false, false] rfl rfl (by kernel_rfl) (fun _ _ _ h => h) (Or.inl ⟨by rfl, ?_⟩) hHeld ?_ ?_
          rotate_left
          · intro w' s0
            obtain ⟨k1, k2, k3, k4, k5, k6, k7, k8⟩ := (hNF.keep s0).cells
            go_simp
            with_reducible rfl
          rotate_left
          · simp only [Act.put, List.setIfInBounds_toArray, List.set_cons_zero, List.set_cons_succ, i64_w, i32_w]
            rfl
          refine pure_ (i := 1) (N := some 41) (v := ?_) (a' := ?_) #[true, true, false, false, false, false, false, false, false, false, false, false, false, false, false, false, false, false, false, false, false, false, false, false, false] rfl rfl (by kernel_rfl) (fun _ _ _ h => h) (Or.inl ⟨by rfl, ?_⟩) ?_ ?_
          rotate_left
          · intro w'
            go_simp
            with_reducible rfl
          rotate_left
          · simp only [Act.put, List.setIfInBounds_toArray, List.set_cons_zero, List.set_cons_succ, i64_w, i32_w]
            rfl
          refine pure_ (i := 2) (N := some 42) (v := ?_) (a' := ?_) #[true, true, true, false, false, false, false, false, false, false, false, false, false, false, false, false, false, false, false, false, false, false, false, false, false] rfl rfl (by kernel_rfl) (fun _ _ _ h => h) (Or.inl ⟨by rfl, ?_⟩) ?_ ?_
          rotate_left
          · intro w'
            go_simp
            with_reducible rfl
          rotate_left
          · simp only [Act.put, List.setIfInBounds_toArray, List.set_cons_zero, List.set_cons_succ, i64_w, i32_w]
            rfl
          refine take_ (i := 3) (N := some 43) (v := ?_) (a' := ?_) #[true, true, true, true, false, false, false, false, false, false, false, false, false, false, false, false, false, false, false, false, false, false, false, false, false] rfl rfl (by kernel_rfl) (fun _ _ _ h => h) (Or.inl ⟨by rfl, ?_⟩) hHeld ?_ ?_
          rotate_left
          · intro w' s0
            obtain ⟨k1, k2, k3, k4, k5, k6, k7, k8⟩ := (hNF.keep s0).cells
            go_simp
            with_reducible rfl
          rotate_left
          · simp only [Act.put, List.setIfInBounds_toArray, List.set_cons_zero, List.set_cons_succ, i64_w, i32_w]
            rfl
          refine take_ (i := 4) (N := some 44) (v := ?_) (a' := ?_) #[true, true, true, true, true, false, false, false, false, false, false, false, false, false, false, false, false, false, false, false, false, false, false, false, false] rfl rfl (by kernel_rfl) (fun _ _ _ h => h) (Or.inl ⟨by rfl, ?_⟩) hHeld ?_ ?_
          rotate_left
          · intro w' s0
            obtain ⟨k1, k2, k3, k4, k5, k6, k7, k8⟩ := (hNF.keep s0).cells
            go_simp
            with_reducible rfl
          rotate_left
          · simp only [Act.put, List.setIfInBounds_toArray, List.set_cons_zero, List.set_cons_succ, i64_w, i32_w]
            rfl
          refine take_ (i := 5) (N := some 45) (v := ?_) (a' := ?_) #[true, true, true, true, true, true, false, false, false, false, false, false, false, false, false, false, false, false, false, false, false, false, false, false, false] rfl rfl (by kernel_rfl) (fun _ _ _ h => h) (Or.inl ⟨by rfl, ?_⟩) hHeld ?_ ?_
          rotate_left
          · intro w' s0
            obtain ⟨k1, k2, k3, k4, k5, k6, k7, k8⟩ := (hNF.keep s0).cells
            go_simp
            with_reducible rfl
          rotate_left
          · simp only [Act.put, List.setIfInBounds_toArray, List.set_cons_zero, List.set_cons_succ, i64_w, i32_w]
            rfl
          refine pure_ (i := 6) (N := some 46) (v := ?_) (a' := ?_) #[true, true, true, true, true, true, true, false, false, false, false, false, false, false, false, false, false, false, false, false, false, false, false, false, false] rfl rfl (by kernel_rfl) (fun _ _ _ h => h) (Or.inl ⟨by rfl, ?_⟩) ?_ ?_
          rotate_left
          · intro w'
            go_simp
            with_reducible rfl
          rotate_left
          · simp only [Act.put, List.setIfInBounds_toArray, List.set_cons_zero, List.set_cons_succ, i64_w, i32_w]
            rfl
          refine take_ (i := 7) (N := some 47) (v := ?_) (a' := ?_) #[true, true, true, true, true, true, true, true, false, false, false, false, false, false, false, false, false, false, false, false, false, false, false, false, false] rfl rfl (by kernel_rfl) (fun _ _ _ h => h) (Or.inl ⟨by rfl, ?_⟩) hHeld ?_ ?_
          rotate_left
          · intro w' s0
            obtain ⟨k1, k2, k3, k4, k5, k6, k7, k8⟩ := (hNF.keep s0).cells
            go_simp
            with_reducible rfl
          rotate_left
          · simp only [Act.put, List.setIfInBounds_toArray, List.set_cons_zero, List.set_cons_succ, i64_w, i32_w]
            rfl
          refine pure_ (i := 8) (N := some 48) (v := ?_) (a' := ?_) #[true, true, true, true, true, true, true, true, true, false, false, false, false, false, false, false, false, false, false, false, false, false, false, false, false] rfl rfl (by kernel_rfl) (fun _ _ _ h => h) (Or.inl ⟨by rfl, ?_⟩) ?_ ?_
          rotate_left
          · intro w'
            go_simp
            with_reducible rfl
          rotate_left
          · simp only [Act.put, List.setIfInBounds_toArray, List.set_cons_zero, List.set_cons_succ, i64_w, i32_w]
            rfl
          refine pure_ (i := 9) (N := some 49) (v := ?_) (a' := ?_) #[true, true, true, true, true, true, true, true, true, true, false, false, false, false, false, false, false, false, false, false, false, false, false, false, false] rfl rfl (by kernel_rfl) (fun _ _ _ h => h) (Or.inl ⟨by rfl, ?_⟩) ?_ ?_
          rotate_left
          · intro w'
            go_simp
            with_reducible rfl
          rotate_left
          · simp only [Act.put, List.setIfInBounds_toArray, List.set_cons_zero, List.set_cons_succ, i64_w, i32_w]
            rfl
          refine take_ (i := 10) (N := some 50) (v := ?_) (a' := ?_) #[true, true, true, true, true, true, true, true, true, true, true, false, false, false, false, false, false, false, false, false, false, false, false, false, false] rfl rfl (by kernel_rfl) (fun _ _ _ h => h) (Or.inl ⟨by rfl, ?_⟩) hHeld ?_ ?_
          rotate_left
          · intro w' s0
            obtain ⟨k1, k2, k3, k4, k5, k6, k7, k8⟩ := (hNF.keep s0).cells
            go_simp
            with_reducible rfl
          rotate_left
          · simp only [Act.put, List.setIfInBounds_toArray, List.set_cons_zero, List.set_cons_succ, i64_w, i32_w]
            rfl
          refine pure_ (i := 11) (N := some 51) (v := ?_) (a' := ?_) #[true, true, true, true, true, true, true, true, true, true, true, true, false, false, false, false, false, false, false, false, false, false, false, false, false] rfl rfl (by kernel_rfl) (fun _ _ _ h => h) (Or.inl ⟨by rfl, ?_⟩) ?_ ?_
          rotate_left
          · intro w'
            go_simp
            with_reducible rfl
          rotate_left
          · simp only [Act.put, List.setIfInBounds_toArray, List.set_cons_zero, List.set_cons_succ, i64_w, i32_w]
            rfl
          refine pure_ (i := 12) (N := some 52) (v := ?_) (a' := ?_) #[true, true, true, true, true, true, true, true, true, true, true, true, true, false, false, false, false, false, false, false, false, false, false, false, false] rfl rfl (by kernel_rfl) (fun _ _ _ h => h) (Or.inl ⟨by rfl, ?_⟩) ?_ ?_
          rotate_left
          · intro w'
            go_simp
            with_reducible rfl
          rotate_left
          · simp only [Act.put, List.setIfInBounds_toArray, List.set_cons_zero, List.set_cons_succ, i64_w, i32_w]
            rfl
          refine take_ (i := 13) (N := some 53) (v := ?_) (a' := ?_) #[true, true, true, true, true, true, true, true, true, true, true, true, true, true, false, false, false, false, false, false, false, false, false, false, false] rfl rfl (by kernel_rfl) (fun _ _ _ h => h) (Or.inl ⟨by rfl, ?_⟩) hHeld ?_ ?_
          rotate_left
          · intro w' s0
            obtain ⟨k1, k2, k3, k4, k5, k6, k7, k8⟩ := (hNF.keep s0).cells
            go_simp
            with_reducible rfl
          rotate_left
          · simp only [Act.put, List.setIfInBounds_toArray, List.set_cons_zero, List.set_cons_succ, i64_w, i32_w]
            rfl
          refine pure_ (i := 14) (N := some 54) (v := ?_) (a' := ?_) #[true, true, true, true, true, true, true, true, true, true, true, true, true, true, true, false, false, false, false, false, false, false, false, false, false] rfl rfl (by kernel_rfl) (fun _ _ _ h => h) (Or.inl ⟨by rfl, ?_⟩) ?_ ?_
          rotate_left
          · intro w'
            go_simp
            with_reducible rfl
          rotate_left
          · simp only [Act.put, List.setIfInBounds_toArray, List.set_cons_zero, List.set_cons_succ, i64_w, i32_w]
            rfl
          refine take_ (i := 15) (N := some 55) (v := ?_) (a' := ?_) #[true, true, true, true, true, true, true, true, true, true, true, true, true, true, true, true, false, false, false, false, false, false, false, false, false] rfl rfl (by kernel_rfl) (fun _ _ _ h => h) (Or.inl ⟨by rfl, ?_⟩) hHeld ?_ ?_
          rotate_left
          · intro w' s0
            obtain ⟨k1, k2, k3, k4, k5, k6, k7, k8⟩ := (hNF.keep s0).cells
            go_simp
            with_reducible rfl
          rotate_left
          · simp only [Act.put, List.setIfInBounds_toArray, List.set_cons_zero, List.set_cons_succ, i64_w, i32_w]
            rfl
          refine pure_ (i := 16) (N := some 56) (v := ?_) (a' := ?_) #[true, true, true, true, true, true, true, true, true, true, true, true, true, true, true, true, true, false, false, false, false, false, false, false, false] rfl rfl (by kernel_rfl) (fun _ _ _ h => h) (Or.inl ⟨by rfl, ?_⟩) ?_ ?_
          rotate_left
          · intro w'
            go_simp
            with_reducible rfl
          rotate_left
          · simp only [Act.put, List.setIfInBounds_toArray, List.set_cons_zero, List.set_cons_succ, i64_w, i32_w]
            rfl
          refine pure_ (i := 17) (N := some 57) (v := ?_) (a' := ?_) #[true, true, true, true, true, true, true, true, true, true, true, true, true, true, true, true, true, true, false, false, false, false, false, false, false] rfl rfl (by kernel_rfl) (fun _ _ _ h => h) (Or.inl ⟨by rfl, ?_⟩) ?_ ?_
          rotate_left
          · intro w'
            go_simp
            with_reducible rfl
          rotate_left
          · simp only [Act.put, List.setIfInBounds_toArray, List.set_cons_zero, List.set_cons_succ, i64_w, i32_w]
            rfl
          refine take_ (i := 18) (N := some 58) (v := ?_) (a' := ?_) #[true, true, true, true, true, true, true, true, true, true, true, true, true, true, true, true, true, true, true, false, false, false, false, false, false] rfl rfl (by kernel_rfl) (fun _ _ _ h => h) (Or.inl ⟨by rfl, ?_⟩) hHeld ?_ ?_
          rotate_left
          · intro w' s0
            obtain ⟨k1, k2, k3, k4, k5, k6, k7, k8⟩ := (hNF.keep s0).cells
            go_simp
            with_reducible rfl
          rotate_left
          · simp only [Act.put, List.setIfInBounds_toArray, List.set_cons_zero, List.set_cons_succ, i64_w, i32_w]
            rfl
          refine pure_ (i := 19) (N := some 59) (v := ?_) (a' := ?_) #[true, true, true, true, true, true, true, true, true, true, true, true, true, true, true, true, true, true, true, true, false, false, false, false, false] rfl rfl (by kernel_rfl) (fun _ _ _ h => h) (Or.inl ⟨by rfl, ?_⟩) ?_ ?_
          rotate_left
          · intro w'
            go_simp
            with_reducible rfl
          rotate_left
          · simp only [Act.put, List.setIfInBounds_toArray, List.set_cons_zero, List.set_cons_succ, i64_w, i32_w]
            rfl
          refine pure_ (i := 20) (N := some 60) (v := ?_) (a' := ?_) #[true, true, true, true, true, true, true, true, true, true, true, true, true, true, true, true, true, true, true, true, true, false, false, false, false] rfl rfl (by kernel_rfl) (fun _ _ _ h => h) (Or.inl ⟨by rfl, ?_⟩) ?_ ?_
          rotate_left
          · intro w'
            go_simp
            with_reducible rfl
          rotate_left
          · simp only [Act.put, List.setIfInBounds_toArray, List.set_cons_zero, List.set_cons_succ, i64_w, i32_w]
            rfl
          clear hHeld
          refine one_ (i := 21) (N := some 61) #[true, true, true, true, true, true, true, true, true, true, true, true, true, true, true, true, true, true, true, true, true, true, false, false, false] rfl rfl (by kernel_rfl) (by decide) (fun K hK => ?_)
          refine goes_ Try.func22 (by kernel_rfl) rfl #[.pointer (some ⟨g, 0, none⟩), .int .i64 X1, .int .i64 Y1] (by rfl) rfl rfl (by (try simp only [List.map_toArray, List.map_cons, List.map_nil]); first | done | rfl) ?_
          have hat := at_c g n X1 Y1 W3.drew h1 h2 HX.out.1 HX.out.2.1 HX.out.2.2.1 HX.out.2.2.2 (hNF.keep (CK.drew _)).cells.2.2.2.2.2.1
          rw [HJ.out] at hat
          with_reducible refine hat.mono ?_
          rintro e w4 ⟨rfl, rfl⟩
          clear hat
          refine ⟨_, rfl, ?_⟩
          refine hK.out _ _ ((CK.drew _).trans (CK.drew _)) (fun hHeld => ?_)
          clear hK K
          refine norm_ (a' := ?_) ?_ ?_
          rotate_left
          · show Act.put _ (some 61) _ = _
            simp only [Act.put, List.setIfInBounds_toArray, List.set_cons_zero, List.set_cons_succ, i64_w, i32_w]
            rfl
          refine pure_ (i := 22) (N := some 62) (v := ?_) (a' := ?_) #[true, true, true, true, true, true, true, true, true, true, true, true, true, true, true, true, true, true, true, true, true, true, true, false, false] rfl rfl (by kernel_rfl) (fun _ _ _ h => h) (Or.inl ⟨by rfl, ?_⟩) ?_ ?_
          rotate_left
          · intro w'
            go_simp
            with_reducible rfl
          rotate_left
          · simp only [Act.put, List.setIfInBounds_toArray, List.set_cons_zero, List.set_cons_succ, i64_w, i32_w]
            rfl
          refine take_ (i := 23) (N := some 63) (v := ?_) (a' := ?_) #[true, true, true, true, true, true, true, true, true, true, true, true, true, true, true, true, true, true, true, true, true, true, true, true, false] rfl rfl (by kernel_rfl) (fun _ _ _ h => h) (Or.inl ⟨by rfl, ?_⟩) hHeld ?_ ?_
          rotate_left
          · intro w' s0
            have k9 := (blk_cell (s0 _ _ _ hNF.out.2.2.2.2.2.1) j).trans hcj
            go_simp
            with_reducible rfl
          rotate_left
          · simp only [Act.put, List.setIfInBounds_toArray, List.set_cons_zero, List.set_cons_succ, i64_w, i32_w]
            rfl
          refine pure_ (i := 24) (N := some 11) (v := ?_) (a' := ?_) #[true, true, true, true, true, true, true, true, true, true, true, true, true, true, true, true, true, true, true, true, true, true, true, true, true] rfl rfl (by kernel_rfl) (fun _ _ _ h => h) (Or.inl ⟨by rfl, ?_⟩) ?_ ?_
          rotate_left
          · intro w'
            go_simp
            with_reducible rfl
          rotate_left
          · simp only [Act.put, List.setIfInBounds_toArray, List.set_cons_zero, List.set_cons_succ, i64_w, i32_w]
            rfl
          refine done_ (by kernel_rfl) ?_
          have k0 := (CK.drew W3).trans (CK.drew W3.drew)
          have hN4 := hNF.keep k0
          have hB4 : Below w.heap.size w W3.drew.drew := below_drew (below_drew hB)
          have hD4 : ∀ D, D ∈ ds → w.heap.size ≤ D ∧ W3.drew.drew.heap[D]? = some (.deferred (some [])) := fun D hD' => hD D hD'
          have KO4 : KeepsOthers W3 W3.drew.drew := (KeepsOthers.drew W3).trans (KeepsOthers.drew _)
          have hh4 := k0 _ _ _ hh
          generalize W3.drew.drew = W4 at hN4 hB4 hD4 KO4 hh4 ⊢
          have c4 := hN4.cells.2.1
          have f4 := hN4.cells.2.2.1
          have HM := Aside0.mk hmin
          gi_wp2_with (first | (refine ⟨trivial, ?_⟩; gi_at_call 23; refine (CallsIn.inRound l (callsIn_wide.2 (HM.out _ hh4))).mono ?_; rintro e w9 ⟨rfl, rfl⟩) | fail)
          refine ⟨KO4.trans (KeepsOthers.setCell _ _ _), rfl, pre, x_, v, rfl, hp, hhit.trans hmj, blk_put hN4.out.2.1 0 _ rfl, below_set hB4 (by omega), fun D hD' => ⟨(hD4 D hD').1, ?_⟩⟩
          refine (Below.heap_setCell _ _ _ D (fun e => ?_)).trans (hD4 D hD').2
          have hx1 := (hD4 D hD').2
          rw [e, hN4.out.2.1] at hx1
          cases hx1
      case done =>
        rintro D ys W' hDge rfl ⟨⟨hNF, hB, hD⟩, hp⟩ hK
        have wi : IntKind.i64.wrap ((i : Int) + 1) = (i : Int) + 1 := w64s (by omega)
        have wi2 : wrap64 ((i : Int) + 1) = (i : Int) + 1 := by unfold wrap64; omega
        gi_wp2
        clear wi wi2
        have ei : ((i : Int) + 1) = ((i + 1 : Nat) : Int) := rfl
        rw [ei]
        clear ei
        refine ⟨⟨i + 1, D :: ds, _, _, _, _, _, _, rfl, ?_⟩, ?_⟩
        refine ⟨by omega, hNF, hB, ?_, ?_, ?_⟩
        · intro D' hD'
          rcases List.mem_cons.1 hD' with rfl | hD'
          · exact ⟨by omega, hK⟩
          · exact hD D' hD'
        · exact List.nodup_cons.2 ⟨fun hm' => by have := hlD D hm'; omega, HP.out.2.1⟩
        · intro f' hf q hq
          by_cases hfe : f' = i
          · subst hfe; exact hp q hq
          · exact HP.out.2.2 f' (by omega) q hq
        · simp [intOf]
          omega
      case stop =>
        rintro D c pre W' hDge hSp ⟨rfl, pre', p, r, e1, e2, e3, e4, e5, e6⟩ hK
        gi_wp2
        refine leaves_marks 8 w.heap.size (D :: ds) W' ?_ ?_ e5.size ?_
        · intro D' hD'
          rcases List.mem_cons.1 hD' with rfl | hD'
          · exact ⟨by omega, hK⟩
          · exact e6 D' hD'
        · exact List.nodup_cons.2 ⟨fun hm' => by have := hlD D hm'; omega, HP.out.2.1⟩
        · intro W'' hb'' hck
          have hc5 : W''.cell? ⟨w.heap.size + 1 + 1, 0, none⟩ = some (.int .i64 r) := (blk_cell (hck _ _ _ e4) 0).trans rfl
          refine ⟨.int .i64 r, ?_, r, rfl, .inl ⟨i, pre', p, by omega, e1 ▸ hSp, HP.out.2.2, e2, e3⟩, e5.trans hb''⟩
          simp [results, Try.f12, go_sem, hc5]
    · have hdec : decide ((i : Int) < n + 1) = false := decide_eq_false hlt
      have hc := HW.out.1.cells
      have c4 := hc.2.1
      have f4 := hc.2.2.1
      clear hc
      gi_wp2
      have hS := below_set (g := w.heap.size + 1 + 1) (j := 0) (v := .int .i64 (-1)) HW.out.2 (by omega)
      have hp4 := blk_put (cs' := #[.int .i64 (-1)]) HW.out.1.out.2.1 0 (.int .i64 (-1)) rfl
      refine leaves_marks 8 w.heap.size ds _ ?_ HP.out.2.1 hS.size ?_
      · intro D hD
        refine ⟨(HP.out.1 D hD).1, (Below.heap_setCell _ _ _ D (fun e => ?_)).trans (HP.out.1 D hD).2⟩
        have hx1 := (HP.out.1 D hD).2
        rw [e, HW.out.1.out.2.1] at hx1
        cases hx1
      · intro W'' hb'' hck
        have hc5 : W''.cell? ⟨w.heap.size + 1 + 1, 0, none⟩ = some (.int .i64 (-1)) := (blk_cell (hck _ _ _ hp4) 0).trans rfl
        refine ⟨.int .i64 (-1), ?_, -1, rfl, .inr ⟨rfl, fun f hf q hq => HP.out.2.2 f (by have := HI.out; omega) q hq⟩, hS.trans hb''⟩
        simp [results, Try.f12, go_sem, hc5]
end Go.Proofs.Ytfangodjmppooaa.Rd
