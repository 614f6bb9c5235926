/- TieConflicts: own texts in one (part 5 of 6): contracts of the functions that the law reaches. -/
import Derived.Test.YtlkngfidohiepaaBTieConflictsd

section
namespace Go.Proofs.Ytlkngfidohiepaa.Rf
open Go Go.RowKit Go.Proofs.YtlkngfidohiepaaW.PrintWords Go.Proofs.YtlkngfidohiepaaW.PrintLast Go.Proofs.Ytlkngfidohiepaa.Whole Go.Proofs.Ytlkngfidohiepaa.Reg Go.Proofs.Ytlkngfidohiepaa.Pm Go.Proofs.Ytlkngfidohiepaa.Pd Go.Proofs.Ytlkngfidohiepaa.Wd
set_option linter.unusedVariables false
set_option linter.unusedSimpArgs false
theorem sm_am {n : Int} {B : Nat} (h : Am n B) (hB : B ≤ 115792089237316195423570985008687907853269984665640564039457584007913129639936) : Sm n := Sm.of (by have := h.le; omega) (by have := h.le; omega)
theorem co_wf {n : Int} (h : Co n) : (Lit.int .i64 n).wf = true := by unfold Co at h; exact WalkArith.wf_i64 (by omega)
theorem four_new (w : World) (o0 o1 o2 o3 : Obj) : ((((w.alloc o0).alloc o1).alloc o2).alloc o3).heap[w.heap.size]? = some o0 ∧ ((((w.alloc o0).alloc o1).alloc o2).alloc o3).heap[w.heap.size + 1]? = some o1 ∧ ((((w.alloc o0).alloc o1).alloc o2).alloc o3).heap[w.heap.size + 1 + 1]? = some o2 ∧ ((((w.alloc o0).alloc o1).alloc o2).alloc o3).heap[w.heap.size + 1 + 1 + 1]? = some o3 ∧
  Below w.heap.size w ((((w.alloc o0).alloc o1).alloc o2).alloc o3) ∧ ((((w.alloc o0).alloc o1).alloc o2).alloc o3).heap.size = w.heap.size + 1 + 1 + 1 + 1 := by
 obtain ⟨n0, n1, n2, bw, nw⟩ := three_new w o0 o1 o2
 generalize (((w.alloc o0).alloc o1).alloc o2) = W at *
 have e := blk_new W o3
 rw [nw] at e
 have hb : Below W.heap.size W (W.alloc o3) := (Below.refl _ _).alloc (Nat.le_refl _) _
 exact ⟨blk_below n0 hb, blk_below n1 hb, blk_below n2 hb, e, below_then bw bw.size hb, by rw [World.alloc]; simp [nw]⟩
theorem diff_c (x y : Int) (hx : (Lit.int .i64 x).wf = true) (hy : (Lit.int .i64 y).wf = true) (w : World) :
  Calls Try.prog 31 #[.int .i64 x, .int .i64 y] w fun e w' => ∃ r, e = .returned r ∧ NI w' r (y - x) ∧ Below w.heap.size w w' := by
 have bx := bounds_i64 hx; have bY := bounds_i64 hy
 have SX := Aside0.mk (Sm.of (n := x) (by omega) (by omega)); have SY := Aside0.mk (Sm.of (n := y) (by omega) (by omega))
 go_enter Try.func31, Try.ntmps31
 go_wp2_with fail
 obtain ⟨n0, bw⟩ := one_new w (.cells #[.int .i64 0, .slice none 0 0] 42)
 generalize (w.alloc (.cells #[.int .i64 0, .slice none 0 0] 42)) = W at n0 bw ⊢
 refine (long_c y hy _).mono ?_
 rintro e w1 ⟨v, rfl, hN, hb⟩
 have N1 := Aside0.mk (blk_below n0 hb); have B1 := Aside0.mk (below_step bw hb); have HN := Aside0.mk hN
 clear n0 bw hb hN
 go_wp2_with fail
 refine (long_c x hx _).mono ?_
 rintro e w2 ⟨u, rfl, hN, hb⟩
 have N2 := Aside0.mk (blk_below N1.out hb); have B2 := Aside0.mk (below_step B1.out hb); have HM := Aside0.mk (HN.out.below hb); have HU := Aside0.mk hN
 clear N1 B1 HN hb hN
 go_wp2_with fail
 refine (sub_c _ _ y x SY.out SX.out _ HM.out HU.out).mono ?_
 rintro e w3 ⟨z, rfl, hN, hb⟩
 obtain ⟨s3, A3, l3, c3, rfl⟩ := hN.shape
 have m2 := blk_below N2.out hb
 have M2 := Aside0.mk m2; have B3 := Aside0.mk (below_step B2.out hb); have HZ := Aside0.mk hN
 clear N2 B2 HM HU hb hN
 have e4 : w3.cell? ⟨w.heap.size, 0, none⟩ = some (.int .i64 0) := (blk_cell m2 0).trans rfl
 have e5 : w3.cell? ⟨w.heap.size, 1, none⟩ = some (.slice none 0 0) := (blk_cell m2 1).trans rfl
 have g3 := blk_frozen m2 0; have g4 := blk_frozen m2 1
 clear m2
 go_wp2
 refine bodyPost_ret (results_cell_row rfl _ _ w.heap.size 42 #[.int .i64 s3, .slice A3 l3 c3] (0, 0) _ rfl (blk_put (cs := #[.int .i64 s3, .slice none 0 0]) (blk_put (cs := #[.int .i64 0, .slice none 0 0]) M2.out 0 _ rfl) 1 _ rfl) Try.underlying42 rfl (by kernel_rfl)) rfl ?_
 exact ⟨_, rfl, (HZ.out.store M2.out (by decide) 0 _).store (blk_put (cs := #[.int .i64 0, .slice none 0 0]) M2.out 0 _ rfl) (by decide) 1 _, below_set2 B3.out (by omega) _ _ _ _⟩
def area.T : Bool × List (List Nat × List Nat) := (true, [([], []), ([0], [0]), ([], []), ([2], [2]), ([1, 3], [1, 3]), ([], []), ([5], [5]), ([], []), ([7], [7]), ([6, 8, 4], [6, 8]), ([4, 9, 9], [4, 9]), ([], []), ([11], [11]), ([], []), ([13], [13]), ([12, 14, 10], [12, 14]), ([], []), ([16], [16]), ([], []), ([18], [18]), ([17, 19, 15], [17, 19]), ([15, 20, 20], [15, 20]), ([10, 21, 21], [10, 21]), ([22, 22, 0, 1, 2, 3, 4, 5, 6, 7, 8, 9, 10, 11, 12, 13, 14, 15, 16, 17, 18, 19, 20, 21, 22], [22])])
def area.B : List Nat := [0, 1, 0, 4, 15, 0, 32, 0, 128, 511, 1023, 0, 2048, 0, 8192, 32767, 0, 65536, 0, 262144, 1048575, 2097151, 4194303, 8388607]
theorem area.tab : rtab .any (opsOf Try.f23 1) = area.T := by kernel_rfl
theorem area.bits : waitsOk area.T.2 area.B = true := by kernel_rfl
set_option maxHeartbeats 8000000 in
set_option maxRecDepth 100000 in
theorem area_c {a0 a1 b0 b1 c0 c1 : Int} (ha : CoP a0 a1) (hb : CoP b0 b1) (hc : CoP c0 c1) (w : World) :
  Calls Try.prog 23 #[.agg #[.int .i64 a0, .int .i64 a1], .agg #[.int .i64 b0, .int .i64 b1], .agg #[.int .i64 c0, .int .i64 c1]] w fun e w' => ∃ r, e = .returned r ∧ NI w' r (ar a0 a1 b0 b1 c0 c1) ∧ Below w.heap.size w w' := by
 have x0 := hb.1.way ha.1; have x1 := hb.2.way ha.2; have y0 := hc.1.way ha.1; have y1 := hc.2.way ha.2
 have s1 := sm_am x0 (by omega); have s2 := sm_am y1 (by omega); have s3 := sm_am x1 (by omega); have s4 := sm_am y0 (by omega)
 have s5 := sm_am (Am.mul x0 y1) (by omega); have s6 := sm_am (Am.mul x1 y0) (by omega)
 have h_a0 := co_wf ha.1; have h_a1 := co_wf ha.2; have h_b0 := co_wf hb.1; have h_b1 := co_wf hb.2; have h_c0 := co_wf hc.1; have h_c1 := co_wf hc.2
 clear x0 x1 y0 y1
 unfold ar
 go_enter Try.func23, Try.ntmps23
 go_wp2_with fail
 obtain ⟨n0, n1, n2, n3, bw, nw⟩ := four_new w (.cells #[.int .i64 a0, .int .i64 a1] 23) (.cells #[.int .i64 b0, .int .i64 b1] 23) (.cells #[.int .i64 c0, .int .i64 c1] 23) (.cells #[.int .i64 0, .slice none 0 0] 42)
 generalize ((((w.alloc (.cells #[.int .i64 a0, .int .i64 a1] 23)).alloc (.cells #[.int .i64 b0, .int .i64 b1] 23)).alloc (.cells #[.int .i64 c0, .int .i64 c1] 23)).alloc (.cells #[.int .i64 0, .slice none 0 0] 42)) = W at n0 n1 n2 n3 bw nw ⊢
 obtain ⟨G, hGd⟩ : ∃ G : World → Prop, G = (fun w' => Below w.heap.size w w' ∧ w.heap.size + 1 + 1 + 1 + 1 ≤ w'.heap.size ∧ w'.heap[w.heap.size]? = some (.cells #[.int .i64 a0, .int .i64 a1] 23 (0, 0)) ∧ w'.heap[w.heap.size + 1]? = some (.cells #[.int .i64 b0, .int .i64 b1] 23 (0, 0)) ∧ w'.heap[w.heap.size + 1 + 1]? = some (.cells #[.int .i64 c0, .int .i64 c1] 23 (0, 0)) ∧ ∃ x y, w'.heap[w.heap.size + 1 + 1 + 1]? = some (.cells #[x, y] 42 (0, 0))) := ⟨_, rfl⟩
 have GM : ∀ w1 w2 : World, G w1 → Below w1.heap.size w1 w2 → G w2 := by
  subst hGd
  rintro w1 w2 ⟨HBl, HSz, Bx3, Bx4, Bx5, Rs⟩ hb
  exact ⟨below_step HBl hb, Nat.le_trans HSz hb.size, blk_below Bx3 hb, blk_below Bx4 hb, blk_below Bx5 hb, (Rs.elim fun x h => h.elim fun y h => ⟨x, y, blk_below h hb⟩)⟩
 have HM : ∀ w1 w2 : World, (fun _ => True) w1 → Below w1.heap.size w1 w2 → (fun _ => True) w2 := fun _ _ _ _ => True.intro
 have GR : ∀ (w1 : World) (x0 y0 x y : Value), G w1 → w1.heap[w.heap.size + 1 + 1 + 1]? = some (.cells #[x0, y0] 42 (0, 0)) → G ((w1.setCell ⟨w.heap.size + 1 + 1 + 1, 0, none⟩ x).setCell ⟨w.heap.size + 1 + 1 + 1, 1, none⟩ y) := by
  subst hGd
  rintro w1 x0 y0 x y ⟨HBl, HSz, Bx3, Bx4, Bx5, Rs⟩ hgh
  have hle : w.heap.size ≤ w.heap.size + 1 + 1 + 1 := by omega
  exact ⟨below_set2 HBl hle _ _ _ _, (by simpa [World.setCell] using HSz), blk_far (blk_far Bx3 (fun e => by have e1 : (w.heap.size : Nat) = w.heap.size + 1 + 1 + 1 := e; omega) _) (fun e => by have e1 : (w.heap.size : Nat) = w.heap.size + 1 + 1 + 1 := e; omega) _, blk_far (blk_far Bx4 (fun e => by have e1 : (w.heap.size + 1 : Nat) = w.heap.size + 1 + 1 + 1 := e; omega) _) (fun e => by have e1 : (w.heap.size + 1 : Nat) = w.heap.size + 1 + 1 + 1 := e; omega) _, blk_far (blk_far Bx5 (fun e => by have e1 : (w.heap.size + 1 + 1 : Nat) = w.heap.size + 1 + 1 + 1 := e; omega) _) (fun e => by have e1 : (w.heap.size + 1 + 1 : Nat) = w.heap.size + 1 + 1 + 1 := e; omega) _, _, _, blk_put (blk_put hgh 0 _ rfl) 1 _ rfl⟩
 refine start_ (n := 24) (S := fun w' => True) (ds := []) #[false, false, false, false, false, false, false, false, false, false, false, false, false, false, false, false, false, false, false, false, false, false, false, false] (by kernel_rfl) rfl rfl trivial (fun _ => ?_); refine with_tabW area.tab area.bits (fun HT_ HW_ => ?_)
 have hG0 : G W.drew := by subst hGd; exact ⟨below_drew bw, Nat.le_of_eq nw.symm, n0, n1, n2, _, _, n3⟩
 generalize W.drew = W1 at hG0 ⊢
 refine inv_at [0, 1, 2, 3, 4, 5, 6, 7, 8, 9, 10, 11, 12, 13, 14, 15, 16, 17, 18, 19, 20, 21, 22, 23] (fun a0_ b a w' => Rg ⟨[0, 1, 2, 3, 4, 5, 6, 7, 8, 9, 10, 11, 12, 13, 14, 15, 16, 17, 18, 19, 20, 21, 22, 23], [(0, 7), (1, 8), (2, 9), (3, 10), (4, 11), (5, 12), (6, 13), (7, 14), (8, 15), (9, 16), (10, 17), (11, 18), (12, 19), (13, 20), (14, 21), (15, 22), (16, 23), (17, 24), (18, 25), (19, 26), (20, 27), (21, 28), (22, 29)], fun j => [.const (.pointer (some ⟨w.heap.size, 0, none⟩)), .const (.int .i64 a0), .const (.pointer (some ⟨w.heap.size + 1, 0, none⟩)), .const (.int .i64 b0), .ni (b0 - a0), .const (.pointer (some ⟨w.heap.size, 1, none⟩)), .const (.int .i64 a1), .const (.pointer (some ⟨w.heap.size + 1 + 1, 1, none⟩)), .const (.int .i64 c1), .ni (c1 - a1), .ni ((b0 - a0) * (c1 - a1)), .const (.pointer (some ⟨w.heap.size, 1, none⟩)), .const (.int .i64 a1), .const (.pointer (some ⟨w.heap.size + 1, 1, none⟩)), .const (.int .i64 b1), .ni (b1 - a1), .const (.pointer (some ⟨w.heap.size, 0, none⟩)), .const (.int .i64 a0), .const (.pointer (some ⟨w.heap.size + 1 + 1, 0, none⟩)), .const (.int .i64 c0), .ni (c0 - a0), .ni ((b1 - a1) * (c0 - a0)), .ni (((b0 - a0) * (c1 - a1)) - ((b1 - a1) * (c0 - a0))), .fin (fun ms w' => ∃ x y, w'.heap[w.heap.size + 1 + 1 + 1]? = some (.cells #[x, y] 42 (0, 0)) ∧ NI w' (.agg #[x, y]) (((b0 - a0) * (c1 - a1)) - ((b1 - a1) * (c0 - a0))))].getD j .box, w.heap.size + 1 + 1 + 1 + 1, 0, G, fun _ => True, 23⟩ a0_ b a w') HT_.out HW_.out (by kernel_rfl) (by kernel_rfl) ?_ ?_ ?_
 ·exact rg0 hG0 True.intro
 ·refine steps_cons ?_ ?_
  ·rintro b a w' ⟨ms, hR⟩ hb_ hon hoff
   obtain ⟨ha, hF, hD, hG, _⟩ := id hR
   have hG1 := hG
   rw [hGd] at hG1
   obtain ⟨HBl, HSz, Bx3, Bx4, Bx5, Rs⟩ := hG1
   have HH := hR.2.2.2.2 (hoff 23 (by kernel_rfl))
   refine ⟨_, rfl, fun K hK => ?_⟩
   have e3 : a.tmps[3]? = some (.pointer (some ⟨w.heap.size, 0, none⟩)) := (off_ ha rfl).trans rfl
   have HR := Aside0.mk hR
   clear hR ha hF
   refine value_ (w1 := w') (v := .pointer (some ⟨w.heap.size, 0, none⟩)) (by rfl) rfl ?_ ?_
   ·go_simp
    try rfl
   exact hK.out _ _ (step_ 0 HR.out rfl rfl hb_ (Below.refl _ _) hG rfl (fun h => by cases h) (fun _ => HH) rfl)
  refine steps_cons ?_ ?_
  ·rintro b a w' ⟨ms, hR⟩ hb_ hon hoff
   obtain ⟨ha, hF, hD, hG, _⟩ := id hR
   have hG1 := hG
   rw [hGd] at hG1
   obtain ⟨HBl, HSz, Bx3, Bx4, Bx5, Rs⟩ := hG1
   have HH := hR.2.2.2.2 (hoff 23 (by kernel_rfl))
   refine ⟨_, rfl, fun K hK => ?_⟩
   have e7 : a.tmps[7]? = some (.pointer (some ⟨w.heap.size, 0, none⟩)) := (on_ 0 ha rfl (hon 0 (by kernel_rfl)) rfl).trans (congrArg some (hF 0 (hon 0 (by kernel_rfl))))
   have hc : w'.cell? ⟨w.heap.size, 0, none⟩ = some (.int .i64 a0) := (blk_cell Bx3 0).trans rfl
   have HR := Aside0.mk hR
   clear hR ha hF
   refine value_ (w1 := w') (v := .int .i64 a0) (by rfl) rfl ?_ ?_
   ·go_simp
    (try simp only [i64_w])
    try rfl
   exact hK.out _ _ (step_ 1 HR.out rfl rfl hb_ (Below.refl _ _) hG rfl (fun h => by cases h) (fun _ => HH) rfl)
  refine steps_cons ?_ ?_
  ·rintro b a w' ⟨ms, hR⟩ hb_ hon hoff
   obtain ⟨ha, hF, hD, hG, _⟩ := id hR
   have hG1 := hG
   rw [hGd] at hG1
   obtain ⟨HBl, HSz, Bx3, Bx4, Bx5, Rs⟩ := hG1
   have HH := hR.2.2.2.2 (hoff 23 (by kernel_rfl))
   refine ⟨_, rfl, fun K hK => ?_⟩
   have e4 : a.tmps[4]? = some (.pointer (some ⟨w.heap.size + 1, 0, none⟩)) := (off_ ha rfl).trans rfl
   have HR := Aside0.mk hR
   clear hR ha hF
   refine value_ (w1 := w') (v := .pointer (some ⟨w.heap.size + 1, 0, none⟩)) (by rfl) rfl ?_ ?_
   ·go_simp
    try rfl
   exact hK.out _ _ (step_ 2 HR.out rfl rfl hb_ (Below.refl _ _) hG rfl (fun h => by cases h) (fun _ => HH) rfl)
  refine steps_cons ?_ ?_
  ·rintro b a w' ⟨ms, hR⟩ hb_ hon hoff
   obtain ⟨ha, hF, hD, hG, _⟩ := id hR
   have hG1 := hG
   rw [hGd] at hG1
   obtain ⟨HBl, HSz, Bx3, Bx4, Bx5, Rs⟩ := hG1
   have HH := hR.2.2.2.2 (hoff 23 (by kernel_rfl))
   refine ⟨_, rfl, fun K hK => ?_⟩
   have e9 : a.tmps[9]? = some (.pointer (some ⟨w.heap.size + 1, 0, none⟩)) := (on_ 2 ha rfl (hon 2 (by kernel_rfl)) rfl).trans (congrArg some (hF 2 (hon 2 (by kernel_rfl))))
   have hc : w'.cell? ⟨w.heap.size + 1, 0, none⟩ = some (.int .i64 b0) := (blk_cell Bx4 0).trans rfl
   have HR := Aside0.mk hR
   clear hR ha hF
   refine value_ (w1 := w') (v := .int .i64 b0) (by rfl) rfl ?_ ?_
   ·go_simp
    (try simp only [i64_w])
    try rfl
   exact hK.out _ _ (step_ 3 HR.out rfl rfl hb_ (Below.refl _ _) hG rfl (fun h => by cases h) (fun _ => HH) rfl)
  refine steps_cons ?_ ?_
  ·rintro b a w' ⟨ms, hR⟩ hb_ hon hoff
   obtain ⟨ha, hF, hD, hG, _⟩ := id hR
   have hG1 := hG
   rw [hGd] at hG1
   obtain ⟨HBl, HSz, Bx3, Bx4, Bx5, Rs⟩ := hG1
   have HH := hR.2.2.2.2 (hoff 23 (by kernel_rfl))
   refine ⟨_, rfl, fun K hK => ?_⟩
   have e8 : a.tmps[8]? = some (.int .i64 a0) := (on_ 1 ha rfl (hon 1 (by kernel_rfl)) rfl).trans (congrArg some (hF 1 (hon 1 (by kernel_rfl))))
   have e10 : a.tmps[10]? = some (.int .i64 b0) := (on_ 3 ha rfl (hon 3 (by kernel_rfl)) rfl).trans (congrArg some (hF 3 (hon 3 (by kernel_rfl))))
   refine goes_ Try.func31 (by kernel_rfl) rfl #[.int .i64 a0, .int .i64 b0] (by rfl) rfl rfl (by first | (simp only [List.map_toArray, List.map_cons, List.map_nil, Act.eval, Array.getD_eq_getD_getElem?, Option.getD_some, e8, e10]; done) | (simp only [List.map_toArray, List.map_cons, List.map_nil, Act.eval, Array.getD_eq_getD_getElem?, Option.getD_some, e8, e10]; rfl)) ?_
   with_reducible refine (diff_c a0 b0 h_a0 h_b0 _).mono ?_
   rintro e w1 ⟨r, rfl, hN, hb⟩
   exact ⟨_, rfl, hK.out _ _ (step_ 4 hR rfl rfl hb_ hb (GM _ _ hG hb) hN (fun h => by cases h) (fun _ => HM _ _ HH hb) rfl)⟩
  refine steps_cons ?_ ?_
  ·rintro b a w' ⟨ms, hR⟩ hb_ hon hoff
   obtain ⟨ha, hF, hD, hG, _⟩ := id hR
   have hG1 := hG
   rw [hGd] at hG1
   obtain ⟨HBl, HSz, Bx3, Bx4, Bx5, Rs⟩ := hG1
   have HH := hR.2.2.2.2 (hoff 23 (by kernel_rfl))
   refine ⟨_, rfl, fun K hK => ?_⟩
   have e3 : a.tmps[3]? = some (.pointer (some ⟨w.heap.size, 0, none⟩)) := (off_ ha rfl).trans rfl
   have HR := Aside0.mk hR
   clear hR ha hF
   refine value_ (w1 := w') (v := .pointer (some ⟨w.heap.size, 1, none⟩)) (by rfl) rfl ?_ ?_
   ·go_simp
    try rfl
   exact hK.out _ _ (step_ 5 HR.out rfl rfl hb_ (Below.refl _ _) hG rfl (fun h => by cases h) (fun _ => HH) rfl)
  refine steps_cons ?_ ?_
  ·rintro b a w' ⟨ms, hR⟩ hb_ hon hoff
   obtain ⟨ha, hF, hD, hG, _⟩ := id hR
   have hG1 := hG
   rw [hGd] at hG1
   obtain ⟨HBl, HSz, Bx3, Bx4, Bx5, Rs⟩ := hG1
   have HH := hR.2.2.2.2 (hoff 23 (by kernel_rfl))
   refine ⟨_, rfl, fun K hK => ?_⟩
   have e12 : a.tmps[12]? = some (.pointer (some ⟨w.heap.size, 1, none⟩)) := (on_ 5 ha rfl (hon 5 (by kernel_rfl)) rfl).trans (congrArg some (hF 5 (hon 5 (by kernel_rfl))))
   have hc : w'.cell? ⟨w.heap.size, 1, none⟩ = some (.int .i64 a1) := (blk_cell Bx3 1).trans rfl
   have HR := Aside0.mk hR
   clear hR ha hF
   refine value_ (w1 := w') (v := .int .i64 a1) (by rfl) rfl ?_ ?_
   ·go_simp
    (try simp only [i64_w])
    try rfl
   exact hK.out _ _ (step_ 6 HR.out rfl rfl hb_ (Below.refl _ _) hG rfl (fun h => by cases h) (fun _ => HH) rfl)
  refine steps_cons ?_ ?_
  ·rintro b a w' ⟨ms, hR⟩ hb_ hon hoff
   obtain ⟨ha, hF, hD, hG, _⟩ := id hR
   have hG1 := hG
   rw [hGd] at hG1
   obtain ⟨HBl, HSz, Bx3, Bx4, Bx5, Rs⟩ := hG1
   have HH := hR.2.2.2.2 (hoff 23 (by kernel_rfl))
   refine ⟨_, rfl, fun K hK => ?_⟩
   have e5 : a.tmps[5]? = some (.pointer (some ⟨w.heap.size + 1 + 1, 0, none⟩)) := (off_ ha rfl).trans rfl
   have HR := Aside0.mk hR
   clear hR ha hF
   refine value_ (w1 := w') (v := .pointer (some ⟨w.heap.size + 1 + 1, 1, none⟩)) (by rfl) rfl ?_ ?_
   ·go_simp
    try rfl
   exact hK.out _ _ (step_ 7 HR.out rfl rfl hb_ (Below.refl _ _) hG rfl (fun h => by cases h) (fun _ => HH) rfl)
  refine steps_cons ?_ ?_
  ·rintro b a w' ⟨ms, hR⟩ hb_ hon hoff
   obtain ⟨ha, hF, hD, hG, _⟩ := id hR
   have hG1 := hG
   rw [hGd] at hG1
   obtain ⟨HBl, HSz, Bx3, Bx4, Bx5, Rs⟩ := hG1
   have HH := hR.2.2.2.2 (hoff 23 (by kernel_rfl))
   refine ⟨_, rfl, fun K hK => ?_⟩
   have e14 : a.tmps[14]? = some (.pointer (some ⟨w.heap.size + 1 + 1, 1, none⟩)) := (on_ 7 ha rfl (hon 7 (by kernel_rfl)) rfl).trans (congrArg some (hF 7 (hon 7 (by kernel_rfl))))
   have hc : w'.cell? ⟨w.heap.size + 1 + 1, 1, none⟩ = some (.int .i64 c1) := (blk_cell Bx5 1).trans rfl
   have HR := Aside0.mk hR
   clear hR ha hF
   refine value_ (w1 := w') (v := .int .i64 c1) (by rfl) rfl ?_ ?_
   ·go_simp
    (try simp only [i64_w])
    try rfl
   exact hK.out _ _ (step_ 8 HR.out rfl rfl hb_ (Below.refl _ _) hG rfl (fun h => by cases h) (fun _ => HH) rfl)
  refine steps_cons ?_ ?_
  ·rintro b a w' ⟨ms, hR⟩ hb_ hon hoff
   obtain ⟨ha, hF, hD, hG, _⟩ := id hR
   have hG1 := hG
   rw [hGd] at hG1
   obtain ⟨HBl, HSz, Bx3, Bx4, Bx5, Rs⟩ := hG1
   have HH := hR.2.2.2.2 (hoff 23 (by kernel_rfl))
   refine ⟨_, rfl, fun K hK => ?_⟩
   have e13 : a.tmps[13]? = some (.int .i64 a1) := (on_ 6 ha rfl (hon 6 (by kernel_rfl)) rfl).trans (congrArg some (hF 6 (hon 6 (by kernel_rfl))))
   have e15 : a.tmps[15]? = some (.int .i64 c1) := (on_ 8 ha rfl (hon 8 (by kernel_rfl)) rfl).trans (congrArg some (hF 8 (hon 8 (by kernel_rfl))))
   refine goes_ Try.func31 (by kernel_rfl) rfl #[.int .i64 a1, .int .i64 c1] (by rfl) rfl rfl (by first | (simp only [List.map_toArray, List.map_cons, List.map_nil, Act.eval, Array.getD_eq_getD_getElem?, Option.getD_some, e13, e15]; done) | (simp only [List.map_toArray, List.map_cons, List.map_nil, Act.eval, Array.getD_eq_getD_getElem?, Option.getD_some, e13, e15]; rfl)) ?_
   with_reducible refine (diff_c a1 c1 h_a1 h_c1 _).mono ?_
   rintro e w1 ⟨r, rfl, hN, hb⟩
   exact ⟨_, rfl, hK.out _ _ (step_ 9 hR rfl rfl hb_ hb (GM _ _ hG hb) hN (fun h => by cases h) (fun _ => HM _ _ HH hb) rfl)⟩
  refine steps_cons ?_ ?_
  ·rintro b a w' ⟨ms, hR⟩ hb_ hon hoff
   obtain ⟨ha, hF, hD, hG, _⟩ := id hR
   have hG1 := hG
   rw [hGd] at hG1
   obtain ⟨HBl, HSz, Bx3, Bx4, Bx5, Rs⟩ := hG1
   have HH := hR.2.2.2.2 (hoff 23 (by kernel_rfl))
   refine ⟨_, rfl, fun K hK => ?_⟩
   have e11 : a.tmps[11]? = some (ms 4) := on_ 4 ha rfl (hon 4 (by kernel_rfl)) rfl
   have q4 : NI w' (ms 4) (b0 - a0) := hF 4 (hon 4 (by kernel_rfl))
   have e16 : a.tmps[16]? = some (ms 9) := on_ 9 ha rfl (hon 9 (by kernel_rfl)) rfl
   have q9 : NI w' (ms 9) (c1 - a1) := hF 9 (hon 9 (by kernel_rfl))
   refine goes_ Try.func32 (by kernel_rfl) rfl #[ms 4, ms 9] (by rfl) rfl rfl (by first | (simp only [List.map_toArray, List.map_cons, List.map_nil, Act.eval, Array.getD_eq_getD_getElem?, Option.getD_some, e11, e16]; done) | (simp only [List.map_toArray, List.map_cons, List.map_nil, Act.eval, Array.getD_eq_getD_getElem?, Option.getD_some, e11, e16]; rfl)) ?_
   with_reducible refine (mul_c _ _ (b0 - a0) (c1 - a1) s1 s2 _ (q4) (q9)).mono ?_
   rintro e w1 ⟨r, rfl, hN, hb⟩
   exact ⟨_, rfl, hK.out _ _ (step_ 10 hR rfl rfl hb_ hb (GM _ _ hG hb) hN (fun h => by cases h) (fun _ => HM _ _ HH hb) rfl)⟩
  refine steps_cons ?_ ?_
  ·rintro b a w' ⟨ms, hR⟩ hb_ hon hoff
   obtain ⟨ha, hF, hD, hG, _⟩ := id hR
   have hG1 := hG
   rw [hGd] at hG1
   obtain ⟨HBl, HSz, Bx3, Bx4, Bx5, Rs⟩ := hG1
   have HH := hR.2.2.2.2 (hoff 23 (by kernel_rfl))
   refine ⟨_, rfl, fun K hK => ?_⟩
   have e3 : a.tmps[3]? = some (.pointer (some ⟨w.heap.size, 0, none⟩)) := (off_ ha rfl).trans rfl
   have HR := Aside0.mk hR
   clear hR ha hF
   refine value_ (w1 := w') (v := .pointer (some ⟨w.heap.size, 1, none⟩)) (by rfl) rfl ?_ ?_
   ·go_simp
    try rfl
   exact hK.out _ _ (step_ 11 HR.out rfl rfl hb_ (Below.refl _ _) hG rfl (fun h => by cases h) (fun _ => HH) rfl)
  refine steps_cons ?_ ?_
  ·rintro b a w' ⟨ms, hR⟩ hb_ hon hoff
   obtain ⟨ha, hF, hD, hG, _⟩ := id hR
   have hG1 := hG
   rw [hGd] at hG1
   obtain ⟨HBl, HSz, Bx3, Bx4, Bx5, Rs⟩ := hG1
   have HH := hR.2.2.2.2 (hoff 23 (by kernel_rfl))
   refine ⟨_, rfl, fun K hK => ?_⟩
   have e18 : a.tmps[18]? = some (.pointer (some ⟨w.heap.size, 1, none⟩)) := (on_ 11 ha rfl (hon 11 (by kernel_rfl)) rfl).trans (congrArg some (hF 11 (hon 11 (by kernel_rfl))))
   have hc : w'.cell? ⟨w.heap.size, 1, none⟩ = some (.int .i64 a1) := (blk_cell Bx3 1).trans rfl
   have HR := Aside0.mk hR
   clear hR ha hF
   refine value_ (w1 := w') (v := .int .i64 a1) (by rfl) rfl ?_ ?_
   ·go_simp
    (try simp only [i64_w])
    try rfl
   exact hK.out _ _ (step_ 12 HR.out rfl rfl hb_ (Below.refl _ _) hG rfl (fun h => by cases h) (fun _ => HH) rfl)
  refine steps_cons ?_ ?_
  ·rintro b a w' ⟨ms, hR⟩ hb_ hon hoff
   obtain ⟨ha, hF, hD, hG, _⟩ := id hR
   have hG1 := hG
   rw [hGd] at hG1
   obtain ⟨HBl, HSz, Bx3, Bx4, Bx5, Rs⟩ := hG1
   have HH := hR.2.2.2.2 (hoff 23 (by kernel_rfl))
   refine ⟨_, rfl, fun K hK => ?_⟩
   have e4 : a.tmps[4]? = some (.pointer (some ⟨w.heap.size + 1, 0, none⟩)) := (off_ ha rfl).trans rfl
   have HR := Aside0.mk hR
   clear hR ha hF
   refine value_ (w1 := w') (v := .pointer (some ⟨w.heap.size + 1, 1, none⟩)) (by rfl) rfl ?_ ?_
   ·go_simp
    try rfl
   exact hK.out _ _ (step_ 13 HR.out rfl rfl hb_ (Below.refl _ _) hG rfl (fun h => by cases h) (fun _ => HH) rfl)
  refine steps_cons ?_ ?_
  ·rintro b a w' ⟨ms, hR⟩ hb_ hon hoff
   obtain ⟨ha, hF, hD, hG, _⟩ := id hR
   have hG1 := hG
   rw [hGd] at hG1
   obtain ⟨HBl, HSz, Bx3, Bx4, Bx5, Rs⟩ := hG1
   have HH := hR.2.2.2.2 (hoff 23 (by kernel_rfl))
   refine ⟨_, rfl, fun K hK => ?_⟩
   have e20 : a.tmps[20]? = some (.pointer (some ⟨w.heap.size + 1, 1, none⟩)) := (on_ 13 ha rfl (hon 13 (by kernel_rfl)) rfl).trans (congrArg some (hF 13 (hon 13 (by kernel_rfl))))
   have hc : w'.cell? ⟨w.heap.size + 1, 1, none⟩ = some (.int .i64 b1) := (blk_cell Bx4 1).trans rfl
   have HR := Aside0.mk hR
   clear hR ha hF
   refine value_ (w1 := w') (v := .int .i64 b1) (by rfl) rfl ?_ ?_
   ·go_simp
    (try simp only [i64_w])
    try rfl
   exact hK.out _ _ (step_ 14 HR.out rfl rfl hb_ (Below.refl _ _) hG rfl (fun h => by cases h) (fun _ => HH) rfl)
  refine steps_cons ?_ ?_
  ·rintro b a w' ⟨ms, hR⟩ hb_ hon hoff
   obtain ⟨ha, hF, hD, hG, _⟩ := id hR
   have hG1 := hG
   rw [hGd] at hG1
   obtain ⟨HBl, HSz, Bx3, Bx4, Bx5, Rs⟩ := hG1
   have HH := hR.2.2.2.2 (hoff 23 (by kernel_rfl))
   refine ⟨_, rfl, fun K hK => ?_⟩
   have e19 : a.tmps[19]? = some (.int .i64 a1) := (on_ 12 ha rfl (hon 12 (by kernel_rfl)) rfl).trans (congrArg some (hF 12 (hon 12 (by kernel_rfl))))
   have e21 : a.tmps[21]? = some (.int .i64 b1) := (on_ 14 ha rfl (hon 14 (by kernel_rfl)) rfl).trans (congrArg some (hF 14 (hon 14 (by kernel_rfl))))
   refine goes_ Try.func31 (by kernel_rfl) rfl #[.int .i64 a1, .int .i64 b1] (by rfl) rfl rfl (by first | (simp only [List.map_toArray, List.map_cons, List.map_nil, Act.eval, Array.getD_eq_getD_getElem?, Option.getD_some, e19, e21]; done) | (simp only [List.map_toArray, List.map_cons, List.map_nil, Act.eval, Array.getD_eq_getD_getElem?, Option.getD_some, e19, e21]; rfl)) ?_
   with_reducible refine (diff_c a1 b1 h_a1 h_b1 _).mono ?_
   rintro e w1 ⟨r, rfl, hN, hb⟩
   exact ⟨_, rfl, hK.out _ _ (step_ 15 hR rfl rfl hb_ hb (GM _ _ hG hb) hN (fun h => by cases h) (fun _ => HM _ _ HH hb) rfl)⟩
  refine steps_cons ?_ ?_
  ·rintro b a w' ⟨ms, hR⟩ hb_ hon hoff
   obtain ⟨ha, hF, hD, hG, _⟩ := id hR
   have hG1 := hG
   rw [hGd] at hG1
   obtain ⟨HBl, HSz, Bx3, Bx4, Bx5, Rs⟩ := hG1
   have HH := hR.2.2.2.2 (hoff 23 (by kernel_rfl))
   refine ⟨_, rfl, fun K hK => ?_⟩
   have e3 : a.tmps[3]? = some (.pointer (some ⟨w.heap.size, 0, none⟩)) := (off_ ha rfl).trans rfl
   have HR := Aside0.mk hR
   clear hR ha hF
   refine value_ (w1 := w') (v := .pointer (some ⟨w.heap.size, 0, none⟩)) (by rfl) rfl ?_ ?_
   ·go_simp
    try rfl
   exact hK.out _ _ (step_ 16 HR.out rfl rfl hb_ (Below.refl _ _) hG rfl (fun h => by cases h) (fun _ => HH) rfl)
  refine steps_cons ?_ ?_
  ·rintro b a w' ⟨ms, hR⟩ hb_ hon hoff
   obtain ⟨ha, hF, hD, hG, _⟩ := id hR
   have hG1 := hG
   rw [hGd] at hG1
   obtain ⟨HBl, HSz, Bx3, Bx4, Bx5, Rs⟩ := hG1
   have HH := hR.2.2.2.2 (hoff 23 (by kernel_rfl))
   refine ⟨_, rfl, fun K hK => ?_⟩
   have e23 : a.tmps[23]? = some (.pointer (some ⟨w.heap.size, 0, none⟩)) := (on_ 16 ha rfl (hon 16 (by kernel_rfl)) rfl).trans (congrArg some (hF 16 (hon 16 (by kernel_rfl))))
   have hc : w'.cell? ⟨w.heap.size, 0, none⟩ = some (.int .i64 a0) := (blk_cell Bx3 0).trans rfl
   have HR := Aside0.mk hR
   clear hR ha hF
   refine value_ (w1 := w') (v := .int .i64 a0) (by rfl) rfl ?_ ?_
   ·go_simp
    (try simp only [i64_w])
    try rfl
   exact hK.out _ _ (step_ 17 HR.out rfl rfl hb_ (Below.refl _ _) hG rfl (fun h => by cases h) (fun _ => HH) rfl)
  refine steps_cons ?_ ?_
  ·rintro b a w' ⟨ms, hR⟩ hb_ hon hoff
   obtain ⟨ha, hF, hD, hG, _⟩ := id hR
   have hG1 := hG
   rw [hGd] at hG1
   obtain ⟨HBl, HSz, Bx3, Bx4, Bx5, Rs⟩ := hG1
   have HH := hR.2.2.2.2 (hoff 23 (by kernel_rfl))
   refine ⟨_, rfl, fun K hK => ?_⟩
   have e5 : a.tmps[5]? = some (.pointer (some ⟨w.heap.size + 1 + 1, 0, none⟩)) := (off_ ha rfl).trans rfl
   have HR := Aside0.mk hR
   clear hR ha hF
   refine value_ (w1 := w') (v := .pointer (some ⟨w.heap.size + 1 + 1, 0, none⟩)) (by rfl) rfl ?_ ?_
   ·go_simp
    try rfl
   exact hK.out _ _ (step_ 18 HR.out rfl rfl hb_ (Below.refl _ _) hG rfl (fun h => by cases h) (fun _ => HH) rfl)
  refine steps_cons ?_ ?_
  ·rintro b a w' ⟨ms, hR⟩ hb_ hon hoff
   obtain ⟨ha, hF, hD, hG, _⟩ := id hR
   have hG1 := hG
   rw [hGd] at hG1
   obtain ⟨HBl, HSz, Bx3, Bx4, Bx5, Rs⟩ := hG1
   have HH := hR.2.2.2.2 (hoff 23 (by kernel_rfl))
   refine ⟨_, rfl, fun K hK => ?_⟩
   have e25 : a.tmps[25]? = some (.pointer (some ⟨w.heap.size + 1 + 1, 0, none⟩)) := (on_ 18 ha rfl (hon 18 (by kernel_rfl)) rfl).trans (congrArg some (hF 18 (hon 18 (by kernel_rfl))))
   have hc : w'.cell? ⟨w.heap.size + 1 + 1, 0, none⟩ = some (.int .i64 c0) := (blk_cell Bx5 0).trans rfl
   have HR := Aside0.mk hR
   clear hR ha hF
   refine value_ (w1 := w') (v := .int .i64 c0) (by rfl) rfl ?_ ?_
   ·go_simp
    (try simp only [i64_w])
    try rfl
   exact hK.out _ _ (step_ 19 HR.out rfl rfl hb_ (Below.refl _ _) hG rfl (fun h => by cases h) (fun _ => HH) rfl)
  refine steps_cons ?_ ?_
  ·rintro b a w' ⟨ms, hR⟩ hb_ hon hoff
   obtain ⟨ha, hF, hD, hG, _⟩ := id hR
   have hG1 := hG
   rw [hGd] at hG1
   obtain ⟨HBl, HSz, Bx3, Bx4, Bx5, Rs⟩ := hG1
   have HH := hR.2.2.2.2 (hoff 23 (by kernel_rfl))
   refine ⟨_, rfl, fun K hK => ?_⟩
   have e24 : a.tmps[24]? = some (.int .i64 a0) := (on_ 17 ha rfl (hon 17 (by kernel_rfl)) rfl).trans (congrArg some (hF 17 (hon 17 (by kernel_rfl))))
   have e26 : a.tmps[26]? = some (.int .i64 c0) := (on_ 19 ha rfl (hon 19 (by kernel_rfl)) rfl).trans (congrArg some (hF 19 (hon 19 (by kernel_rfl))))
   refine goes_ Try.func31 (by kernel_rfl) rfl #[.int .i64 a0, .int .i64 c0] (by rfl) rfl rfl (by first | (simp only [List.map_toArray, List.map_cons, List.map_nil, Act.eval, Array.getD_eq_getD_getElem?, Option.getD_some, e24, e26]; done) | (simp only [List.map_toArray, List.map_cons, List.map_nil, Act.eval, Array.getD_eq_getD_getElem?, Option.getD_some, e24, e26]; rfl)) ?_
   with_reducible refine (diff_c a0 c0 h_a0 h_c0 _).mono ?_
   rintro e w1 ⟨r, rfl, hN, hb⟩
   exact ⟨_, rfl, hK.out _ _ (step_ 20 hR rfl rfl hb_ hb (GM _ _ hG hb) hN (fun h => by cases h) (fun _ => HM _ _ HH hb) rfl)⟩
  refine steps_cons ?_ ?_
  ·rintro b a w' ⟨ms, hR⟩ hb_ hon hoff
   obtain ⟨ha, hF, hD, hG, _⟩ := id hR
   have hG1 := hG
   rw [hGd] at hG1
   obtain ⟨HBl, HSz, Bx3, Bx4, Bx5, Rs⟩ := hG1
   have HH := hR.2.2.2.2 (hoff 23 (by kernel_rfl))
   refine ⟨_, rfl, fun K hK => ?_⟩
   have e22 : a.tmps[22]? = some (ms 15) := on_ 15 ha rfl (hon 15 (by kernel_rfl)) rfl
   have q15 : NI w' (ms 15) (b1 - a1) := hF 15 (hon 15 (by kernel_rfl))
   have e27 : a.tmps[27]? = some (ms 20) := on_ 20 ha rfl (hon 20 (by kernel_rfl)) rfl
   have q20 : NI w' (ms 20) (c0 - a0) := hF 20 (hon 20 (by kernel_rfl))
   refine goes_ Try.func32 (by kernel_rfl) rfl #[ms 15, ms 20] (by rfl) rfl rfl (by first | (simp only [List.map_toArray, List.map_cons, List.map_nil, Act.eval, Array.getD_eq_getD_getElem?, Option.getD_some, e22, e27]; done) | (simp only [List.map_toArray, List.map_cons, List.map_nil, Act.eval, Array.getD_eq_getD_getElem?, Option.getD_some, e22, e27]; rfl)) ?_
   with_reducible refine (mul_c _ _ (b1 - a1) (c0 - a0) s3 s4 _ (q15) (q20)).mono ?_
   rintro e w1 ⟨r, rfl, hN, hb⟩
   exact ⟨_, rfl, hK.out _ _ (step_ 21 hR rfl rfl hb_ hb (GM _ _ hG hb) hN (fun h => by cases h) (fun _ => HM _ _ HH hb) rfl)⟩
  refine steps_cons ?_ ?_
  ·rintro b a w' ⟨ms, hR⟩ hb_ hon hoff
   obtain ⟨ha, hF, hD, hG, _⟩ := id hR
   have hG1 := hG
   rw [hGd] at hG1
   obtain ⟨HBl, HSz, Bx3, Bx4, Bx5, Rs⟩ := hG1
   have HH := hR.2.2.2.2 (hoff 23 (by kernel_rfl))
   refine ⟨_, rfl, fun K hK => ?_⟩
   have e17 : a.tmps[17]? = some (ms 10) := on_ 10 ha rfl (hon 10 (by kernel_rfl)) rfl
   have q10 : NI w' (ms 10) ((b0 - a0) * (c1 - a1)) := hF 10 (hon 10 (by kernel_rfl))
   have e28 : a.tmps[28]? = some (ms 21) := on_ 21 ha rfl (hon 21 (by kernel_rfl)) rfl
   have q21 : NI w' (ms 21) ((b1 - a1) * (c0 - a0)) := hF 21 (hon 21 (by kernel_rfl))
   refine goes_ Try.func34 (by kernel_rfl) rfl #[ms 10, ms 21] (by rfl) rfl rfl (by first | (simp only [List.map_toArray, List.map_cons, List.map_nil, Act.eval, Array.getD_eq_getD_getElem?, Option.getD_some, e17, e28]; done) | (simp only [List.map_toArray, List.map_cons, List.map_nil, Act.eval, Array.getD_eq_getD_getElem?, Option.getD_some, e17, e28]; rfl)) ?_
   with_reducible refine (sub_c _ _ ((b0 - a0) * (c1 - a1)) ((b1 - a1) * (c0 - a0)) s5 s6 _ (q10) (q21)).mono ?_
   rintro e w1 ⟨r, rfl, hN, hb⟩
   exact ⟨_, rfl, hK.out _ _ (step_ 22 hR rfl rfl hb_ hb (GM _ _ hG hb) hN (fun h => by cases h) (fun _ => HM _ _ HH hb) rfl)⟩
  refine steps_cons ?_ ?_
  ·rintro b a w' ⟨ms, hR⟩ hb_ hon hoff
   obtain ⟨ha, hF, hD, hG, _⟩ := id hR
   have hG1 := hG
   rw [hGd] at hG1
   obtain ⟨HBl, HSz, Bx3, Bx4, Bx5, Rs⟩ := hG1
   have HH := True.intro
   refine ⟨_, rfl, fun K hK => ?_⟩
   have hn := hF 22 (hon 22 (by kernel_rfl))
   obtain ⟨sz, Az, lz, cz, ev⟩ := NI.shape hn
   have e29 : a.tmps[29]? = some (.agg #[.int .i64 sz, .slice Az lz cz]) := (on_ 22 ha rfl (hon 22 (by kernel_rfl)) rfl).trans (congrArg some ev)
   have e6 : a.tmps[6]? = some (.pointer (some ⟨w.heap.size + 1 + 1 + 1, 0, none⟩)) := (off_ ha rfl).trans rfl
   obtain ⟨x0, y0, hgh⟩ := Rs
   have h0 : w'.cell? ⟨w.heap.size + 1 + 1 + 1, 0, none⟩ = some x0 := (blk_cell hgh 0).trans rfl
   have h1 : w'.cell? ⟨w.heap.size + 1 + 1 + 1, 1, none⟩ = some y0 := (blk_cell hgh 1).trans rfl
   have f0 := blk_frozen hgh 0
   have f1 := blk_frozen hgh 1
   have HR := Aside0.mk hR
   clear hR ha
   refine skip_ (w1 := ?_) (by rfl) rfl ?_ ?_
   rotate_left
   ·go_simp
    rfl
   exact hK.out _ _ (fin_ HR.out rfl (hall_ (by kernel_rfl) hon) rfl hb_ rfl hgh (by show w.heap.size + 1 + 1 + 1 < w.heap.size + 1 + 1 + 1 + 1; omega) ⟨_, _, blk_put (blk_put hgh 0 _ rfl) 1 _ rfl, by rw [← ev]; exact NI.store (NI.store hn hgh (by decide) 0 _) (blk_put hgh 0 _ rfl) (by decide) 1 _⟩ (GR _ _ _ _ _ hG hgh) rfl)
  exact steps_nil
 rintro b a V hall ⟨ms, ha, hF, hD, hG, _⟩
 rw [hGd] at hG
 obtain ⟨HBl, HSz, Bx3, Bx4, Bx5, Rs⟩ := hG
 have bb1_0 := hall 0 (by kernel_rfl)
 have bb1_1 := hall 1 (by kernel_rfl)
 have bb1_2 := hall 2 (by kernel_rfl)
 have bb1_3 := hall 3 (by kernel_rfl)
 have bb1_4 := hall 4 (by kernel_rfl)
 have bb1_5 := hall 5 (by kernel_rfl)
 have bb1_6 := hall 6 (by kernel_rfl)
 have bb1_7 := hall 7 (by kernel_rfl)
 have bb1_8 := hall 8 (by kernel_rfl)
 have bb1_9 := hall 9 (by kernel_rfl)
 have bb1_10 := hall 10 (by kernel_rfl)
 have bb1_11 := hall 11 (by kernel_rfl)
 have bb1_12 := hall 12 (by kernel_rfl)
 have bb1_13 := hall 13 (by kernel_rfl)
 have bb1_14 := hall 14 (by kernel_rfl)
 have bb1_15 := hall 15 (by kernel_rfl)
 have bb1_16 := hall 16 (by kernel_rfl)
 have bb1_17 := hall 17 (by kernel_rfl)
 have bb1_18 := hall 18 (by kernel_rfl)
 have bb1_19 := hall 19 (by kernel_rfl)
 have bb1_20 := hall 20 (by kernel_rfl)
 have bb1_21 := hall 21 (by kernel_rfl)
 have bb1_22 := hall 22 (by kernel_rfl)
 have bb1_23 := hall 23 (by kernel_rfl)
 have m1_0 : ms 0 = .pointer (some ⟨w.heap.size, 0, none⟩) := hF 0 bb1_0
 have m1_1 : ms 1 = .int .i64 a0 := hF 1 bb1_1
 have m1_2 : ms 2 = .pointer (some ⟨w.heap.size + 1, 0, none⟩) := hF 2 bb1_2
 have m1_3 : ms 3 = .int .i64 b0 := hF 3 bb1_3
 have m1_4 : NI V (ms 4) (b0 - a0) := hF 4 bb1_4
 have m1_5 : ms 5 = .pointer (some ⟨w.heap.size, 1, none⟩) := hF 5 bb1_5
 have m1_6 : ms 6 = .int .i64 a1 := hF 6 bb1_6
 have m1_7 : ms 7 = .pointer (some ⟨w.heap.size + 1 + 1, 1, none⟩) := hF 7 bb1_7
 have m1_8 : ms 8 = .int .i64 c1 := hF 8 bb1_8
 have m1_9 : NI V (ms 9) (c1 - a1) := hF 9 bb1_9
 have m1_10 : NI V (ms 10) ((b0 - a0) * (c1 - a1)) := hF 10 bb1_10
 have m1_11 : ms 11 = .pointer (some ⟨w.heap.size, 1, none⟩) := hF 11 bb1_11
 have m1_12 : ms 12 = .int .i64 a1 := hF 12 bb1_12
 have m1_13 : ms 13 = .pointer (some ⟨w.heap.size + 1, 1, none⟩) := hF 13 bb1_13
 have m1_14 : ms 14 = .int .i64 b1 := hF 14 bb1_14
 have m1_15 : NI V (ms 15) (b1 - a1) := hF 15 bb1_15
 have m1_16 : ms 16 = .pointer (some ⟨w.heap.size, 0, none⟩) := hF 16 bb1_16
 have m1_17 : ms 17 = .int .i64 a0 := hF 17 bb1_17
 have m1_18 : ms 18 = .pointer (some ⟨w.heap.size + 1 + 1, 0, none⟩) := hF 18 bb1_18
 have m1_19 : ms 19 = .int .i64 c0 := hF 19 bb1_19
 have m1_20 : NI V (ms 20) (c0 - a0) := hF 20 bb1_20
 have m1_21 : NI V (ms 21) ((b1 - a1) * (c0 - a0)) := hF 21 bb1_21
 have m1_22 : NI V (ms 22) (((b0 - a0) * (c1 - a1)) - ((b1 - a1) * (c0 - a0))) := hF 22 bb1_22
 obtain ⟨_, x1_23, y1_23, h1_23, m1_23⟩ := hF 23 bb1_23
 subst ha
 simp only [ent, List.map_cons, List.map_nil, putSel, bb1_0, bb1_1, bb1_2, bb1_3, bb1_4, bb1_5, bb1_6, bb1_7, bb1_8, bb1_9, bb1_10, bb1_11, bb1_12, bb1_13, bb1_14, bb1_15, bb1_16, bb1_17, bb1_18, bb1_19, bb1_20, bb1_21, bb1_22, m1_0, m1_1, m1_2, m1_3, m1_5, m1_6, m1_7, m1_8, m1_11, m1_12, m1_13, m1_14, m1_16, m1_17, m1_18, m1_19, if_true, Act.put, List.setIfInBounds_toArray, List.set_cons_zero, List.set_cons_succ]
 clear hF hD bb1_0 bb1_1 bb1_2 bb1_3 bb1_4 bb1_5 bb1_6 bb1_7 bb1_8 bb1_9 bb1_10 bb1_11 bb1_12 bb1_13 bb1_14 bb1_15 bb1_16 bb1_17 bb1_18 bb1_19 bb1_20 bb1_21 bb1_22 bb1_23
 go_wp2
 refine bodyPost_ret (results_cell_row rfl _ _ (w.heap.size + 1 + 1 + 1) 42 #[x1_23, y1_23] (0, 0) _ rfl h1_23 Try.underlying42 rfl (by kernel_rfl)) rfl ?_
 exact ⟨_, rfl, m1_23, HBl⟩
def dist1.T : Bool × List (List Nat × List Nat) := (true, [([], []), ([0], [0]), ([], []), ([2], [2]), ([1, 3], [1, 3]), ([], []), ([5], [5]), ([], []), ([7], [7]), ([6, 8, 4], [6, 8]), ([], []), ([], []), ([10, 4, 9, 0, 1, 2, 3, 4, 10, 11], [4, 10]), ([11, 9, 12, 0, 1, 2, 3, 4, 5, 6, 7, 8, 9, 10, 11, 12], [9, 11])])
def dist1.B : List Nat := [0, 1, 0, 4, 15, 0, 32, 0, 128, 511, 0, 0, 4095, 8191]
theorem dist1.tab : rtab .any (opsOf Try.f33 1) = dist1.T := by kernel_rfl
theorem dist1.bits : waitsOk dist1.T.2 dist1.B = true := by kernel_rfl
def dist2.T : Bool × List (List Nat × List Nat) := (true, [([], []), ([], []), ([0, 1], [0, 1]), ([], []), ([], []), ([3, 4, 2], [3, 4]), ([2, 5, 5], [2, 5]), ([6, 6, 0, 1, 2, 3, 4, 5, 6], [6])])
def dist2.B : List Nat := [0, 0, 3, 0, 0, 31, 63, 127]
theorem dist2.tab : rtab .any (opsOf Try.f33 2) = dist2.T := by kernel_rfl
theorem dist2.bits : waitsOk dist2.T.2 dist2.B = true := by kernel_rfl
set_option maxHeartbeats 8000000 in
set_option maxRecDepth 100000 in
theorem dist_c {a0 a1 b0 b1 : Int} (ha : CoP a0 a1) (hb : CoP b0 b1) (w : World) :
  Calls Try.prog 33 #[.agg #[.int .i64 a0, .int .i64 a1], .agg #[.int .i64 b0, .int .i64 b1]] w fun e w' => ∃ r, e = .returned r ∧ NI w' r (ds a0 a1 b0 b1) ∧ Below w.heap.size w w' := by
 have x0 := hb.1.way ha.1; have x1 := hb.2.way ha.2
 have s1 := sm_am x0 (by omega); have s2 := sm_am x1 (by omega); have s3 := sm_am (Am.mul x0 x0) (by omega); have s4 := sm_am (Am.mul x1 x1) (by omega)
 have h_a0 := co_wf ha.1; have h_a1 := co_wf ha.2; have h_b0 := co_wf hb.1; have h_b1 := co_wf hb.2
 clear x0 x1
 unfold ds
 go_enter Try.func33, Try.ntmps33
 go_wp2_with fail
 obtain ⟨n0, n1, n2, bw, nw⟩ := three_new w (.cells #[.int .i64 a0, .int .i64 a1] 23) (.cells #[.int .i64 b0, .int .i64 b1] 23) (.cells #[.int .i64 0, .slice none 0 0] 42)
 generalize (((w.alloc (.cells #[.int .i64 a0, .int .i64 a1] 23)).alloc (.cells #[.int .i64 b0, .int .i64 b1] 23)).alloc (.cells #[.int .i64 0, .slice none 0 0] 42)) = W at n0 n1 n2 bw nw ⊢
 obtain ⟨G, hGd⟩ : ∃ G : World → Prop, G = (fun w' => Below w.heap.size w w' ∧ w.heap.size + 1 + 1 + 1 ≤ w'.heap.size ∧ w'.heap[w.heap.size]? = some (.cells #[.int .i64 a0, .int .i64 a1] 23 (0, 0)) ∧ w'.heap[w.heap.size + 1]? = some (.cells #[.int .i64 b0, .int .i64 b1] 23 (0, 0)) ∧ ∃ x y, w'.heap[w.heap.size + 1 + 1]? = some (.cells #[x, y] 42 (0, 0))) := ⟨_, rfl⟩
 have GM : ∀ w1 w2 : World, G w1 → Below w1.heap.size w1 w2 → G w2 := by
  subst hGd
  rintro w1 w2 ⟨HBl, HSz, Bx2, Bx3, Rs⟩ hb
  exact ⟨below_step HBl hb, Nat.le_trans HSz hb.size, blk_below Bx2 hb, blk_below Bx3 hb, (Rs.elim fun x h => h.elim fun y h => ⟨x, y, blk_below h hb⟩)⟩
 have HM : ∀ w1 w2 : World, (fun _ => True) w1 → Below w1.heap.size w1 w2 → (fun _ => True) w2 := fun _ _ _ _ => True.intro
 have GS : ∀ (w1 : World) (g : Nat) (x0 y0 x y : Value), G w1 → w1.heap[g]? = some (.cells #[x0, y0] 42 (0, 0)) → w.heap.size ≤ g → ((w.heap.size = g ∨ w.heap.size + 1 = g ∨ w.heap.size + 1 + 1 = g) → False) → G ((w1.setCell ⟨g, 0, none⟩ x).setCell ⟨g, 1, none⟩ y) := by
  subst hGd
  rintro w1 g x0 y0 x y ⟨HBl, HSz, Bx2, Bx3, Rs⟩ hgh hle hne
  exact ⟨below_set2 HBl hle _ _ _ _, (by simpa [World.setCell] using HSz), blk_far (blk_far Bx2 (fun e => hne (by simp [e])) _) (fun e => hne (by simp [e])) _, blk_far (blk_far Bx3 (fun e => hne (by simp [e])) _) (fun e => hne (by simp [e])) _, (Rs.elim fun x h => h.elim fun y h => ⟨x, y, blk_far (blk_far h (fun e => hne (by simp [e])) _) (fun e => hne (by simp [e])) _⟩)⟩
 refine start_ (n := 14) (S := fun w' => True) (ds := []) #[false, false, false, false, false, false, false, false, false, false, false, false, false, false] (by kernel_rfl) rfl rfl trivial (fun _ => ?_); refine with_tabW dist1.tab dist1.bits (fun HT_ HW_ => ?_)
 have hG0 : G W.drew := by subst hGd; exact ⟨below_drew bw, Nat.le_of_eq nw.symm, n0, n1, _, _, n2⟩
 generalize W.drew = W1 at hG0 ⊢
 refine inv_at [0, 1, 2, 3, 4, 5, 6, 7, 8, 9, 10, 11, 12, 13] (fun a0_ b a w' => Rg ⟨[0, 1, 2, 3, 4, 5, 6, 7, 8, 9, 10, 11, 12, 13], [(0, 7), (1, 8), (2, 9), (3, 10), (4, 11), (5, 12), (6, 13), (7, 14), (8, 15), (9, 16), (10, 5), (11, 6)], fun j => [.const (.pointer (some ⟨w.heap.size, 0, none⟩)), .const (.int .i64 a0), .const (.pointer (some ⟨w.heap.size + 1, 0, none⟩)), .const (.int .i64 b0), .ni (b0 - a0), .const (.pointer (some ⟨w.heap.size, 1, none⟩)), .const (.int .i64 a1), .const (.pointer (some ⟨w.heap.size + 1, 1, none⟩)), .const (.int .i64 b1), .ni (b1 - a1), .box, .box, .put 10 4, .put 11 9].getD j .box, w.heap.size + 1 + 1 + 1, 2, G, fun _ => True, 1000⟩ a0_ b a w') HT_.out HW_.out (by kernel_rfl) (by kernel_rfl) ?_ ?_ ?_
 ·exact rg0 hG0 True.intro
 ·refine steps_cons ?_ ?_
  ·rintro b a w' ⟨ms, hR⟩ hb_ hon hoff
   obtain ⟨ha, hF, hD, hG, _⟩ := id hR
   have hG1 := hG
   rw [hGd] at hG1
   obtain ⟨HBl, HSz, Bx2, Bx3, Rs⟩ := hG1
   have HH := True.intro
   refine ⟨_, rfl, fun K hK => ?_⟩
   have e2 : a.tmps[2]? = some (.pointer (some ⟨w.heap.size, 0, none⟩)) := (off_ ha rfl).trans rfl
   have HR := Aside0.mk hR
   clear hR ha hF
   refine value_ (w1 := w') (v := .pointer (some ⟨w.heap.size, 0, none⟩)) (by rfl) rfl ?_ ?_
   ·go_simp
    try rfl
   exact hK.out _ _ (step_ 0 HR.out rfl rfl hb_ (Below.refl _ _) hG rfl (fun h => by cases h) (fun _ => HH) rfl)
  refine steps_cons ?_ ?_
  ·rintro b a w' ⟨ms, hR⟩ hb_ hon hoff
   obtain ⟨ha, hF, hD, hG, _⟩ := id hR
   have hG1 := hG
   rw [hGd] at hG1
   obtain ⟨HBl, HSz, Bx2, Bx3, Rs⟩ := hG1
   have HH := True.intro
   refine ⟨_, rfl, fun K hK => ?_⟩
   have e7 : a.tmps[7]? = some (.pointer (some ⟨w.heap.size, 0, none⟩)) := (on_ 0 ha rfl (hon 0 (by kernel_rfl)) rfl).trans (congrArg some (hF 0 (hon 0 (by kernel_rfl))))
   have hc : w'.cell? ⟨w.heap.size, 0, none⟩ = some (.int .i64 a0) := (blk_cell Bx2 0).trans rfl
   have HR := Aside0.mk hR
   clear hR ha hF
   refine value_ (w1 := w') (v := .int .i64 a0) (by rfl) rfl ?_ ?_
   ·go_simp
    (try simp only [i64_w])
    try rfl
   exact hK.out _ _ (step_ 1 HR.out rfl rfl hb_ (Below.refl _ _) hG rfl (fun h => by cases h) (fun _ => HH) rfl)
  refine steps_cons ?_ ?_
  ·rintro b a w' ⟨ms, hR⟩ hb_ hon hoff
   obtain ⟨ha, hF, hD, hG, _⟩ := id hR
   have hG1 := hG
   rw [hGd] at hG1
   obtain ⟨HBl, HSz, Bx2, Bx3, Rs⟩ := hG1
   have HH := True.intro
   refine ⟨_, rfl, fun K hK => ?_⟩
   have e3 : a.tmps[3]? = some (.pointer (some ⟨w.heap.size + 1, 0, none⟩)) := (off_ ha rfl).trans rfl
   have HR := Aside0.mk hR
   clear hR ha hF
   refine value_ (w1 := w') (v := .pointer (some ⟨w.heap.size + 1, 0, none⟩)) (by rfl) rfl ?_ ?_
   ·go_simp
    try rfl
   exact hK.out _ _ (step_ 2 HR.out rfl rfl hb_ (Below.refl _ _) hG rfl (fun h => by cases h) (fun _ => HH) rfl)
  refine steps_cons ?_ ?_
  ·rintro b a w' ⟨ms, hR⟩ hb_ hon hoff
   obtain ⟨ha, hF, hD, hG, _⟩ := id hR
   have hG1 := hG
   rw [hGd] at hG1
   obtain ⟨HBl, HSz, Bx2, Bx3, Rs⟩ := hG1
   have HH := True.intro
   refine ⟨_, rfl, fun K hK => ?_⟩
   have e9 : a.tmps[9]? = some (.pointer (some ⟨w.heap.size + 1, 0, none⟩)) := (on_ 2 ha rfl (hon 2 (by kernel_rfl)) rfl).trans (congrArg some (hF 2 (hon 2 (by kernel_rfl))))
   have hc : w'.cell? ⟨w.heap.size + 1, 0, none⟩ = some (.int .i64 b0) := (blk_cell Bx3 0).trans rfl
   have HR := Aside0.mk hR
   clear hR ha hF
   refine value_ (w1 := w') (v := .int .i64 b0) (by rfl) rfl ?_ ?_
   ·go_simp
    (try simp only [i64_w])
    try rfl
   exact hK.out _ _ (step_ 3 HR.out rfl rfl hb_ (Below.refl _ _) hG rfl (fun h => by cases h) (fun _ => HH) rfl)
  refine steps_cons ?_ ?_
  ·rintro b a w' ⟨ms, hR⟩ hb_ hon hoff
   obtain ⟨ha, hF, hD, hG, _⟩ := id hR
   have hG1 := hG
   rw [hGd] at hG1
   obtain ⟨HBl, HSz, Bx2, Bx3, Rs⟩ := hG1
   have HH := True.intro
   refine ⟨_, rfl, fun K hK => ?_⟩
   have e8 : a.tmps[8]? = some (.int .i64 a0) := (on_ 1 ha rfl (hon 1 (by kernel_rfl)) rfl).trans (congrArg some (hF 1 (hon 1 (by kernel_rfl))))
   have e10 : a.tmps[10]? = some (.int .i64 b0) := (on_ 3 ha rfl (hon 3 (by kernel_rfl)) rfl).trans (congrArg some (hF 3 (hon 3 (by kernel_rfl))))
   refine goes_ Try.func31 (by kernel_rfl) rfl #[.int .i64 a0, .int .i64 b0] (by rfl) rfl rfl (by first | (simp only [List.map_toArray, List.map_cons, List.map_nil, Act.eval, Array.getD_eq_getD_getElem?, Option.getD_some, e8, e10]; done) | (simp only [List.map_toArray, List.map_cons, List.map_nil, Act.eval, Array.getD_eq_getD_getElem?, Option.getD_some, e8, e10]; rfl)) ?_
   with_reducible refine (diff_c a0 b0 h_a0 h_b0 _).mono ?_
   rintro e w1 ⟨r, rfl, hN, hb⟩
   exact ⟨_, rfl, hK.out _ _ (step_ 4 hR rfl rfl hb_ hb (GM _ _ hG hb) hN (fun h => by cases h) (fun _ => HM _ _ HH hb) rfl)⟩
  refine steps_cons ?_ ?_
  ·rintro b a w' ⟨ms, hR⟩ hb_ hon hoff
   obtain ⟨ha, hF, hD, hG, _⟩ := id hR
   have hG1 := hG
   rw [hGd] at hG1
   obtain ⟨HBl, HSz, Bx2, Bx3, Rs⟩ := hG1
   have HH := True.intro
   refine ⟨_, rfl, fun K hK => ?_⟩
   have e2 : a.tmps[2]? = some (.pointer (some ⟨w.heap.size, 0, none⟩)) := (off_ ha rfl).trans rfl
   have HR := Aside0.mk hR
   clear hR ha hF
   refine value_ (w1 := w') (v := .pointer (some ⟨w.heap.size, 1, none⟩)) (by rfl) rfl ?_ ?_
   ·go_simp
    try rfl
   exact hK.out _ _ (step_ 5 HR.out rfl rfl hb_ (Below.refl _ _) hG rfl (fun h => by cases h) (fun _ => HH) rfl)
  refine steps_cons ?_ ?_
  ·rintro b a w' ⟨ms, hR⟩ hb_ hon hoff
   obtain ⟨ha, hF, hD, hG, _⟩ := id hR
   have hG1 := hG
   rw [hGd] at hG1
   obtain ⟨HBl, HSz, Bx2, Bx3, Rs⟩ := hG1
   have HH := True.intro
   refine ⟨_, rfl, fun K hK => ?_⟩
   have e12 : a.tmps[12]? = some (.pointer (some ⟨w.heap.size, 1, none⟩)) := (on_ 5 ha rfl (hon 5 (by kernel_rfl)) rfl).trans (congrArg some (hF 5 (hon 5 (by kernel_rfl))))
   have hc : w'.cell? ⟨w.heap.size, 1, none⟩ = some (.int .i64 a1) := (blk_cell Bx2 1).trans rfl
   have HR := Aside0.mk hR
   clear hR ha hF
   refine value_ (w1 := w') (v := .int .i64 a1) (by rfl) rfl ?_ ?_
   ·go_simp
    (try simp only [i64_w])
    try rfl
   exact hK.out _ _ (step_ 6 HR.out rfl rfl hb_ (Below.refl _ _) hG rfl (fun h => by cases h) (fun _ => HH) rfl)
  refine steps_cons ?_ ?_
  ·rintro b a w' ⟨ms, hR⟩ hb_ hon hoff
   obtain ⟨ha, hF, hD, hG, _⟩ := id hR
   have hG1 := hG
   rw [hGd] at hG1
   obtain ⟨HBl, HSz, Bx2, Bx3, Rs⟩ := hG1
   have HH := True.intro
   refine ⟨_, rfl, fun K hK => ?_⟩
   have e3 : a.tmps[3]? = some (.pointer (some ⟨w.heap.size + 1, 0, none⟩)) := (off_ ha rfl).trans rfl
   have HR := Aside0.mk hR
   clear hR ha hF
   refine value_ (w1 := w') (v := .pointer (some ⟨w.heap.size + 1, 1, none⟩)) (by rfl) rfl ?_ ?_
   ·go_simp
    try rfl
   exact hK.out _ _ (step_ 7 HR.out rfl rfl hb_ (Below.refl _ _) hG rfl (fun h => by cases h) (fun _ => HH) rfl)
  refine steps_cons ?_ ?_
  ·rintro b a w' ⟨ms, hR⟩ hb_ hon hoff
   obtain ⟨ha, hF, hD, hG, _⟩ := id hR
   have hG1 := hG
   rw [hGd] at hG1
   obtain ⟨HBl, HSz, Bx2, Bx3, Rs⟩ := hG1
   have HH := True.intro
   refine ⟨_, rfl, fun K hK => ?_⟩
   have e14 : a.tmps[14]? = some (.pointer (some ⟨w.heap.size + 1, 1, none⟩)) := (on_ 7 ha rfl (hon 7 (by kernel_rfl)) rfl).trans (congrArg some (hF 7 (hon 7 (by kernel_rfl))))
   have hc : w'.cell? ⟨w.heap.size + 1, 1, none⟩ = some (.int .i64 b1) := (blk_cell Bx3 1).trans rfl
   have HR := Aside0.mk hR
   clear hR ha hF
   refine value_ (w1 := w') (v := .int .i64 b1) (by rfl) rfl ?_ ?_
   ·go_simp
    (try simp only [i64_w])
    try rfl
   exact hK.out _ _ (step_ 8 HR.out rfl rfl hb_ (Below.refl _ _) hG rfl (fun h => by cases h) (fun _ => HH) rfl)
  refine steps_cons ?_ ?_
  ·rintro b a w' ⟨ms, hR⟩ hb_ hon hoff
   obtain ⟨ha, hF, hD, hG, _⟩ := id hR
   have hG1 := hG
   rw [hGd] at hG1
   obtain ⟨HBl, HSz, Bx2, Bx3, Rs⟩ := hG1
   have HH := True.intro
   refine ⟨_, rfl, fun K hK => ?_⟩
   have e13 : a.tmps[13]? = some (.int .i64 a1) := (on_ 6 ha rfl (hon 6 (by kernel_rfl)) rfl).trans (congrArg some (hF 6 (hon 6 (by kernel_rfl))))
   have e15 : a.tmps[15]? = some (.int .i64 b1) := (on_ 8 ha rfl (hon 8 (by kernel_rfl)) rfl).trans (congrArg some (hF 8 (hon 8 (by kernel_rfl))))
   refine goes_ Try.func31 (by kernel_rfl) rfl #[.int .i64 a1, .int .i64 b1] (by rfl) rfl rfl (by first | (simp only [List.map_toArray, List.map_cons, List.map_nil, Act.eval, Array.getD_eq_getD_getElem?, Option.getD_some, e13, e15]; done) | (simp only [List.map_toArray, List.map_cons, List.map_nil, Act.eval, Array.getD_eq_getD_getElem?, Option.getD_some, e13, e15]; rfl)) ?_
   with_reducible refine (diff_c a1 b1 h_a1 h_b1 _).mono ?_
   rintro e w1 ⟨r, rfl, hN, hb⟩
   exact ⟨_, rfl, hK.out _ _ (step_ 9 hR rfl rfl hb_ hb (GM _ _ hG hb) hN (fun h => by cases h) (fun _ => HM _ _ HH hb) rfl)⟩
  refine steps_cons ?_ ?_
  ·rintro b a w' ⟨ms, hR⟩ hb_ hon hoff
   obtain ⟨ha, hF, hD, hG, _⟩ := id hR
   have hG1 := hG
   rw [hGd] at hG1
   obtain ⟨HBl, HSz, Bx2, Bx3, Rs⟩ := hG1
   have HH := True.intro
   refine ⟨_, rfl, fun K hK => ?_⟩
   refine box_step ?hg (N := 5) ?hd (cs := #[.int .i64 0, .slice none 0 0]) (t := 42) ?hr ?_; (case hd => rfl); (case hg => rfl); (case hr => first | (go_simp; done) | (go_simp; rfl))
   intro g hg w1 hbox hb
   exact hK.out _ _ (step_ 10 hR rfl rfl hb_ hb (GM _ _ hG hb) ⟨g, _, _, rfl, by rw [hg]; exact HSz, hbox⟩ (fun _ => by rw [hg]) (fun _ => HM _ _ HH hb) rfl)
  refine steps_cons ?_ ?_
  ·rintro b a w' ⟨ms, hR⟩ hb_ hon hoff
   obtain ⟨ha, hF, hD, hG, _⟩ := id hR
   have hG1 := hG
   rw [hGd] at hG1
   obtain ⟨HBl, HSz, Bx2, Bx3, Rs⟩ := hG1
   have HH := True.intro
   refine ⟨_, rfl, fun K hK => ?_⟩
   refine box_step ?hg (N := 6) ?hd (cs := #[.int .i64 0, .slice none 0 0]) (t := 42) ?hr ?_; (case hd => rfl); (case hg => rfl); (case hr => first | (go_simp; done) | (go_simp; rfl))
   intro g hg w1 hbox hb
   exact hK.out _ _ (step_ 11 hR rfl rfl hb_ hb (GM _ _ hG hb) ⟨g, _, _, rfl, by rw [hg]; exact HSz, hbox⟩ (fun _ => by rw [hg]) (fun _ => HM _ _ HH hb) rfl)
  refine steps_cons ?_ ?_
  ·rintro b a w' ⟨ms, hR⟩ hb_ hon hoff
   obtain ⟨ha, hF, hD, hG, _⟩ := id hR
   have hG1 := hG
   rw [hGd] at hG1
   obtain ⟨HBl, HSz, Bx2, Bx3, Rs⟩ := hG1
   have HH := True.intro
   refine ⟨_, rfl, fun K hK => ?_⟩
   have hn := hF 4 (hon 4 (by kernel_rfl))
   obtain ⟨sz, Az, lz, cz, ev⟩ := NI.shape hn
   have e11 : a.tmps[11]? = some (.agg #[.int .i64 sz, .slice Az lz cz]) := (on_ 4 ha rfl (hon 4 (by kernel_rfl)) rfl).trans (congrArg some ev)
   obtain ⟨g, x0, y0, eg, hgK, hgh⟩ := hF 10 (hon 10 (by kernel_rfl))
   replace hgK : w.heap.size + 1 + 1 + 1 ≤ g := hgK
   have e5 : a.tmps[5]? = some (.pointer (some ⟨g, 0, none⟩)) := (on_ 10 ha rfl (hon 10 (by kernel_rfl)) rfl).trans (congrArg some eg)
   have h0 : w'.cell? ⟨g, 0, none⟩ = some x0 := (blk_cell hgh 0).trans rfl
   have h1 : w'.cell? ⟨g, 1, none⟩ = some y0 := (blk_cell hgh 1).trans rfl
   have f0 := blk_frozen hgh 0
   have f1 := blk_frozen hgh 1
   have HR := Aside0.mk hR
   clear hR ha
   refine skip_ (w1 := ?_) (by rfl) rfl ?_ ?_
   rotate_left
   ·go_simp
    rfl
   exact hK.out _ _ (put_ HR.out rfl rfl hb_ rfl rfl (hon 10 (by kernel_rfl)) (hon 4 (by kernel_rfl)) rfl eg ev (GS _ g _ _ _ _ hG hgh (by omega) (fun h => by omega)) (fun _ => HH) rfl)
  refine steps_cons ?_ ?_
  ·rintro b a w' ⟨ms, hR⟩ hb_ hon hoff
   obtain ⟨ha, hF, hD, hG, _⟩ := id hR
   have hG1 := hG
   rw [hGd] at hG1
   obtain ⟨HBl, HSz, Bx2, Bx3, Rs⟩ := hG1
   have HH := True.intro
   refine ⟨_, rfl, fun K hK => ?_⟩
   have hn := hF 9 (hon 9 (by kernel_rfl))
   obtain ⟨sz, Az, lz, cz, ev⟩ := NI.shape hn
   have e16 : a.tmps[16]? = some (.agg #[.int .i64 sz, .slice Az lz cz]) := (on_ 9 ha rfl (hon 9 (by kernel_rfl)) rfl).trans (congrArg some ev)
   obtain ⟨g, x0, y0, eg, hgK, hgh⟩ := hF 11 (hon 11 (by kernel_rfl))
   replace hgK : w.heap.size + 1 + 1 + 1 ≤ g := hgK
   have e6 : a.tmps[6]? = some (.pointer (some ⟨g, 0, none⟩)) := (on_ 11 ha rfl (hon 11 (by kernel_rfl)) rfl).trans (congrArg some eg)
   have h0 : w'.cell? ⟨g, 0, none⟩ = some x0 := (blk_cell hgh 0).trans rfl
   have h1 : w'.cell? ⟨g, 1, none⟩ = some y0 := (blk_cell hgh 1).trans rfl
   have f0 := blk_frozen hgh 0
   have f1 := blk_frozen hgh 1
   have HR := Aside0.mk hR
   clear hR ha
   refine skip_ (w1 := ?_) (by rfl) rfl ?_ ?_
   rotate_left
   ·go_simp
    rfl
   exact hK.out _ _ (put_ HR.out rfl rfl hb_ rfl rfl (hon 11 (by kernel_rfl)) (hon 9 (by kernel_rfl)) rfl eg ev (GS _ g _ _ _ _ hG hgh (by omega) (fun h => by omega)) (fun _ => HH) rfl)
  exact steps_nil
 rintro b a V1 hall ⟨ms, ha, hF, hD, hG, _⟩
 rw [hGd] at hG
 obtain ⟨HBl, HSz, Bx2, Bx3, Rs⟩ := hG
 have bb1_0 := hall 0 (by kernel_rfl)
 have bb1_1 := hall 1 (by kernel_rfl)
 have bb1_2 := hall 2 (by kernel_rfl)
 have bb1_3 := hall 3 (by kernel_rfl)
 have bb1_4 := hall 4 (by kernel_rfl)
 have bb1_5 := hall 5 (by kernel_rfl)
 have bb1_6 := hall 6 (by kernel_rfl)
 have bb1_7 := hall 7 (by kernel_rfl)
 have bb1_8 := hall 8 (by kernel_rfl)
 have bb1_9 := hall 9 (by kernel_rfl)
 have bb1_10 := hall 10 (by kernel_rfl)
 have bb1_11 := hall 11 (by kernel_rfl)
 have bb1_12 := hall 12 (by kernel_rfl)
 have bb1_13 := hall 13 (by kernel_rfl)
 have m1_0 : ms 0 = .pointer (some ⟨w.heap.size, 0, none⟩) := hF 0 bb1_0
 have m1_1 : ms 1 = .int .i64 a0 := hF 1 bb1_1
 have m1_2 : ms 2 = .pointer (some ⟨w.heap.size + 1, 0, none⟩) := hF 2 bb1_2
 have m1_3 : ms 3 = .int .i64 b0 := hF 3 bb1_3
 have m1_4 : NI V1 (ms 4) (b0 - a0) := hF 4 bb1_4
 have m1_5 : ms 5 = .pointer (some ⟨w.heap.size, 1, none⟩) := hF 5 bb1_5
 have m1_6 : ms 6 = .int .i64 a1 := hF 6 bb1_6
 have m1_7 : ms 7 = .pointer (some ⟨w.heap.size + 1, 1, none⟩) := hF 7 bb1_7
 have m1_8 : ms 8 = .int .i64 b1 := hF 8 bb1_8
 have m1_9 : NI V1 (ms 9) (b1 - a1) := hF 9 bb1_9
 obtain ⟨g1_10, _, _, m1_10, k1_10, _⟩ := hF 10 bb1_10
 replace k1_10 : w.heap.size + 1 + 1 + 1 ≤ g1_10 := k1_10
 obtain ⟨g1_11, _, _, m1_11, k1_11, _⟩ := hF 11 bb1_11
 replace k1_11 : w.heap.size + 1 + 1 + 1 ≤ g1_11 := k1_11
 obtain ⟨_, _, _, _, z1_12, x1_12, y1_12, n1_12, e1_12, h1_12⟩ := hF 12 bb1_12
 obtain rfl : g1_10 = z1_12 := by rw [m1_10] at n1_12; injection n1_12 with q; injection q with q; injection q with q
 rw [e1_12] at m1_4
 obtain ⟨_, _, _, _, z1_13, x1_13, y1_13, n1_13, e1_13, h1_13⟩ := hF 13 bb1_13
 obtain rfl : g1_11 = z1_13 := by rw [m1_11] at n1_13; injection n1_13 with q; injection q with q; injection q with q
 rw [e1_13] at m1_9
 subst ha
 simp only [ent, List.map_cons, List.map_nil, putSel, bb1_0, bb1_1, bb1_2, bb1_3, bb1_4, bb1_5, bb1_6, bb1_7, bb1_8, bb1_9, bb1_10, bb1_11, m1_0, m1_1, m1_2, m1_3, m1_5, m1_6, m1_7, m1_8, m1_10, m1_11, if_true, Act.put, List.setIfInBounds_toArray, List.set_cons_zero, List.set_cons_succ]
 clear hF hD bb1_0 bb1_1 bb1_2 bb1_3 bb1_4 bb1_5 bb1_6 bb1_7 bb1_8 bb1_9 bb1_10 bb1_11 bb1_12 bb1_13
 go_wp2_with fail
 obtain ⟨G, hGd⟩ : ∃ G : World → Prop, G = (fun w' => Below w.heap.size w w' ∧ w.heap.size + 1 + 1 + 1 ≤ w'.heap.size ∧ w'.heap[g1_10]? = some (.cells #[x1_12, y1_12] 42 (0, 0)) ∧ w'.heap[g1_11]? = some (.cells #[x1_13, y1_13] 42 (0, 0)) ∧ NI w' (.agg #[x1_12, y1_12]) (b0 - a0) ∧ NI w' (.agg #[x1_13, y1_13]) (b1 - a1) ∧ ∃ x y, w'.heap[w.heap.size + 1 + 1]? = some (.cells #[x, y] 42 (0, 0))) := ⟨_, rfl⟩
 have GM : ∀ w1 w2 : World, G w1 → Below w1.heap.size w1 w2 → G w2 := by
  subst hGd
  rintro w1 w2 ⟨HBl, HSz, Bx5, Bx6, Ni0, Ni1, Rs⟩ hb
  exact ⟨below_step HBl hb, Nat.le_trans HSz hb.size, blk_below Bx5 hb, blk_below Bx6 hb, NI.below Ni0 hb, NI.below Ni1 hb, (Rs.elim fun x h => h.elim fun y h => ⟨x, y, blk_below h hb⟩)⟩
 have HM : ∀ w1 w2 : World, (fun _ => True) w1 → Below w1.heap.size w1 w2 → (fun _ => True) w2 := fun _ _ _ _ => True.intro
 have GR : ∀ (w1 : World) (x0 y0 x y : Value), G w1 → w1.heap[w.heap.size + 1 + 1]? = some (.cells #[x0, y0] 42 (0, 0)) → G ((w1.setCell ⟨w.heap.size + 1 + 1, 0, none⟩ x).setCell ⟨w.heap.size + 1 + 1, 1, none⟩ y) := by
  subst hGd
  rintro w1 x0 y0 x y ⟨HBl, HSz, Bx5, Bx6, Ni0, Ni1, Rs⟩ hgh
  have hle : w.heap.size ≤ w.heap.size + 1 + 1 := by omega
  exact ⟨below_set2 HBl hle _ _ _ _, (by simpa [World.setCell] using HSz), blk_far (blk_far Bx5 (fun e => by have e1 : (g1_10 : Nat) = w.heap.size + 1 + 1 := e; omega) _) (fun e => by have e1 : (g1_10 : Nat) = w.heap.size + 1 + 1 := e; omega) _, blk_far (blk_far Bx6 (fun e => by have e1 : (g1_11 : Nat) = w.heap.size + 1 + 1 := e; omega) _) (fun e => by have e1 : (g1_11 : Nat) = w.heap.size + 1 + 1 := e; omega) _, NI.store (NI.store Ni0 hgh (by decide) 0 _) (blk_put hgh 0 _ rfl) (by decide) 1 _, NI.store (NI.store Ni1 hgh (by decide) 0 _) (blk_put hgh 0 _ rfl) (by decide) 1 _, _, _, blk_put (blk_put hgh 0 _ rfl) 1 _ rfl⟩
 refine start_ (n := 8) (S := fun w' => True) (ds := []) #[false, false, false, false, false, false, false, false] (by kernel_rfl) rfl rfl trivial (fun _ => ?_); refine with_tabW dist2.tab dist2.bits (fun HT_ HW_ => ?_)
 have hG0 : G V1.drew := by subst hGd; exact ⟨below_drew HBl, HSz, h1_12, h1_13, m1_4.drewN 1, m1_9.drewN 1, Rs⟩
 generalize V1.drew = W1 at hG0 ⊢
 refine inv_at [0, 1, 2, 3, 4, 5, 6, 7] (fun a0_ b a w' => Rg ⟨[0, 1, 2, 3, 4, 5, 6, 7], [(0, 17), (1, 18), (2, 19), (3, 20), (4, 21), (5, 22), (6, 23)], fun j => [.const (.agg #[x1_12, y1_12]), .const (.agg #[x1_12, y1_12]), .ni ((b0 - a0) * (b0 - a0)), .const (.agg #[x1_13, y1_13]), .const (.agg #[x1_13, y1_13]), .ni ((b1 - a1) * (b1 - a1)), .ni (((b0 - a0) * (b0 - a0)) + ((b1 - a1) * (b1 - a1))), .fin (fun ms w' => ∃ x y, w'.heap[w.heap.size + 1 + 1]? = some (.cells #[x, y] 42 (0, 0)) ∧ NI w' (.agg #[x, y]) (((b0 - a0) * (b0 - a0)) + ((b1 - a1) * (b1 - a1))))].getD j .box, w.heap.size + 1 + 1 + 1, 0, G, fun _ => True, 7⟩ a0_ b a w') HT_.out HW_.out (by kernel_rfl) (by kernel_rfl) ?_ ?_ ?_
 ·exact rg0 hG0 True.intro
 ·refine steps_cons ?_ ?_
  ·rintro b a w' ⟨ms, hR⟩ hb_ hon hoff
   obtain ⟨ha, hF, hD, hG, _⟩ := id hR
   have hG1 := hG
   rw [hGd] at hG1
   obtain ⟨HBl, HSz, Bx5, Bx6, Ni0, Ni1, Rs⟩ := hG1
   have HH := hR.2.2.2.2 (hoff 7 (by kernel_rfl))
   refine ⟨_, rfl, fun K hK => ?_⟩
   have e5 : a.tmps[5]? = some (.pointer (some ⟨g1_10, 0, none⟩)) := (off_ ha rfl).trans rfl
   have hc0 : w'.cell? ⟨g1_10, 0, none⟩ = some (x1_12) := (blk_cell Bx5 0).trans rfl
   have hc1 : w'.cell? ⟨g1_10, 1, none⟩ = some (y1_12) := (blk_cell Bx5 1).trans rfl
   have HR := Aside0.mk hR
   clear hR ha hF
   refine value_ (w1 := w') (v := .agg #[x1_12, y1_12]) (by rfl) rfl ?_ ?_
   ·go_simp
    (try simp only [i64_w])
    try rfl
   exact hK.out _ _ (step_ 0 HR.out rfl rfl hb_ (Below.refl _ _) hG rfl (fun h => by cases h) (fun _ => HH) rfl)
  refine steps_cons ?_ ?_
  ·rintro b a w' ⟨ms, hR⟩ hb_ hon hoff
   obtain ⟨ha, hF, hD, hG, _⟩ := id hR
   have hG1 := hG
   rw [hGd] at hG1
   obtain ⟨HBl, HSz, Bx5, Bx6, Ni0, Ni1, Rs⟩ := hG1
   have HH := hR.2.2.2.2 (hoff 7 (by kernel_rfl))
   refine ⟨_, rfl, fun K hK => ?_⟩
   have e5 : a.tmps[5]? = some (.pointer (some ⟨g1_10, 0, none⟩)) := (off_ ha rfl).trans rfl
   have hc0 : w'.cell? ⟨g1_10, 0, none⟩ = some (x1_12) := (blk_cell Bx5 0).trans rfl
   have hc1 : w'.cell? ⟨g1_10, 1, none⟩ = some (y1_12) := (blk_cell Bx5 1).trans rfl
   have HR := Aside0.mk hR
   clear hR ha hF
   refine value_ (w1 := w') (v := .agg #[x1_12, y1_12]) (by rfl) rfl ?_ ?_
   ·go_simp
    (try simp only [i64_w])
    try rfl
   exact hK.out _ _ (step_ 1 HR.out rfl rfl hb_ (Below.refl _ _) hG rfl (fun h => by cases h) (fun _ => HH) rfl)
  refine steps_cons ?_ ?_
  ·rintro b a w' ⟨ms, hR⟩ hb_ hon hoff
   obtain ⟨ha, hF, hD, hG, _⟩ := id hR
   have hG1 := hG
   rw [hGd] at hG1
   obtain ⟨HBl, HSz, Bx5, Bx6, Ni0, Ni1, Rs⟩ := hG1
   have HH := hR.2.2.2.2 (hoff 7 (by kernel_rfl))
   refine ⟨_, rfl, fun K hK => ?_⟩
   have e17 : a.tmps[17]? = some (.agg #[x1_12, y1_12]) := (on_ 0 ha rfl (hon 0 (by kernel_rfl)) rfl).trans (congrArg some (hF 0 (hon 0 (by kernel_rfl))))
   have e18 : a.tmps[18]? = some (.agg #[x1_12, y1_12]) := (on_ 1 ha rfl (hon 1 (by kernel_rfl)) rfl).trans (congrArg some (hF 1 (hon 1 (by kernel_rfl))))
   refine goes_ Try.func32 (by kernel_rfl) rfl #[.agg #[x1_12, y1_12], .agg #[x1_12, y1_12]] (by rfl) rfl rfl (by first | (simp only [List.map_toArray, List.map_cons, List.map_nil, Act.eval, Array.getD_eq_getD_getElem?, Option.getD_some, e17, e18]; done) | (simp only [List.map_toArray, List.map_cons, List.map_nil, Act.eval, Array.getD_eq_getD_getElem?, Option.getD_some, e17, e18]; rfl)) ?_
   with_reducible refine (mul_c _ _ (b0 - a0) (b0 - a0) s1 s1 _ (Ni0) (Ni0)).mono ?_
   rintro e w1 ⟨r, rfl, hN, hb⟩
   exact ⟨_, rfl, hK.out _ _ (step_ 2 hR rfl rfl hb_ hb (GM _ _ hG hb) hN (fun h => by cases h) (fun _ => HM _ _ HH hb) rfl)⟩
  refine steps_cons ?_ ?_
  ·rintro b a w' ⟨ms, hR⟩ hb_ hon hoff
   obtain ⟨ha, hF, hD, hG, _⟩ := id hR
   have hG1 := hG
   rw [hGd] at hG1
   obtain ⟨HBl, HSz, Bx5, Bx6, Ni0, Ni1, Rs⟩ := hG1
   have HH := hR.2.2.2.2 (hoff 7 (by kernel_rfl))
   refine ⟨_, rfl, fun K hK => ?_⟩
   have e6 : a.tmps[6]? = some (.pointer (some ⟨g1_11, 0, none⟩)) := (off_ ha rfl).trans rfl
   have hc0 : w'.cell? ⟨g1_11, 0, none⟩ = some (x1_13) := (blk_cell Bx6 0).trans rfl
   have hc1 : w'.cell? ⟨g1_11, 1, none⟩ = some (y1_13) := (blk_cell Bx6 1).trans rfl
   have HR := Aside0.mk hR
   clear hR ha hF
   refine value_ (w1 := w') (v := .agg #[x1_13, y1_13]) (by rfl) rfl ?_ ?_
   ·go_simp
    (try simp only [i64_w])
    try rfl
   exact hK.out _ _ (step_ 3 HR.out rfl rfl hb_ (Below.refl _ _) hG rfl (fun h => by cases h) (fun _ => HH) rfl)
  refine steps_cons ?_ ?_
  ·rintro b a w' ⟨ms, hR⟩ hb_ hon hoff
   obtain ⟨ha, hF, hD, hG, _⟩ := id hR
   have hG1 := hG
   rw [hGd] at hG1
   obtain ⟨HBl, HSz, Bx5, Bx6, Ni0, Ni1, Rs⟩ := hG1
   have HH := hR.2.2.2.2 (hoff 7 (by kernel_rfl))
   refine ⟨_, rfl, fun K hK => ?_⟩
   have e6 : a.tmps[6]? = some (.pointer (some ⟨g1_11, 0, none⟩)) := (off_ ha rfl).trans rfl
   have hc0 : w'.cell? ⟨g1_11, 0, none⟩ = some (x1_13) := (blk_cell Bx6 0).trans rfl
   have hc1 : w'.cell? ⟨g1_11, 1, none⟩ = some (y1_13) := (blk_cell Bx6 1).trans rfl
   have HR := Aside0.mk hR
   clear hR ha hF
   refine value_ (w1 := w') (v := .agg #[x1_13, y1_13]) (by rfl) rfl ?_ ?_
   ·go_simp
    (try simp only [i64_w])
    try rfl
   exact hK.out _ _ (step_ 4 HR.out rfl rfl hb_ (Below.refl _ _) hG rfl (fun h => by cases h) (fun _ => HH) rfl)
  refine steps_cons ?_ ?_
  ·rintro b a w' ⟨ms, hR⟩ hb_ hon hoff
   obtain ⟨ha, hF, hD, hG, _⟩ := id hR
   have hG1 := hG
   rw [hGd] at hG1
   obtain ⟨HBl, HSz, Bx5, Bx6, Ni0, Ni1, Rs⟩ := hG1
   have HH := hR.2.2.2.2 (hoff 7 (by kernel_rfl))
   refine ⟨_, rfl, fun K hK => ?_⟩
   have e20 : a.tmps[20]? = some (.agg #[x1_13, y1_13]) := (on_ 3 ha rfl (hon 3 (by kernel_rfl)) rfl).trans (congrArg some (hF 3 (hon 3 (by kernel_rfl))))
   have e21 : a.tmps[21]? = some (.agg #[x1_13, y1_13]) := (on_ 4 ha rfl (hon 4 (by kernel_rfl)) rfl).trans (congrArg some (hF 4 (hon 4 (by kernel_rfl))))
   refine goes_ Try.func32 (by kernel_rfl) rfl #[.agg #[x1_13, y1_13], .agg #[x1_13, y1_13]] (by rfl) rfl rfl (by first | (simp only [List.map_toArray, List.map_cons, List.map_nil, Act.eval, Array.getD_eq_getD_getElem?, Option.getD_some, e20, e21]; done) | (simp only [List.map_toArray, List.map_cons, List.map_nil, Act.eval, Array.getD_eq_getD_getElem?, Option.getD_some, e20, e21]; rfl)) ?_
   with_reducible refine (mul_c _ _ (b1 - a1) (b1 - a1) s2 s2 _ (Ni1) (Ni1)).mono ?_
   rintro e w1 ⟨r, rfl, hN, hb⟩
   exact ⟨_, rfl, hK.out _ _ (step_ 5 hR rfl rfl hb_ hb (GM _ _ hG hb) hN (fun h => by cases h) (fun _ => HM _ _ HH hb) rfl)⟩
  refine steps_cons ?_ ?_
  ·rintro b a w' ⟨ms, hR⟩ hb_ hon hoff
   obtain ⟨ha, hF, hD, hG, _⟩ := id hR
   have hG1 := hG
   rw [hGd] at hG1
   obtain ⟨HBl, HSz, Bx5, Bx6, Ni0, Ni1, Rs⟩ := hG1
   have HH := hR.2.2.2.2 (hoff 7 (by kernel_rfl))
   refine ⟨_, rfl, fun K hK => ?_⟩
   have e19 : a.tmps[19]? = some (ms 2) := on_ 2 ha rfl (hon 2 (by kernel_rfl)) rfl
   have q2 : NI w' (ms 2) ((b0 - a0) * (b0 - a0)) := hF 2 (hon 2 (by kernel_rfl))
   have e22 : a.tmps[22]? = some (ms 5) := on_ 5 ha rfl (hon 5 (by kernel_rfl)) rfl
   have q5 : NI w' (ms 5) ((b1 - a1) * (b1 - a1)) := hF 5 (hon 5 (by kernel_rfl))
   refine goes_ Try.func35 (by kernel_rfl) rfl #[ms 2, ms 5] (by rfl) rfl rfl (by first | (simp only [List.map_toArray, List.map_cons, List.map_nil, Act.eval, Array.getD_eq_getD_getElem?, Option.getD_some, e19, e22]; done) | (simp only [List.map_toArray, List.map_cons, List.map_nil, Act.eval, Array.getD_eq_getD_getElem?, Option.getD_some, e19, e22]; rfl)) ?_
   with_reducible refine (add_c _ _ ((b0 - a0) * (b0 - a0)) ((b1 - a1) * (b1 - a1)) s3 s4 _ (q2) (q5)).mono ?_
   rintro e w1 ⟨r, rfl, hN, hb⟩
   exact ⟨_, rfl, hK.out _ _ (step_ 6 hR rfl rfl hb_ hb (GM _ _ hG hb) hN (fun h => by cases h) (fun _ => HM _ _ HH hb) rfl)⟩
  refine steps_cons ?_ ?_
  ·rintro b a w' ⟨ms, hR⟩ hb_ hon hoff
   obtain ⟨ha, hF, hD, hG, _⟩ := id hR
   have hG1 := hG
   rw [hGd] at hG1
   obtain ⟨HBl, HSz, Bx5, Bx6, Ni0, Ni1, Rs⟩ := hG1
   have HH := True.intro
   refine ⟨_, rfl, fun K hK => ?_⟩
   have hn := hF 6 (hon 6 (by kernel_rfl))
   obtain ⟨sz, Az, lz, cz, ev⟩ := NI.shape hn
   have e23 : a.tmps[23]? = some (.agg #[.int .i64 sz, .slice Az lz cz]) := (on_ 6 ha rfl (hon 6 (by kernel_rfl)) rfl).trans (congrArg some ev)
   have e4 : a.tmps[4]? = some (.pointer (some ⟨w.heap.size + 1 + 1, 0, none⟩)) := (off_ ha rfl).trans rfl
   obtain ⟨x0, y0, hgh⟩ := Rs
   have h0 : w'.cell? ⟨w.heap.size + 1 + 1, 0, none⟩ = some x0 := (blk_cell hgh 0).trans rfl
   have h1 : w'.cell? ⟨w.heap.size + 1 + 1, 1, none⟩ = some y0 := (blk_cell hgh 1).trans rfl
   have f0 := blk_frozen hgh 0
   have f1 := blk_frozen hgh 1
   have HR := Aside0.mk hR
   clear hR ha
   refine skip_ (w1 := ?_) (by rfl) rfl ?_ ?_
   rotate_left
   ·go_simp
    rfl
   exact hK.out _ _ (fin_ HR.out rfl (hall_ (by kernel_rfl) hon) rfl hb_ rfl hgh (by show w.heap.size + 1 + 1 < w.heap.size + 1 + 1 + 1; omega) ⟨_, _, blk_put (blk_put hgh 0 _ rfl) 1 _ rfl, by rw [← ev]; exact NI.store (NI.store hn hgh (by decide) 0 _) (blk_put hgh 0 _ rfl) (by decide) 1 _⟩ (GR _ _ _ _ _ hG hgh) rfl)
  exact steps_nil
 rintro b a V2 hall ⟨ms, ha, hF, hD, hG, _⟩
 rw [hGd] at hG
 obtain ⟨HBl, HSz, Bx5, Bx6, Ni0, Ni1, Rs⟩ := hG
 have bb2_0 := hall 0 (by kernel_rfl)
 have bb2_1 := hall 1 (by kernel_rfl)
 have bb2_2 := hall 2 (by kernel_rfl)
 have bb2_3 := hall 3 (by kernel_rfl)
 have bb2_4 := hall 4 (by kernel_rfl)
 have bb2_5 := hall 5 (by kernel_rfl)
 have bb2_6 := hall 6 (by kernel_rfl)
 have bb2_7 := hall 7 (by kernel_rfl)
 have m2_0 : ms 0 = .agg #[x1_12, y1_12] := hF 0 bb2_0
 have m2_1 : ms 1 = .agg #[x1_12, y1_12] := hF 1 bb2_1
 have m2_2 : NI V2 (ms 2) ((b0 - a0) * (b0 - a0)) := hF 2 bb2_2
 have m2_3 : ms 3 = .agg #[x1_13, y1_13] := hF 3 bb2_3
 have m2_4 : ms 4 = .agg #[x1_13, y1_13] := hF 4 bb2_4
 have m2_5 : NI V2 (ms 5) ((b1 - a1) * (b1 - a1)) := hF 5 bb2_5
 have m2_6 : NI V2 (ms 6) (((b0 - a0) * (b0 - a0)) + ((b1 - a1) * (b1 - a1))) := hF 6 bb2_6
 obtain ⟨_, x2_7, y2_7, h2_7, m2_7⟩ := hF 7 bb2_7
 subst ha
 simp only [ent, List.map_cons, List.map_nil, putSel, bb2_0, bb2_1, bb2_2, bb2_3, bb2_4, bb2_5, bb2_6, m2_0, m2_1, m2_3, m2_4, if_true, Act.put, List.setIfInBounds_toArray, List.set_cons_zero, List.set_cons_succ]
 clear hF hD bb2_0 bb2_1 bb2_2 bb2_3 bb2_4 bb2_5 bb2_6 bb2_7
 go_wp2
 refine bodyPost_ret (results_cell_row rfl _ _ (w.heap.size + 1 + 1) 42 #[x2_7, y2_7] (0, 0) _ rfl h2_7 Try.underlying42 rfl (by kernel_rfl)) rfl ?_
 exact ⟨_, rfl, m2_7, HBl⟩
end Go.Proofs.Ytlkngfidohiepaa.Rf
end
section
namespace Go.Proofs.Ytlkngfidohiepaa.F
open Go.RowKit Go.Proofs.YtlkngfidohiepaaW.PrintWords Go.Proofs.YtlkngfidohiepaaW.PrintLast Go.Proofs.YtlkngfidohiepaaW.PrintMore
attribute [local go_sem] max2_int min2_int max_two min_two max_three min_three max_four min_four
set_option linter.unusedVariables false
set_option linter.unusedSimpArgs false
def zelligeref07_near.f (a0_0 : Int) (a0_1 : Int) (a1_0 : Int) (a1_1 : Int) : Option (Bool) := if (wrap64 (a1_0 - a0_0)) > (-8192) then (if (wrap64 (a1_0 - a0_0)) < 8192 then (if (wrap64 (a1_1 - a0_1)) > (-8192) then (some (decide ((wrap64 (a1_1 - a0_1)) < 8192))) else (some false)) else (some false)) else (some false)
set_option maxHeartbeats 8000000 in
set_option maxRecDepth 100000 in
theorem zelligeref07_near.calls (a0_0 : Int) (a0_1 : Int) (a1_0 : Int) (a1_1 : Int) (r : Bool) (w : World) (h : zelligeref07_near.f a0_0 a0_1 a1_0 a1_1 = some r) :
  Calls Try.prog 21 #[.agg #[.int .i64 a0_0, .int .i64 a0_1], .agg #[.int .i64 a1_0, .int .i64 a1_1]] w fun e w' => e = .returned (.bool r) ∧ Below w.heap.size w w' := by
 have hu23 := Try.underlying23
 have HB := Aside0.mk (Below.refl w.heap.size w)
 have H : (if (wrap64 (a1_0 - a0_0)) > (-8192) then (if (wrap64 (a1_0 - a0_0)) < 8192 then (if (wrap64 (a1_1 - a0_1)) > (-8192) then (some (decide ((wrap64 (a1_1 - a0_1)) < 8192))) else (some false)) else (some false)) else (some false)) = some r := h
 clear h
 by_cases c3 : (wrap64 (a1_0 - a0_0)) > (-8192)
 ·rw [if_pos c3] at H
  have c3b0 : decide ((-8192) < (wrap64 (a1_0 - a0_0))) = true := decide_eq_true c3
  clear c3
  by_cases c4 : (wrap64 (a1_0 - a0_0)) < 8192
  ·rw [if_pos c4] at H
   have c4b0 : decide ((wrap64 (a1_0 - a0_0)) < 8192) = true := decide_eq_true c4
   clear c4
   by_cases c5 : (wrap64 (a1_1 - a0_1)) > (-8192)
   ·rw [if_pos c5] at H
    have c5b0 : decide ((-8192) < (wrap64 (a1_1 - a0_1))) = true := decide_eq_true c5
    clear c5
    obtain rfl := Option.some.inj H
    go_enter Try.func21, Try.ntmps21
    go_wp2_with (first | ((with_reducible refine gate_dst (N := 2) rfl ?_); refine box_event ?hg (N := 2) ?hd (cs := #[.int .i64 a0_0, .int .i64 a0_1]) (t := 23) ?hr ?_; (case hd => rfl); (case hg => rfl); (case hr => first | (go_simp; done) | (go_simp; rfl)); intro gb403 hg w6 hbox hb; have BK403 := Aside0.mk hbox; have GW403 := u3 hg HB; have GE403 := u3 hg HB; replace HB := u2 HB hb; clear hb hbox hg) | ((with_reducible refine gate_dst (N := 3) rfl ?_); refine box_event ?hg (N := 3) ?hd (cs := #[.int .i64 a1_0, .int .i64 a1_1]) (t := 23) ?hr ?_; (case hd => rfl); (case hg => rfl); (case hr => first | (go_simp; done) | (go_simp; rfl)); intro gb404 hg w7 hbox hb; have BK404 := Aside0.mk hbox; have GW404 := u3 hg HB; have GE404 := u3 hg HB; have NB403_404 := u4 hg BK403; have NB404_403 := u5 hg BK403; replace BK403 := u1 BK403 hb; replace HB := u2 HB hb; clear hb hbox hg; have hnb8 := NB404_403.out; have hnc8 := NB403_404.out; obtain ⟨hcz9_0, hcz9_1, hfz9_0, hfz9_1⟩ := p2 BK404; obtain ⟨hcz10_0, hcz10_1, hfz10_0, hfz10_1⟩ := p2 BK403))
    repeat (go_quiet (first | ((with_reducible refine gate_dst (N := 2) rfl ?_); refine box_event ?hg (N := 2) ?hd (cs := #[.int .i64 a0_0, .int .i64 a0_1]) (t := 23) ?hr ?_; (case hd => rfl); (case hg => rfl); (case hr => first | (go_simp; done) | (go_simp; rfl)); intro gb403 hg w6 hbox hb; have BK403 := Aside0.mk hbox; have GW403 := u3 hg HB; have GE403 := u3 hg HB; replace HB := u2 HB hb; clear hb hbox hg) | ((with_reducible refine gate_dst (N := 3) rfl ?_); refine box_event ?hg (N := 3) ?hd (cs := #[.int .i64 a1_0, .int .i64 a1_1]) (t := 23) ?hr ?_; (case hd => rfl); (case hg => rfl); (case hr => first | (go_simp; done) | (go_simp; rfl)); intro gb404 hg w7 hbox hb; have BK404 := Aside0.mk hbox; have GW404 := u3 hg HB; have GE404 := u3 hg HB; have NB403_404 := u4 hg BK403; have NB404_403 := u5 hg BK403; replace BK403 := u1 BK403 hb; replace HB := u2 HB hb; clear hb hbox hg; have hnb8 := NB404_403.out; have hnc8 := NB403_404.out; obtain ⟨hcz9_0, hcz9_1, hfz9_0, hfz9_1⟩ := p2 BK404; obtain ⟨hcz10_0, hcz10_1, hfz10_0, hfz10_1⟩ := p2 BK403)); try go_wp2_with (first | ((with_reducible refine gate_dst (N := 2) rfl ?_); refine box_event ?hg (N := 2) ?hd (cs := #[.int .i64 a0_0, .int .i64 a0_1]) (t := 23) ?hr ?_; (case hd => rfl); (case hg => rfl); (case hr => first | (go_simp; done) | (go_simp; rfl)); intro gb403 hg w6 hbox hb; have BK403 := Aside0.mk hbox; have GW403 := u3 hg HB; have GE403 := u3 hg HB; replace HB := u2 HB hb; clear hb hbox hg) | ((with_reducible refine gate_dst (N := 3) rfl ?_); refine box_event ?hg (N := 3) ?hd (cs := #[.int .i64 a1_0, .int .i64 a1_1]) (t := 23) ?hr ?_; (case hd => rfl); (case hg => rfl); (case hr => first | (go_simp; done) | (go_simp; rfl)); intro gb404 hg w7 hbox hb; have BK404 := Aside0.mk hbox; have GW404 := u3 hg HB; have GE404 := u3 hg HB; have NB403_404 := u4 hg BK403; have NB404_403 := u5 hg BK403; replace BK403 := u1 BK403 hb; replace HB := u2 HB hb; clear hb hbox hg; have hnb8 := NB404_403.out; have hnc8 := NB403_404.out; obtain ⟨hcz9_0, hcz9_1, hfz9_0, hfz9_1⟩ := p2 BK404; obtain ⟨hcz10_0, hcz10_1, hfz10_0, hfz10_1⟩ := p2 BK403)))
    go_ret
    exact ⟨by first | rfl | (simp [*, errW_none, errW_some] <;> rfl), bw HB.out⟩
   ·rw [if_neg c5] at H
    have c5b0 : decide ((-8192) < (wrap64 (a1_1 - a0_1))) = false := decide_eq_false c5
    clear c5
    obtain rfl := Option.some.inj H
    go_enter Try.func21, Try.ntmps21
    go_wp2_with (first | ((with_reducible refine gate_dst (N := 2) rfl ?_); refine box_event ?hg (N := 2) ?hd (cs := #[.int .i64 a0_0, .int .i64 a0_1]) (t := 23) ?hr ?_; (case hd => rfl); (case hg => rfl); (case hr => first | (go_simp; done) | (go_simp; rfl)); intro gb403 hg w11 hbox hb; have BK403 := Aside0.mk hbox; have GW403 := u3 hg HB; have GE403 := u3 hg HB; replace HB := u2 HB hb; clear hb hbox hg) | ((with_reducible refine gate_dst (N := 3) rfl ?_); refine box_event ?hg (N := 3) ?hd (cs := #[.int .i64 a1_0, .int .i64 a1_1]) (t := 23) ?hr ?_; (case hd => rfl); (case hg => rfl); (case hr => first | (go_simp; done) | (go_simp; rfl)); intro gb404 hg w12 hbox hb; have BK404 := Aside0.mk hbox; have GW404 := u3 hg HB; have GE404 := u3 hg HB; have NB403_404 := u4 hg BK403; have NB404_403 := u5 hg BK403; replace BK403 := u1 BK403 hb; replace HB := u2 HB hb; clear hb hbox hg; have hnb13 := NB404_403.out; have hnc13 := NB403_404.out; obtain ⟨hcz14_0, hcz14_1, hfz14_0, hfz14_1⟩ := p2 BK404; obtain ⟨hcz15_0, hcz15_1, hfz15_0, hfz15_1⟩ := p2 BK403))
    repeat (go_quiet (first | ((with_reducible refine gate_dst (N := 2) rfl ?_); refine box_event ?hg (N := 2) ?hd (cs := #[.int .i64 a0_0, .int .i64 a0_1]) (t := 23) ?hr ?_; (case hd => rfl); (case hg => rfl); (case hr => first | (go_simp; done) | (go_simp; rfl)); intro gb403 hg w11 hbox hb; have BK403 := Aside0.mk hbox; have GW403 := u3 hg HB; have GE403 := u3 hg HB; replace HB := u2 HB hb; clear hb hbox hg) | ((with_reducible refine gate_dst (N := 3) rfl ?_); refine box_event ?hg (N := 3) ?hd (cs := #[.int .i64 a1_0, .int .i64 a1_1]) (t := 23) ?hr ?_; (case hd => rfl); (case hg => rfl); (case hr => first | (go_simp; done) | (go_simp; rfl)); intro gb404 hg w12 hbox hb; have BK404 := Aside0.mk hbox; have GW404 := u3 hg HB; have GE404 := u3 hg HB; have NB403_404 := u4 hg BK403; have NB404_403 := u5 hg BK403; replace BK403 := u1 BK403 hb; replace HB := u2 HB hb; clear hb hbox hg; have hnb13 := NB404_403.out; have hnc13 := NB403_404.out; obtain ⟨hcz14_0, hcz14_1, hfz14_0, hfz14_1⟩ := p2 BK404; obtain ⟨hcz15_0, hcz15_1, hfz15_0, hfz15_1⟩ := p2 BK403)); try go_wp2_with (first | ((with_reducible refine gate_dst (N := 2) rfl ?_); refine box_event ?hg (N := 2) ?hd (cs := #[.int .i64 a0_0, .int .i64 a0_1]) (t := 23) ?hr ?_; (case hd => rfl); (case hg => rfl); (case hr => first | (go_simp; done) | (go_simp; rfl)); intro gb403 hg w11 hbox hb; have BK403 := Aside0.mk hbox; have GW403 := u3 hg HB; have GE403 := u3 hg HB; replace HB := u2 HB hb; clear hb hbox hg) | ((with_reducible refine gate_dst (N := 3) rfl ?_); refine box_event ?hg (N := 3) ?hd (cs := #[.int .i64 a1_0, .int .i64 a1_1]) (t := 23) ?hr ?_; (case hd => rfl); (case hg => rfl); (case hr => first | (go_simp; done) | (go_simp; rfl)); intro gb404 hg w12 hbox hb; have BK404 := Aside0.mk hbox; have GW404 := u3 hg HB; have GE404 := u3 hg HB; have NB403_404 := u4 hg BK403; have NB404_403 := u5 hg BK403; replace BK403 := u1 BK403 hb; replace HB := u2 HB hb; clear hb hbox hg; have hnb13 := NB404_403.out; have hnc13 := NB403_404.out; obtain ⟨hcz14_0, hcz14_1, hfz14_0, hfz14_1⟩ := p2 BK404; obtain ⟨hcz15_0, hcz15_1, hfz15_0, hfz15_1⟩ := p2 BK403)))
    go_ret
    exact ⟨by first | rfl | (simp [*, errW_none, errW_some] <;> rfl), bw HB.out⟩
  ·rw [if_neg c4] at H
   have c4b0 : decide ((wrap64 (a1_0 - a0_0)) < 8192) = false := decide_eq_false c4
   clear c4
   obtain rfl := Option.some.inj H
   go_enter Try.func21, Try.ntmps21
   go_wp2_with (first | ((with_reducible refine gate_dst (N := 2) rfl ?_); refine box_event ?hg (N := 2) ?hd (cs := #[.int .i64 a0_0, .int .i64 a0_1]) (t := 23) ?hr ?_; (case hd => rfl); (case hg => rfl); (case hr => first | (go_simp; done) | (go_simp; rfl)); intro gb403 hg w16 hbox hb; have BK403 := Aside0.mk hbox; have GW403 := u3 hg HB; have GE403 := u3 hg HB; replace HB := u2 HB hb; clear hb hbox hg) | ((with_reducible refine gate_dst (N := 3) rfl ?_); refine box_event ?hg (N := 3) ?hd (cs := #[.int .i64 a1_0, .int .i64 a1_1]) (t := 23) ?hr ?_; (case hd => rfl); (case hg => rfl); (case hr => first | (go_simp; done) | (go_simp; rfl)); intro gb404 hg w17 hbox hb; have BK404 := Aside0.mk hbox; have GW404 := u3 hg HB; have GE404 := u3 hg HB; have NB403_404 := u4 hg BK403; have NB404_403 := u5 hg BK403; replace BK403 := u1 BK403 hb; replace HB := u2 HB hb; clear hb hbox hg; have hnb18 := NB404_403.out; have hnc18 := NB403_404.out; obtain ⟨hcz19_0, hcz19_1, hfz19_0, hfz19_1⟩ := p2 BK404; obtain ⟨hcz20_0, hcz20_1, hfz20_0, hfz20_1⟩ := p2 BK403))
   repeat (go_quiet (first | ((with_reducible refine gate_dst (N := 2) rfl ?_); refine box_event ?hg (N := 2) ?hd (cs := #[.int .i64 a0_0, .int .i64 a0_1]) (t := 23) ?hr ?_; (case hd => rfl); (case hg => rfl); (case hr => first | (go_simp; done) | (go_simp; rfl)); intro gb403 hg w16 hbox hb; have BK403 := Aside0.mk hbox; have GW403 := u3 hg HB; have GE403 := u3 hg HB; replace HB := u2 HB hb; clear hb hbox hg) | ((with_reducible refine gate_dst (N := 3) rfl ?_); refine box_event ?hg (N := 3) ?hd (cs := #[.int .i64 a1_0, .int .i64 a1_1]) (t := 23) ?hr ?_; (case hd => rfl); (case hg => rfl); (case hr => first | (go_simp; done) | (go_simp; rfl)); intro gb404 hg w17 hbox hb; have BK404 := Aside0.mk hbox; have GW404 := u3 hg HB; have GE404 := u3 hg HB; have NB403_404 := u4 hg BK403; have NB404_403 := u5 hg BK403; replace BK403 := u1 BK403 hb; replace HB := u2 HB hb; clear hb hbox hg; have hnb18 := NB404_403.out; have hnc18 := NB403_404.out; obtain ⟨hcz19_0, hcz19_1, hfz19_0, hfz19_1⟩ := p2 BK404; obtain ⟨hcz20_0, hcz20_1, hfz20_0, hfz20_1⟩ := p2 BK403)); try go_wp2_with (first | ((with_reducible refine gate_dst (N := 2) rfl ?_); refine box_event ?hg (N := 2) ?hd (cs := #[.int .i64 a0_0, .int .i64 a0_1]) (t := 23) ?hr ?_; (case hd => rfl); (case hg => rfl); (case hr => first | (go_simp; done) | (go_simp; rfl)); intro gb403 hg w16 hbox hb; have BK403 := Aside0.mk hbox; have GW403 := u3 hg HB; have GE403 := u3 hg HB; replace HB := u2 HB hb; clear hb hbox hg) | ((with_reducible refine gate_dst (N := 3) rfl ?_); refine box_event ?hg (N := 3) ?hd (cs := #[.int .i64 a1_0, .int .i64 a1_1]) (t := 23) ?hr ?_; (case hd => rfl); (case hg => rfl); (case hr => first | (go_simp; done) | (go_simp; rfl)); intro gb404 hg w17 hbox hb; have BK404 := Aside0.mk hbox; have GW404 := u3 hg HB; have GE404 := u3 hg HB; have NB403_404 := u4 hg BK403; have NB404_403 := u5 hg BK403; replace BK403 := u1 BK403 hb; replace HB := u2 HB hb; clear hb hbox hg; have hnb18 := NB404_403.out; have hnc18 := NB403_404.out; obtain ⟨hcz19_0, hcz19_1, hfz19_0, hfz19_1⟩ := p2 BK404; obtain ⟨hcz20_0, hcz20_1, hfz20_0, hfz20_1⟩ := p2 BK403)))
   go_ret
   exact ⟨by first | rfl | (simp [*, errW_none, errW_some] <;> rfl), bw HB.out⟩
 ·rw [if_neg c3] at H
  have c3b0 : decide ((-8192) < (wrap64 (a1_0 - a0_0))) = false := decide_eq_false c3
  clear c3
  obtain rfl := Option.some.inj H
  go_enter Try.func21, Try.ntmps21
  go_wp2_with (first | ((with_reducible refine gate_dst (N := 2) rfl ?_); refine box_event ?hg (N := 2) ?hd (cs := #[.int .i64 a0_0, .int .i64 a0_1]) (t := 23) ?hr ?_; (case hd => rfl); (case hg => rfl); (case hr => first | (go_simp; done) | (go_simp; rfl)); intro gb403 hg w21 hbox hb; have BK403 := Aside0.mk hbox; have GW403 := u3 hg HB; have GE403 := u3 hg HB; replace HB := u2 HB hb; clear hb hbox hg) | ((with_reducible refine gate_dst (N := 3) rfl ?_); refine box_event ?hg (N := 3) ?hd (cs := #[.int .i64 a1_0, .int .i64 a1_1]) (t := 23) ?hr ?_; (case hd => rfl); (case hg => rfl); (case hr => first | (go_simp; done) | (go_simp; rfl)); intro gb404 hg w22 hbox hb; have BK404 := Aside0.mk hbox; have GW404 := u3 hg HB; have GE404 := u3 hg HB; have NB403_404 := u4 hg BK403; have NB404_403 := u5 hg BK403; replace BK403 := u1 BK403 hb; replace HB := u2 HB hb; clear hb hbox hg; have hnb23 := NB404_403.out; have hnc23 := NB403_404.out; obtain ⟨hcz24_0, hcz24_1, hfz24_0, hfz24_1⟩ := p2 BK404; obtain ⟨hcz25_0, hcz25_1, hfz25_0, hfz25_1⟩ := p2 BK403))
  repeat (go_quiet (first | ((with_reducible refine gate_dst (N := 2) rfl ?_); refine box_event ?hg (N := 2) ?hd (cs := #[.int .i64 a0_0, .int .i64 a0_1]) (t := 23) ?hr ?_; (case hd => rfl); (case hg => rfl); (case hr => first | (go_simp; done) | (go_simp; rfl)); intro gb403 hg w21 hbox hb; have BK403 := Aside0.mk hbox; have GW403 := u3 hg HB; have GE403 := u3 hg HB; replace HB := u2 HB hb; clear hb hbox hg) | ((with_reducible refine gate_dst (N := 3) rfl ?_); refine box_event ?hg (N := 3) ?hd (cs := #[.int .i64 a1_0, .int .i64 a1_1]) (t := 23) ?hr ?_; (case hd => rfl); (case hg => rfl); (case hr => first | (go_simp; done) | (go_simp; rfl)); intro gb404 hg w22 hbox hb; have BK404 := Aside0.mk hbox; have GW404 := u3 hg HB; have GE404 := u3 hg HB; have NB403_404 := u4 hg BK403; have NB404_403 := u5 hg BK403; replace BK403 := u1 BK403 hb; replace HB := u2 HB hb; clear hb hbox hg; have hnb23 := NB404_403.out; have hnc23 := NB403_404.out; obtain ⟨hcz24_0, hcz24_1, hfz24_0, hfz24_1⟩ := p2 BK404; obtain ⟨hcz25_0, hcz25_1, hfz25_0, hfz25_1⟩ := p2 BK403)); try go_wp2_with (first | ((with_reducible refine gate_dst (N := 2) rfl ?_); refine box_event ?hg (N := 2) ?hd (cs := #[.int .i64 a0_0, .int .i64 a0_1]) (t := 23) ?hr ?_; (case hd => rfl); (case hg => rfl); (case hr => first | (go_simp; done) | (go_simp; rfl)); intro gb403 hg w21 hbox hb; have BK403 := Aside0.mk hbox; have GW403 := u3 hg HB; have GE403 := u3 hg HB; replace HB := u2 HB hb; clear hb hbox hg) | ((with_reducible refine gate_dst (N := 3) rfl ?_); refine box_event ?hg (N := 3) ?hd (cs := #[.int .i64 a1_0, .int .i64 a1_1]) (t := 23) ?hr ?_; (case hd => rfl); (case hg => rfl); (case hr => first | (go_simp; done) | (go_simp; rfl)); intro gb404 hg w22 hbox hb; have BK404 := Aside0.mk hbox; have GW404 := u3 hg HB; have GE404 := u3 hg HB; have NB403_404 := u4 hg BK403; have NB404_403 := u5 hg BK403; replace BK403 := u1 BK403 hb; replace HB := u2 HB hb; clear hb hbox hg; have hnb23 := NB404_403.out; have hnc23 := NB403_404.out; obtain ⟨hcz24_0, hcz24_1, hfz24_0, hfz24_1⟩ := p2 BK404; obtain ⟨hcz25_0, hcz25_1, hfz25_0, hfz25_1⟩ := p2 BK403)))
  go_ret
  exact ⟨by first | rfl | (simp [*, errW_none, errW_some] <;> rfl), bw HB.out⟩
end Go.Proofs.Ytlkngfidohiepaa.F
end
section
namespace Go.Proofs.Ytlkngfidohiepaa.F
open Go.RowKit Go.Proofs.YtlkngfidohiepaaW.PrintWords Go.Proofs.YtlkngfidohiepaaW.PrintLast Go.Proofs.YtlkngfidohiepaaW.PrintMore
attribute [local go_sem] max2_int min2_int max_two min_two max_three min_three max_four min_four
set_option linter.unusedVariables false
set_option linter.unusedSimpArgs false
def zelligeref07_sign.f (a0 : Int) : Option (Int) := if a0 < 0 then (some (-1)) else (if a0 > 0 then (some 1) else (some 0))
set_option maxHeartbeats 8000000 in
set_option maxRecDepth 100000 in
theorem zelligeref07_sign.calls (a0 : Int) (r : Int) (w : World) (h : zelligeref07_sign.f a0 = some r) :
  Calls Try.prog 22 #[.int .i64 a0] w fun e w' => e = .returned (.int .i64 r) ∧ Drawn0 w w' := by
 have H : (if a0 < 0 then (some (-1)) else (if a0 > 0 then (some 1) else (some 0))) = some r := h
 clear h
 by_cases c2 : a0 < 0
 ·rw [if_pos c2] at H
  have c2b0 : decide (a0 < 0) = true := decide_eq_true c2
  clear c2
  obtain rfl := Option.some.inj H
  go_enter Try.func22, Try.ntmps22
  go_wp2
  go_ret
  exact ⟨by first | rfl | (simp; done) | (simp [*]; done), by repeat (first | exact Drawn0.refl _ | apply Drawn0.step)⟩
 ·rw [if_neg c2] at H
  have c2b0 : decide (a0 < 0) = false := decide_eq_false c2
  clear c2
  by_cases c3 : a0 > 0
  ·rw [if_pos c3] at H
   have c3b0 : decide (0 < a0) = true := decide_eq_true c3
   clear c3
   obtain rfl := Option.some.inj H
   go_enter Try.func22, Try.ntmps22
   go_wp2
   go_ret
   exact ⟨by first | rfl | (simp; done) | (simp [*]; done), by repeat (first | exact Drawn0.refl _ | apply Drawn0.step)⟩
  ·rw [if_neg c3] at H
   have c3b0 : decide (0 < a0) = false := decide_eq_false c3
   clear c3
   obtain rfl := Option.some.inj H
   go_enter Try.func22, Try.ntmps22
   go_wp2
   go_ret
   exact ⟨by first | rfl | (simp; done) | (simp [*]; done), by repeat (first | exact Drawn0.refl _ | apply Drawn0.step)⟩
end Go.Proofs.Ytlkngfidohiepaa.F
end
section
namespace Go.Proofs.Ytlkngfidohiepaa.F
open Go.RowKit Go.Proofs.YtlkngfidohiepaaW.PrintWords Go.Proofs.YtlkngfidohiepaaW.PrintLast Go.Proofs.YtlkngfidohiepaaW.PrintMore
attribute [local go_sem] max2_int min2_int max_two min_two max_three min_three max_four min_four
set_option linter.unusedVariables false
set_option linter.unusedSimpArgs false
def zelligeref07_flat.f (a0_0 : Int) (a0_1 : Int) (a1_0 : Int) (a1_1 : Int) (a2_0 : Int) (a2_1 : Int) (a3_0 : Int) (a3_1 : Int) : Option (Int) := (zelligeref07_sign.f (wrap64 ((wrap64 ((wrap64 ((wrap64 ((wrap64 ((wrap64 (a0_0 - a3_0)) * (wrap64 (a0_0 - a3_0)))) + (wrap64 ((wrap64 (a0_1 - a3_1)) * (wrap64 (a0_1 - a3_1)))))) * (wrap64 ((wrap64 ((wrap64 (a1_0 - a3_0)) * (wrap64 (a2_1 - a3_1)))) - (wrap64 ((wrap64 (a1_1 - a3_1)) * (wrap64 (a2_0 - a3_0)))))))) - (wrap64 ((wrap64 ((wrap64 ((wrap64 (a1_0 - a3_0)) * (wrap64 (a1_0 - a3_0)))) + (wrap64 ((wrap64 (a1_1 - a3_1)) * (wrap64 (a1_1 - a3_1)))))) * (wrap64 ((wrap64 ((wrap64 (a0_0 - a3_0)) * (wrap64 (a2_1 - a3_1)))) - (wrap64 ((wrap64 (a0_1 - a3_1)) * (wrap64 (a2_0 - a3_0)))))))))) + (wrap64 ((wrap64 ((wrap64 ((wrap64 (a2_0 - a3_0)) * (wrap64 (a2_0 - a3_0)))) + (wrap64 ((wrap64 (a2_1 - a3_1)) * (wrap64 (a2_1 - a3_1)))))) * (wrap64 ((wrap64 ((wrap64 (a0_0 - a3_0)) * (wrap64 (a1_1 - a3_1)))) - (wrap64 ((wrap64 (a0_1 - a3_1)) * (wrap64 (a1_0 - a3_0))))))))))).bind fun t475 => (some t475)
set_option maxHeartbeats 8000000 in
set_option maxRecDepth 100000 in
theorem zelligeref07_flat.calls (a0_0 : Int) (a0_1 : Int) (a1_0 : Int) (a1_1 : Int) (a2_0 : Int) (a2_1 : Int) (a3_0 : Int) (a3_1 : Int) (r : Int) (w : World) (h : zelligeref07_flat.f a0_0 a0_1 a1_0 a1_1 a2_0 a2_1 a3_0 a3_1 = some r) :
  Calls Try.prog 30 #[.agg #[.int .i64 a0_0, .int .i64 a0_1], .agg #[.int .i64 a1_0, .int .i64 a1_1], .agg #[.int .i64 a2_0, .int .i64 a2_1], .agg #[.int .i64 a3_0, .int .i64 a3_1]] w fun e w' => e = .returned (.int .i64 r) ∧ Below w.heap.size w w' := by
 have hu23 := Try.underlying23
 have HB := Aside0.mk (Below.refl w.heap.size w)
 have H : ((zelligeref07_sign.f (wrap64 ((wrap64 ((wrap64 ((wrap64 ((wrap64 ((wrap64 (a0_0 - a3_0)) * (wrap64 (a0_0 - a3_0)))) + (wrap64 ((wrap64 (a0_1 - a3_1)) * (wrap64 (a0_1 - a3_1)))))) * (wrap64 ((wrap64 ((wrap64 (a1_0 - a3_0)) * (wrap64 (a2_1 - a3_1)))) - (wrap64 ((wrap64 (a1_1 - a3_1)) * (wrap64 (a2_0 - a3_0)))))))) - (wrap64 ((wrap64 ((wrap64 ((wrap64 (a1_0 - a3_0)) * (wrap64 (a1_0 - a3_0)))) + (wrap64 ((wrap64 (a1_1 - a3_1)) * (wrap64 (a1_1 - a3_1)))))) * (wrap64 ((wrap64 ((wrap64 (a0_0 - a3_0)) * (wrap64 (a2_1 - a3_1)))) - (wrap64 ((wrap64 (a0_1 - a3_1)) * (wrap64 (a2_0 - a3_0)))))))))) + (wrap64 ((wrap64 ((wrap64 ((wrap64 (a2_0 - a3_0)) * (wrap64 (a2_0 - a3_0)))) + (wrap64 ((wrap64 (a2_1 - a3_1)) * (wrap64 (a2_1 - a3_1)))))) * (wrap64 ((wrap64 ((wrap64 (a0_0 - a3_0)) * (wrap64 (a1_1 - a3_1)))) - (wrap64 ((wrap64 (a0_1 - a3_1)) * (wrap64 (a1_0 - a3_0))))))))))).bind fun t475 => (some t475)) = some r := h
 clear h
 replace H := Option.bind_eq_some_iff.mp H
 obtain ⟨t475, A50, H⟩ := H
 replace H : (some t475) = some r := H
 have A5 := Aside0.mk A50
 clear A50
 obtain rfl := Option.some.inj H
 go_enter Try.func30, Try.ntmps30
 go_wp2_with (first | ((with_reducible refine gate_dst (N := 4) rfl ?_); refine box_event ?hg (N := 4) ?hd (cs := #[.int .i64 a0_0, .int .i64 a0_1]) (t := 23) ?hr ?_; (case hd => rfl); (case hg => rfl); (case hr => first | (go_simp; done) | (go_simp; rfl)); intro gb471 hg w6 hbox hb; have BK471 := Aside0.mk hbox; have GW471 := u3 hg HB; have GE471 := u3 hg HB; replace HB := u2 HB hb; clear hb hbox hg) | ((with_reducible refine gate_dst (N := 5) rfl ?_); refine box_event ?hg (N := 5) ?hd (cs := #[.int .i64 a1_0, .int .i64 a1_1]) (t := 23) ?hr ?_; (case hd => rfl); (case hg => rfl); (case hr => first | (go_simp; done) | (go_simp; rfl)); intro gb472 hg w7 hbox hb; have BK472 := Aside0.mk hbox; have GW472 := u3 hg HB; have GE472 := u3 hg HB; have NB471_472 := u4 hg BK471; have NB472_471 := u5 hg BK471; replace BK471 := u1 BK471 hb; replace HB := u2 HB hb; clear hb hbox hg) | ((with_reducible refine gate_dst (N := 6) rfl ?_); refine box_event ?hg (N := 6) ?hd (cs := #[.int .i64 a2_0, .int .i64 a2_1]) (t := 23) ?hr ?_; (case hd => rfl); (case hg => rfl); (case hr => first | (go_simp; done) | (go_simp; rfl)); intro gb473 hg w8 hbox hb; have BK473 := Aside0.mk hbox; have GW473 := u3 hg HB; have GE473 := u3 hg HB; have NB471_473 := u4 hg BK471; have NB473_471 := u5 hg BK471; have NB472_473 := u4 hg BK472; have NB473_472 := u5 hg BK472; replace BK471 := u1 BK471 hb; replace BK472 := u1 BK472 hb; replace HB := u2 HB hb; clear hb hbox hg) | ((with_reducible refine gate_dst (N := 7) rfl ?_); refine box_event ?hg (N := 7) ?hd (cs := #[.int .i64 a3_0, .int .i64 a3_1]) (t := 23) ?hr ?_; (case hd => rfl); (case hg => rfl); (case hr => first | (go_simp; done) | (go_simp; rfl)); intro gb474 hg w9 hbox hb; have BK474 := Aside0.mk hbox; have GW474 := u3 hg HB; have GE474 := u3 hg HB; have NB471_474 := u4 hg BK471; have NB474_471 := u5 hg BK471; have NB472_474 := u4 hg BK472; have NB474_472 := u5 hg BK472; have NB473_474 := u4 hg BK473; have NB474_473 := u5 hg BK473; replace BK471 := u1 BK471 hb; replace BK472 := u1 BK472 hb; replace BK473 := u1 BK473 hb; replace HB := u2 HB hb; clear hb hbox hg; have hnb10 := NB471_472.out; have hnc10 := NB472_471.out; have hnb11 := NB471_473.out; have hnc11 := NB473_471.out; have hnb12 := NB471_474.out; have hnc12 := NB474_471.out; obtain ⟨hcz13_0, hcz13_1, hfz13_0, hfz13_1⟩ := p2 BK471; have hnb14 := NB474_472.out; have hnc14 := NB472_474.out; have hnb15 := NB474_473.out; have hnc15 := NB473_474.out; obtain ⟨hcz16_0, hcz16_1, hfz16_0, hfz16_1⟩ := p2 BK474; have hnb17 := NB472_473.out; have hnc17 := NB473_472.out; obtain ⟨hcz18_0, hcz18_1, hfz18_0, hfz18_1⟩ := p2 BK472; obtain ⟨hcz19_0, hcz19_1, hfz19_0, hfz19_1⟩ := p2 BK473) | (go_at_call 22; (with_reducible refine (zelligeref07_sign.calls (wrap64 ((wrap64 ((wrap64 ((wrap64 ((wrap64 ((wrap64 (a0_0 - a3_0)) * (wrap64 (a0_0 - a3_0)))) + (wrap64 ((wrap64 (a0_1 - a3_1)) * (wrap64 (a0_1 - a3_1)))))) * (wrap64 ((wrap64 ((wrap64 (a1_0 - a3_0)) * (wrap64 (a2_1 - a3_1)))) - (wrap64 ((wrap64 (a1_1 - a3_1)) * (wrap64 (a2_0 - a3_0)))))))) - (wrap64 ((wrap64 ((wrap64 ((wrap64 (a1_0 - a3_0)) * (wrap64 (a1_0 - a3_0)))) + (wrap64 ((wrap64 (a1_1 - a3_1)) * (wrap64 (a1_1 - a3_1)))))) * (wrap64 ((wrap64 ((wrap64 (a0_0 - a3_0)) * (wrap64 (a2_1 - a3_1)))) - (wrap64 ((wrap64 (a0_1 - a3_1)) * (wrap64 (a2_0 - a3_0)))))))))) + (wrap64 ((wrap64 ((wrap64 ((wrap64 (a2_0 - a3_0)) * (wrap64 (a2_0 - a3_0)))) + (wrap64 ((wrap64 (a2_1 - a3_1)) * (wrap64 (a2_1 - a3_1)))))) * (wrap64 ((wrap64 ((wrap64 (a0_0 - a3_0)) * (wrap64 (a1_1 - a3_1)))) - (wrap64 ((wrap64 (a0_1 - a3_1)) * (wrap64 (a1_0 - a3_0)))))))))) t475 _ A5.out).mono ?_); rintro e w' ⟨rfl, ⟨nd, rfl⟩⟩; (try first | exact ⟨rfl, _, World.drewN_drewN _ _ _⟩ | exact ⟨rfl, _, Eq.trans (World.drewN_drewN _ _ _) (congrArg (World.drewN _) (Nat.add_assoc _ _ _))⟩)))
 repeat (go_quiet (first | ((with_reducible refine gate_dst (N := 4) rfl ?_); refine box_event ?hg (N := 4) ?hd (cs := #[.int .i64 a0_0, .int .i64 a0_1]) (t := 23) ?hr ?_; (case hd => rfl); (case hg => rfl); (case hr => first | (go_simp; done) | (go_simp; rfl)); intro gb471 hg w6 hbox hb; have BK471 := Aside0.mk hbox; have GW471 := u3 hg HB; have GE471 := u3 hg HB; replace HB := u2 HB hb; clear hb hbox hg) | ((with_reducible refine gate_dst (N := 5) rfl ?_); refine box_event ?hg (N := 5) ?hd (cs := #[.int .i64 a1_0, .int .i64 a1_1]) (t := 23) ?hr ?_; (case hd => rfl); (case hg => rfl); (case hr => first | (go_simp; done) | (go_simp; rfl)); intro gb472 hg w7 hbox hb; have BK472 := Aside0.mk hbox; have GW472 := u3 hg HB; have GE472 := u3 hg HB; have NB471_472 := u4 hg BK471; have NB472_471 := u5 hg BK471; replace BK471 := u1 BK471 hb; replace HB := u2 HB hb; clear hb hbox hg) | ((with_reducible refine gate_dst (N := 6) rfl ?_); refine box_event ?hg (N := 6) ?hd (cs := #[.int .i64 a2_0, .int .i64 a2_1]) (t := 23) ?hr ?_; (case hd => rfl); (case hg => rfl); (case hr => first | (go_simp; done) | (go_simp; rfl)); intro gb473 hg w8 hbox hb; have BK473 := Aside0.mk hbox; have GW473 := u3 hg HB; have GE473 := u3 hg HB; have NB471_473 := u4 hg BK471; have NB473_471 := u5 hg BK471; have NB472_473 := u4 hg BK472; have NB473_472 := u5 hg BK472; replace BK471 := u1 BK471 hb; replace BK472 := u1 BK472 hb; replace HB := u2 HB hb; clear hb hbox hg) | ((with_reducible refine gate_dst (N := 7) rfl ?_); refine box_event ?hg (N := 7) ?hd (cs := #[.int .i64 a3_0, .int .i64 a3_1]) (t := 23) ?hr ?_; (case hd => rfl); (case hg => rfl); (case hr => first | (go_simp; done) | (go_simp; rfl)); intro gb474 hg w9 hbox hb; have BK474 := Aside0.mk hbox; have GW474 := u3 hg HB; have GE474 := u3 hg HB; have NB471_474 := u4 hg BK471; have NB474_471 := u5 hg BK471; have NB472_474 := u4 hg BK472; have NB474_472 := u5 hg BK472; have NB473_474 := u4 hg BK473; have NB474_473 := u5 hg BK473; replace BK471 := u1 BK471 hb; replace BK472 := u1 BK472 hb; replace BK473 := u1 BK473 hb; replace HB := u2 HB hb; clear hb hbox hg; have hnb10 := NB471_472.out; have hnc10 := NB472_471.out; have hnb11 := NB471_473.out; have hnc11 := NB473_471.out; have hnb12 := NB471_474.out; have hnc12 := NB474_471.out; obtain ⟨hcz13_0, hcz13_1, hfz13_0, hfz13_1⟩ := p2 BK471; have hnb14 := NB474_472.out; have hnc14 := NB472_474.out; have hnb15 := NB474_473.out; have hnc15 := NB473_474.out; obtain ⟨hcz16_0, hcz16_1, hfz16_0, hfz16_1⟩ := p2 BK474; have hnb17 := NB472_473.out; have hnc17 := NB473_472.out; obtain ⟨hcz18_0, hcz18_1, hfz18_0, hfz18_1⟩ := p2 BK472; obtain ⟨hcz19_0, hcz19_1, hfz19_0, hfz19_1⟩ := p2 BK473) | (go_at_call 22; (with_reducible refine (zelligeref07_sign.calls (wrap64 ((wrap64 ((wrap64 ((wrap64 ((wrap64 ((wrap64 (a0_0 - a3_0)) * (wrap64 (a0_0 - a3_0)))) + (wrap64 ((wrap64 (a0_1 - a3_1)) * (wrap64 (a0_1 - a3_1)))))) * (wrap64 ((wrap64 ((wrap64 (a1_0 - a3_0)) * (wrap64 (a2_1 - a3_1)))) - (wrap64 ((wrap64 (a1_1 - a3_1)) * (wrap64 (a2_0 - a3_0)))))))) - (wrap64 ((wrap64 ((wrap64 ((wrap64 (a1_0 - a3_0)) * (wrap64 (a1_0 - a3_0)))) + (wrap64 ((wrap64 (a1_1 - a3_1)) * (wrap64 (a1_1 - a3_1)))))) * (wrap64 ((wrap64 ((wrap64 (a0_0 - a3_0)) * (wrap64 (a2_1 - a3_1)))) - (wrap64 ((wrap64 (a0_1 - a3_1)) * (wrap64 (a2_0 - a3_0)))))))))) + (wrap64 ((wrap64 ((wrap64 ((wrap64 (a2_0 - a3_0)) * (wrap64 (a2_0 - a3_0)))) + (wrap64 ((wrap64 (a2_1 - a3_1)) * (wrap64 (a2_1 - a3_1)))))) * (wrap64 ((wrap64 ((wrap64 (a0_0 - a3_0)) * (wrap64 (a1_1 - a3_1)))) - (wrap64 ((wrap64 (a0_1 - a3_1)) * (wrap64 (a1_0 - a3_0)))))))))) t475 _ A5.out).mono ?_); rintro e w' ⟨rfl, ⟨nd, rfl⟩⟩; (try first | exact ⟨rfl, _, World.drewN_drewN _ _ _⟩ | exact ⟨rfl, _, Eq.trans (World.drewN_drewN _ _ _) (congrArg (World.drewN _) (Nat.add_assoc _ _ _))⟩))); try go_wp2_with (first | ((with_reducible refine gate_dst (N := 4) rfl ?_); refine box_event ?hg (N := 4) ?hd (cs := #[.int .i64 a0_0, .int .i64 a0_1]) (t := 23) ?hr ?_; (case hd => rfl); (case hg => rfl); (case hr => first | (go_simp; done) | (go_simp; rfl)); intro gb471 hg w6 hbox hb; have BK471 := Aside0.mk hbox; have GW471 := u3 hg HB; have GE471 := u3 hg HB; replace HB := u2 HB hb; clear hb hbox hg) | ((with_reducible refine gate_dst (N := 5) rfl ?_); refine box_event ?hg (N := 5) ?hd (cs := #[.int .i64 a1_0, .int .i64 a1_1]) (t := 23) ?hr ?_; (case hd => rfl); (case hg => rfl); (case hr => first | (go_simp; done) | (go_simp; rfl)); intro gb472 hg w7 hbox hb; have BK472 := Aside0.mk hbox; have GW472 := u3 hg HB; have GE472 := u3 hg HB; have NB471_472 := u4 hg BK471; have NB472_471 := u5 hg BK471; replace BK471 := u1 BK471 hb; replace HB := u2 HB hb; clear hb hbox hg) | ((with_reducible refine gate_dst (N := 6) rfl ?_); refine box_event ?hg (N := 6) ?hd (cs := #[.int .i64 a2_0, .int .i64 a2_1]) (t := 23) ?hr ?_; (case hd => rfl); (case hg => rfl); (case hr => first | (go_simp; done) | (go_simp; rfl)); intro gb473 hg w8 hbox hb; have BK473 := Aside0.mk hbox; have GW473 := u3 hg HB; have GE473 := u3 hg HB; have NB471_473 := u4 hg BK471; have NB473_471 := u5 hg BK471; have NB472_473 := u4 hg BK472; have NB473_472 := u5 hg BK472; replace BK471 := u1 BK471 hb; replace BK472 := u1 BK472 hb; replace HB := u2 HB hb; clear hb hbox hg) | ((with_reducible refine gate_dst (N := 7) rfl ?_); refine box_event ?hg (N := 7) ?hd (cs := #[.int .i64 a3_0, .int .i64 a3_1]) (t := 23) ?hr ?_; (case hd => rfl); (case hg => rfl); (case hr => first | (go_simp; done) | (go_simp; rfl)); intro gb474 hg w9 hbox hb; have BK474 := Aside0.mk hbox; have GW474 := u3 hg HB; have GE474 := u3 hg HB; have NB471_474 := u4 hg BK471; have NB474_471 := u5 hg BK471; have NB472_474 := u4 hg BK472; have NB474_472 := u5 hg BK472; have NB473_474 := u4 hg BK473; have NB474_473 := u5 hg BK473; replace BK471 := u1 BK471 hb; replace BK472 := u1 BK472 hb; replace BK473 := u1 BK473 hb; replace HB := u2 HB hb; clear hb hbox hg; have hnb10 := NB471_472.out; have hnc10 := NB472_471.out; have hnb11 := NB471_473.out; have hnc11 := NB473_471.out; have hnb12 := NB471_474.out; have hnc12 := NB474_471.out; obtain ⟨hcz13_0, hcz13_1, hfz13_0, hfz13_1⟩ := p2 BK471; have hnb14 := NB474_472.out; have hnc14 := NB472_474.out; have hnb15 := NB474_473.out; have hnc15 := NB473_474.out; obtain ⟨hcz16_0, hcz16_1, hfz16_0, hfz16_1⟩ := p2 BK474; have hnb17 := NB472_473.out; have hnc17 := NB473_472.out; obtain ⟨hcz18_0, hcz18_1, hfz18_0, hfz18_1⟩ := p2 BK472; obtain ⟨hcz19_0, hcz19_1, hfz19_0, hfz19_1⟩ := p2 BK473) | (go_at_call 22; (with_reducible refine (zelligeref07_sign.calls (wrap64 ((wrap64 ((wrap64 ((wrap64 ((wrap64 ((wrap64 (a0_0 - a3_0)) * (wrap64 (a0_0 - a3_0)))) + (wrap64 ((wrap64 (a0_1 - a3_1)) * (wrap64 (a0_1 - a3_1)))))) * (wrap64 ((wrap64 ((wrap64 (a1_0 - a3_0)) * (wrap64 (a2_1 - a3_1)))) - (wrap64 ((wrap64 (a1_1 - a3_1)) * (wrap64 (a2_0 - a3_0)))))))) - (wrap64 ((wrap64 ((wrap64 ((wrap64 (a1_0 - a3_0)) * (wrap64 (a1_0 - a3_0)))) + (wrap64 ((wrap64 (a1_1 - a3_1)) * (wrap64 (a1_1 - a3_1)))))) * (wrap64 ((wrap64 ((wrap64 (a0_0 - a3_0)) * (wrap64 (a2_1 - a3_1)))) - (wrap64 ((wrap64 (a0_1 - a3_1)) * (wrap64 (a2_0 - a3_0)))))))))) + (wrap64 ((wrap64 ((wrap64 ((wrap64 (a2_0 - a3_0)) * (wrap64 (a2_0 - a3_0)))) + (wrap64 ((wrap64 (a2_1 - a3_1)) * (wrap64 (a2_1 - a3_1)))))) * (wrap64 ((wrap64 ((wrap64 (a0_0 - a3_0)) * (wrap64 (a1_1 - a3_1)))) - (wrap64 ((wrap64 (a0_1 - a3_1)) * (wrap64 (a1_0 - a3_0)))))))))) t475 _ A5.out).mono ?_); rintro e w' ⟨rfl, ⟨nd, rfl⟩⟩; (try first | exact ⟨rfl, _, World.drewN_drewN _ _ _⟩ | exact ⟨rfl, _, Eq.trans (World.drewN_drewN _ _ _) (congrArg (World.drewN _) (Nat.add_assoc _ _ _))⟩))))
 go_ret
 exact ⟨by first | rfl | (simp [*, errW_none, errW_some] <;> rfl), bw HB.out⟩
end Go.Proofs.Ytlkngfidohiepaa.F
end
section
namespace Go.Proofs.Ytlkngfidohiepaa.Rf
open Go Go.RowKit Go.Proofs.YtlkngfidohiepaaW.PrintWords Go.Proofs.YtlkngfidohiepaaW.PrintLast Go.Proofs.YtlkngfidohiepaaW.PrintMore Go.Proofs.Ytlkngfidohiepaa.F Go.Proofs.Ytlkngfidohiepaa.Whole Go.Proofs.Ytlkngfidohiepaa.Reg Go.Proofs.Ytlkngfidohiepaa.Pm Go.Proofs.Ytlkngfidohiepaa.Pd Go.Proofs.Ytlkngfidohiepaa.Wd
set_option linter.unusedVariables false
set_option linter.unusedSimpArgs false
structure B4 (w : World) (a0 a1 b0 b1 c0 c1 d0 d1 : Int) (W : World) : Prop where
 mk :: (out : Below w.heap.size w W ∧ w.heap.size + 1 + 1 + 1 + 1 ≤ W.heap.size ∧ W.heap[w.heap.size]? = some (.cells #[.int .i64 a0, .int .i64 a1] 23 (0, 0)) ∧ W.heap[w.heap.size + 1]? = some (.cells #[.int .i64 b0, .int .i64 b1] 23 (0, 0)) ∧ W.heap[w.heap.size + 1 + 1]? = some (.cells #[.int .i64 c0, .int .i64 c1] 23 (0, 0)) ∧ W.heap[w.heap.size + 1 + 1 + 1]? = some (.cells #[.int .i64 d0, .int .i64 d1] 23 (0, 0)))
section
variable {w W W' : World} {a0 a1 b0 b1 c0 c1 d0 d1 : Int}
theorem B4.below (h : B4 w a0 a1 b0 b1 c0 c1 d0 d1 W) (hb : Below W.heap.size W W') : B4 w a0 a1 b0 b1 c0 c1 d0 d1 W' :=
 ⟨⟨below_step h.out.1 hb, Nat.le_trans h.out.2.1 hb.size, blk_below h.out.2.2.1 hb, blk_below h.out.2.2.2.1 hb, blk_below h.out.2.2.2.2.1 hb, blk_below h.out.2.2.2.2.2 hb⟩⟩
theorem B4.cells (h : B4 w a0 a1 b0 b1 c0 c1 d0 d1 W) : W.cell? ⟨w.heap.size, 0, none⟩ = some (.int .i64 a0) ∧ W.cell? ⟨w.heap.size, 1, none⟩ = some (.int .i64 a1) ∧ W.cell? ⟨w.heap.size + 1, 0, none⟩ = some (.int .i64 b0) ∧ W.cell? ⟨w.heap.size + 1, 1, none⟩ = some (.int .i64 b1) ∧ W.cell? ⟨w.heap.size + 1 + 1, 0, none⟩ = some (.int .i64 c0) ∧ W.cell? ⟨w.heap.size + 1 + 1, 1, none⟩ = some (.int .i64 c1) ∧ W.cell? ⟨w.heap.size + 1 + 1 + 1, 0, none⟩ = some (.int .i64 d0) ∧ W.cell? ⟨w.heap.size + 1 + 1 + 1, 1, none⟩ = some (.int .i64 d1) :=
 ⟨(blk_cell h.out.2.2.1 0).trans rfl, (blk_cell h.out.2.2.1 1).trans rfl, (blk_cell h.out.2.2.2.1 0).trans rfl, (blk_cell h.out.2.2.2.1 1).trans rfl, (blk_cell h.out.2.2.2.2.1 0).trans rfl, (blk_cell h.out.2.2.2.2.1 1).trans rfl, (blk_cell h.out.2.2.2.2.2 0).trans rfl, (blk_cell h.out.2.2.2.2.2 1).trans rfl⟩
end
theorem dt_ref (a0 a1 b0 b1 c0 c1 d0 d1 : Int) : (((ds a0 a1 d0 d1) * (((b0 - d0) * (c1 - d1)) - ((b1 - d1) * (c0 - d0)))) - ((ds b0 b1 d0 d1) * (((a0 - d0) * (c1 - d1)) - ((a1 - d1) * (c0 - d0))))) + ((ds c0 c1 d0 d1) * (((a0 - d0) * (b1 - d1)) - ((a1 - d1) * (b0 - d0)))) = dt a0 a1 b0 b1 c0 c1 d0 d1 := by unfold ds dt; grind
def inc3.T : Bool × List (List Nat × List Nat) := (true, [([], []), ([0], [0]), ([], []), ([2], [2]), ([1, 3], [1, 3]), ([], []), ([5], [5]), ([], []), ([7], [7]), ([6, 8, 4], [6, 8]), ([], []), ([10], [10]), ([], []), ([12], [12]), ([11, 13, 9], [11, 13]), ([], []), ([15], [15]), ([], []), ([17], [17]), ([16, 18, 14], [16, 18]), ([], []), ([20], [20]), ([], []), ([22], [22]), ([21, 23, 19], [21, 23]), ([], []), ([25], [25]), ([], []), ([27], [27]), ([26, 28, 24], [26, 28]), ([], []), ([], []), ([], []), ([], []), ([], []), ([], []), ([30, 4, 29, 0, 1, 2, 3, 4, 30, 31, 32, 33, 34, 35], [4, 30]), ([31, 9, 36, 0, 1, 2, 3, 4, 5, 6, 7, 8, 9, 30, 31, 32, 33, 34, 35, 36], [9, 31]), ([32, 14, 37, 0, 1, 2, 3, 4, 5, 6, 7, 8, 9, 10, 11, 12, 13, 14, 30, 31, 32, 33, 34, 35, 36, 37], [14, 32]), ([33, 19, 38, 0, 1, 2, 3, 4, 5, 6, 7, 8, 9, 10, 11, 12, 13, 14, 15, 16, 17, 18, 19, 30, 31, 32, 33, 34, 35, 36, 37, 38], [19, 33]), ([34, 24, 39, 0, 1, 2, 3, 4, 5, 6, 7, 8, 9, 10, 11, 12, 13, 14, 15, 16, 17, 18, 19, 20, 21, 22, 23, 24, 30, 31, 32, 33, 34, 35, 36, 37, 38, 39], [24, 34]), ([35, 29, 40, 0, 1, 2, 3, 4, 5, 6, 7, 8, 9, 10, 11, 12, 13, 14, 15, 16, 17, 18, 19, 20, 21, 22, 23, 24, 25, 26, 27, 28, 29, 30, 31, 32, 33, 34, 35, 36, 37, 38, 39, 40], [29, 35])])
def inc3.B : List Nat := [0, 1, 0, 4, 15, 0, 32, 0, 128, 511, 0, 1024, 0, 4096, 16383, 0, 32768, 0, 131072, 524287, 0, 1048576, 0, 4194304, 16777215, 0, 33554432, 0, 134217728, 536870911, 0, 0, 0, 0, 0, 0, 68719476735, 137438953471, 274877906943, 549755813887, 1099511627775, 2199023255551]
theorem inc3.tab : rtab .any (opsOf Try.f19 3) = inc3.T := by kernel_rfl
theorem inc3.bits : waitsOk inc3.T.2 inc3.B = true := by kernel_rfl
def inc4.T : Bool × List (List Nat × List Nat) := (true, [([], []), ([], []), ([0, 1], [0, 1]), ([], []), ([], []), ([3, 4, 2], [3, 4]), ([], []), ([], []), ([6, 7, 5], [6, 7]), ([5, 8, 8], [5, 8]), ([2, 9, 9], [2, 9]), ([], []), ([11, 10, 10, 0, 1, 2, 3, 4, 5, 6, 7, 8, 9, 10, 11], [10, 11])])
def inc4.B : List Nat := [0, 0, 3, 0, 0, 31, 0, 0, 255, 511, 1023, 0, 4095]
theorem inc4.tab : rtab .any (opsOf Try.f19 4) = inc4.T := by kernel_rfl
theorem inc4.bits : waitsOk inc4.T.2 inc4.B = true := by kernel_rfl
def inc5.T : Bool × List (List Nat × List Nat) := (true, [([], []), ([], []), ([], []), ([1, 2], [1, 2]), ([], []), ([], []), ([4, 5, 3], [4, 5]), ([], []), ([], []), ([7, 8, 6], [7, 8]), ([6, 9, 9], [6, 9]), ([3, 10, 10], [3, 10]), ([0, 11, 11], [0, 11]), ([12, 12, 0, 1, 2, 3, 4, 5, 6, 7, 8, 9, 10, 11, 12], [12])])
def inc5.B : List Nat := [0, 0, 0, 6, 0, 0, 62, 0, 0, 510, 1022, 2046, 4095, 8191]
theorem inc5.tab : rtab .any (opsOf Try.f19 5) = inc5.T := by kernel_rfl
theorem inc5.bits : waitsOk inc5.T.2 inc5.B = true := by kernel_rfl
def inc6.T : Bool × List (List Nat × List Nat) := (true, [([], []), ([], []), ([], []), ([1, 2], [1, 2]), ([], []), ([], []), ([4, 5, 3], [4, 5]), ([], []), ([], []), ([7, 8, 6], [7, 8]), ([6, 9, 9], [6, 9]), ([3, 10, 10], [3, 10]), ([0, 11, 11], [0, 11]), ([12, 12, 0, 1, 2, 3, 4, 5, 6, 7, 8, 9, 10, 11, 12], [12])])
def inc6.B : List Nat := [0, 0, 0, 6, 0, 0, 62, 0, 0, 510, 1022, 2046, 4095, 8191]
theorem inc6.tab : rtab .any (opsOf Try.f19 6) = inc6.T := by kernel_rfl
theorem inc6.bits : waitsOk inc6.T.2 inc6.B = true := by kernel_rfl
set_option maxHeartbeats 16000000 in
set_option maxRecDepth 100000 in
theorem incircle_near {a0 a1 b0 b1 c0 c1 d0 d1 : Int} (ha : CoP a0 a1) (hb : CoP b0 b1) (hc : CoP c0 c1) (hd : CoP d0 d1) (Na : Aside0 (zelligeref07_near.f a0 a1 d0 d1 = some true)) (Nb : Aside0 (zelligeref07_near.f b0 b1 d0 d1 = some true)) (Nc : Aside0 (zelligeref07_near.f c0 c1 d0 d1 = some true))
  (q : Int) (FL : Aside0 (zelligeref07_flat.f a0 a1 b0 b1 c0 c1 d0 d1 = some q)) (w : World) :
  Calls Try.prog 19 #[.agg #[.int .i64 a0, .int .i64 a1], .agg #[.int .i64 b0, .int .i64 b1], .agg #[.int .i64 c0, .int .i64 c1], .agg #[.int .i64 d0, .int .i64 d1]] w fun e w' => e = .returned (.int .i64 q) ∧ Below w.heap.size w w' := by
 have AH := Aside0.mk (And.intro ha (And.intro hb (And.intro hc hd)))
 clear ha hb hc hd
 go_enter Try.func19, Try.ntmps19
 go_upto_region 1 with fail
 obtain ⟨n0, n1, n2, n3, bw, nw⟩ := four_new w (.cells #[.int .i64 a0, .int .i64 a1] 23) (.cells #[.int .i64 b0, .int .i64 b1] 23) (.cells #[.int .i64 c0, .int .i64 c1] 23) (.cells #[.int .i64 d0, .int .i64 d1] 23)
 generalize ((((w.alloc (.cells #[.int .i64 a0, .int .i64 a1] 23)).alloc (.cells #[.int .i64 b0, .int .i64 b1] 23)).alloc (.cells #[.int .i64 c0, .int .i64 c1] 23)).alloc (.cells #[.int .i64 d0, .int .i64 d1] 23)) = W at n0 n1 n2 n3 bw nw ⊢
 have S := Aside0.mk (B4.mk ⟨bw, Nat.le_of_eq nw.symm, n0, n1, n2, n3⟩)
 clear n0 n1 n2 n3 bw nw
 obtain ⟨k0, k1, k2, k3, k4, k5, k6, k7⟩ := S.out.cells
 go_wp2_with (first | (first | (with_reducible go_at_call 21; with_reducible refine (zelligeref07_near.calls a0 a1 d0 d1 _ _ Na.out).mono ?_; rintro e v1 ⟨rfl, hb⟩; have S := Aside0.mk (S.out.below hb); clear hb k0 k1 k2 k3 k4 k5 k6 k7; obtain ⟨k0, k1, k2, k3, k4, k5, k6, k7⟩ := S.out.cells) | (with_reducible go_at_call 21; with_reducible refine (zelligeref07_near.calls b0 b1 d0 d1 _ _ Nb.out).mono ?_; rintro e v1 ⟨rfl, hb⟩; have S := Aside0.mk (S.out.below hb); clear hb k0 k1 k2 k3 k4 k5 k6 k7; obtain ⟨k0, k1, k2, k3, k4, k5, k6, k7⟩ := S.out.cells) | (with_reducible go_at_call 21; with_reducible refine (zelligeref07_near.calls c0 c1 d0 d1 _ _ Nc.out).mono ?_; rintro e v1 ⟨rfl, hb⟩; have S := Aside0.mk (S.out.below hb); clear hb k0 k1 k2 k3 k4 k5 k6 k7; obtain ⟨k0, k1, k2, k3, k4, k5, k6, k7⟩ := S.out.cells)) | (with_reducible go_at_call 30; with_reducible refine (zelligeref07_flat.calls a0 a1 b0 b1 c0 c1 d0 d1 _ _ FL.out).mono ?_; rintro e v1 ⟨rfl, hb⟩; have S := Aside0.mk (S.out.below hb); clear hb k0 k1 k2 k3 k4 k5 k6 k7; obtain ⟨k0, k1, k2, k3, k4, k5, k6, k7⟩ := S.out.cells))
 go_ret
 exact ⟨rfl, S.out.out.1⟩
set_option maxHeartbeats 16000000 in
set_option maxRecDepth 100000 in
theorem incircle_walk {a0 a1 b0 b1 c0 c1 d0 d1 : Int} (ha : CoP a0 a1) (hb : CoP b0 b1) (hc : CoP c0 c1) (hd : CoP d0 d1) (m1 m2 m3 : Bool) (hm : m1 = true → m2 = true → m3 = true → False) (Na : Aside0 (zelligeref07_near.f a0 a1 d0 d1 = some m1)) (Nb : Aside0 (zelligeref07_near.f b0 b1 d0 d1 = some m2)) (Nc : Aside0 (zelligeref07_near.f c0 c1 d0 d1 = some m3))
  (q : Int) (hq : Aside0 ((dt a0 a1 b0 b1 c0 c1 d0 d1).sign = q)) (w : World) :
  Calls Try.prog 19 #[.agg #[.int .i64 a0, .int .i64 a1], .agg #[.int .i64 b0, .int .i64 b1], .agg #[.int .i64 c0, .int .i64 c1], .agg #[.int .i64 d0, .int .i64 d1]] w fun e w' => e = .returned (.int .i64 q) ∧ Below w.heap.size w w' := by
 have AH := Aside0.mk (And.intro ha (And.intro hb (And.intro hc hd)))
 clear ha hb hc hd
 go_enter Try.func19, Try.ntmps19
 go_upto_region 1 with fail
 obtain ⟨n0, n1, n2, n3, bw, nw⟩ := four_new w (.cells #[.int .i64 a0, .int .i64 a1] 23) (.cells #[.int .i64 b0, .int .i64 b1] 23) (.cells #[.int .i64 c0, .int .i64 c1] 23) (.cells #[.int .i64 d0, .int .i64 d1] 23)
 generalize ((((w.alloc (.cells #[.int .i64 a0, .int .i64 a1] 23)).alloc (.cells #[.int .i64 b0, .int .i64 b1] 23)).alloc (.cells #[.int .i64 c0, .int .i64 c1] 23)).alloc (.cells #[.int .i64 d0, .int .i64 d1] 23)) = W at n0 n1 n2 n3 bw nw ⊢
 have S := Aside0.mk (B4.mk ⟨bw, Nat.le_of_eq nw.symm, n0, n1, n2, n3⟩)
 clear n0 n1 n2 n3 bw nw
 obtain ⟨k0, k1, k2, k3, k4, k5, k6, k7⟩ := S.out.cells
 go_cut [28] (fun v28 wx => v28 = .bool false ∧ B4 w a0 a1 b0 b1 c0 c1 d0 d1 wx)
 case first =>
  cases m1
  ·go_wp2_with (first | (with_reducible go_at_call 21; with_reducible refine (zelligeref07_near.calls a0 a1 d0 d1 _ _ Na.out).mono ?_; rintro e v1 ⟨rfl, hb⟩; have S := Aside0.mk (S.out.below hb); clear hb k0 k1 k2 k3 k4 k5 k6 k7; obtain ⟨k0, k1, k2, k3, k4, k5, k6, k7⟩ := S.out.cells) | (with_reducible go_at_call 21; with_reducible refine (zelligeref07_near.calls b0 b1 d0 d1 _ _ Nb.out).mono ?_; rintro e v1 ⟨rfl, hb⟩; have S := Aside0.mk (S.out.below hb); clear hb k0 k1 k2 k3 k4 k5 k6 k7; obtain ⟨k0, k1, k2, k3, k4, k5, k6, k7⟩ := S.out.cells) | (with_reducible go_at_call 21; with_reducible refine (zelligeref07_near.calls c0 c1 d0 d1 _ _ Nc.out).mono ?_; rintro e v1 ⟨rfl, hb⟩; have S := Aside0.mk (S.out.below hb); clear hb k0 k1 k2 k3 k4 k5 k6 k7; obtain ⟨k0, k1, k2, k3, k4, k5, k6, k7⟩ := S.out.cells))
   go_meet
   exact ⟨rfl, S.out⟩
  cases m2
  ·go_wp2_with (first | (with_reducible go_at_call 21; with_reducible refine (zelligeref07_near.calls a0 a1 d0 d1 _ _ Na.out).mono ?_; rintro e v1 ⟨rfl, hb⟩; have S := Aside0.mk (S.out.below hb); clear hb k0 k1 k2 k3 k4 k5 k6 k7; obtain ⟨k0, k1, k2, k3, k4, k5, k6, k7⟩ := S.out.cells) | (with_reducible go_at_call 21; with_reducible refine (zelligeref07_near.calls b0 b1 d0 d1 _ _ Nb.out).mono ?_; rintro e v1 ⟨rfl, hb⟩; have S := Aside0.mk (S.out.below hb); clear hb k0 k1 k2 k3 k4 k5 k6 k7; obtain ⟨k0, k1, k2, k3, k4, k5, k6, k7⟩ := S.out.cells) | (with_reducible go_at_call 21; with_reducible refine (zelligeref07_near.calls c0 c1 d0 d1 _ _ Nc.out).mono ?_; rintro e v1 ⟨rfl, hb⟩; have S := Aside0.mk (S.out.below hb); clear hb k0 k1 k2 k3 k4 k5 k6 k7; obtain ⟨k0, k1, k2, k3, k4, k5, k6, k7⟩ := S.out.cells))
   go_meet
   exact ⟨rfl, S.out⟩
  cases m3
  ·go_wp2_with (first | (with_reducible go_at_call 21; with_reducible refine (zelligeref07_near.calls a0 a1 d0 d1 _ _ Na.out).mono ?_; rintro e v1 ⟨rfl, hb⟩; have S := Aside0.mk (S.out.below hb); clear hb k0 k1 k2 k3 k4 k5 k6 k7; obtain ⟨k0, k1, k2, k3, k4, k5, k6, k7⟩ := S.out.cells) | (with_reducible go_at_call 21; with_reducible refine (zelligeref07_near.calls b0 b1 d0 d1 _ _ Nb.out).mono ?_; rintro e v1 ⟨rfl, hb⟩; have S := Aside0.mk (S.out.below hb); clear hb k0 k1 k2 k3 k4 k5 k6 k7; obtain ⟨k0, k1, k2, k3, k4, k5, k6, k7⟩ := S.out.cells) | (with_reducible go_at_call 21; with_reducible refine (zelligeref07_near.calls c0 c1 d0 d1 _ _ Nc.out).mono ?_; rintro e v1 ⟨rfl, hb⟩; have S := Aside0.mk (S.out.below hb); clear hb k0 k1 k2 k3 k4 k5 k6 k7; obtain ⟨k0, k1, k2, k3, k4, k5, k6, k7⟩ := S.out.cells))
   go_meet
   exact ⟨rfl, S.out⟩
  exact (hm rfl rfl rfl).elim
 case rest =>
 obtain ⟨rfl, S⟩ := hcut
 clear k0 k1 k2 k3 k4 k5 k6 k7 Na Nb Nc hm
 obtain ⟨ha, hb, hc, hd⟩ := AH.out
 have Qa := ha; have Qb := hb; have Qc := hc; have Qd := hd
 have A0 := ha.1.way hd.1
 have A1 := ha.2.way hd.2
 have A2 := hb.1.way hd.1
 have A3 := hb.2.way hd.2
 have A4 := hc.1.way hd.1
 have A5 := hc.2.way hd.2
 have s0 := sm_am A0 (by omega)
 have s1 := sm_am A1 (by omega)
 have s2 := sm_am A2 (by omega)
 have s3 := sm_am A3 (by omega)
 have s4 := sm_am A4 (by omega)
 have s5 := sm_am A5 (by omega)
 have P0 := Am.mul A2 A5; have p0 := sm_am P0 (by omega)
 have P1 := Am.mul A3 A4; have p1 := sm_am P1 (by omega)
 have P2 := Am.mul A0 A5; have p2 := sm_am P2 (by omega)
 have P3 := Am.mul A1 A4; have p3 := sm_am P3 (by omega)
 have P4 := Am.mul A0 A3; have p4 := sm_am P4 (by omega)
 have P5 := Am.mul A1 A2; have p5 := sm_am P5 (by omega)
 have C0 := Am.sub P0 P1; have r0 := sm_am C0 (by omega)
 have C1 := Am.sub P2 P3; have r1 := sm_am C1 (by omega)
 have C2 := Am.sub P4 P5; have r2 := sm_am C2 (by omega)
 have T0 : Am (ds a0 a1 d0 d1) (2199023255552 * 2199023255552 + 2199023255552 * 2199023255552) := by unfold ds; exact Am.add (Am.mul (hd.1.way ha.1) (hd.1.way ha.1)) (Am.mul (hd.2.way ha.2) (hd.2.way ha.2))
 have t0 := sm_am T0 (by omega); have U0 := Am.mul T0 C0; have u0 := sm_am U0 (by omega)
 have T1 : Am (ds b0 b1 d0 d1) (2199023255552 * 2199023255552 + 2199023255552 * 2199023255552) := by unfold ds; exact Am.add (Am.mul (hd.1.way hb.1) (hd.1.way hb.1)) (Am.mul (hd.2.way hb.2) (hd.2.way hb.2))
 have t1 := sm_am T1 (by omega); have U1 := Am.mul T1 C1; have u1 := sm_am U1 (by omega)
 have T2 : Am (ds c0 c1 d0 d1) (2199023255552 * 2199023255552 + 2199023255552 * 2199023255552) := by unfold ds; exact Am.add (Am.mul (hd.1.way hc.1) (hd.1.way hc.1)) (Am.mul (hd.2.way hc.2) (hd.2.way hc.2))
 have t2 := sm_am T2 (by omega); have U2 := Am.mul T2 C2; have u2 := sm_am U2 (by omega)
 have v1 := sm_am (Am.sub U0 U1) (by omega)
 clear A0 P0 A1 P1 A2 P2 A3 P3 A4 P4 A5 P5 C0 T0 U0 C1 T1 U1 C2 T2 U2
 have h_a0 := co_wf ha.1; have h_a1 := co_wf ha.2; have h_b0 := co_wf hb.1; have h_b1 := co_wf hb.2; have h_c0 := co_wf hc.1; have h_c1 := co_wf hc.2; have h_d0 := co_wf hd.1; have h_d1 := co_wf hd.2
 go_wp2_with fail
 obtain ⟨G, hGd⟩ : ∃ G : World → Prop, G = (fun w' => Below w.heap.size w w' ∧ w.heap.size + 1 + 1 + 1 + 1 ≤ w'.heap.size ∧ w'.heap[w.heap.size]? = some (.cells #[.int .i64 a0, .int .i64 a1] 23 (0, 0)) ∧ w'.heap[w.heap.size + 1]? = some (.cells #[.int .i64 b0, .int .i64 b1] 23 (0, 0)) ∧ w'.heap[w.heap.size + 1 + 1]? = some (.cells #[.int .i64 c0, .int .i64 c1] 23 (0, 0)) ∧ w'.heap[w.heap.size + 1 + 1 + 1]? = some (.cells #[.int .i64 d0, .int .i64 d1] 23 (0, 0))) := ⟨_, rfl⟩
 have GM : ∀ w1 w2 : World, G w1 → Below w1.heap.size w1 w2 → G w2 := by
  subst hGd
  rintro w1 w2 ⟨HBl, HSz, Bx4, Bx5, Bx6, Bx7⟩ hb
  exact ⟨below_step HBl hb, Nat.le_trans HSz hb.size, blk_below Bx4 hb, blk_below Bx5 hb, blk_below Bx6 hb, blk_below Bx7 hb⟩
 have HM : ∀ w1 w2 : World, (fun _ => True) w1 → Below w1.heap.size w1 w2 → (fun _ => True) w2 := fun _ _ _ _ => True.intro
 have GS : ∀ (w1 : World) (g : Nat) (x0 y0 x y : Value), G w1 → w1.heap[g]? = some (.cells #[x0, y0] 42 (0, 0)) → w.heap.size ≤ g → ((w.heap.size = g ∨ w.heap.size + 1 = g ∨ w.heap.size + 1 + 1 = g ∨ w.heap.size + 1 + 1 + 1 = g) → False) → G ((w1.setCell ⟨g, 0, none⟩ x).setCell ⟨g, 1, none⟩ y) := by
  subst hGd
  rintro w1 g x0 y0 x y ⟨HBl, HSz, Bx4, Bx5, Bx6, Bx7⟩ hgh hle hne
  exact ⟨below_set2 HBl hle _ _ _ _, (by simpa [World.setCell] using HSz), blk_far (blk_far Bx4 (fun e => hne (by simp [e])) _) (fun e => hne (by simp [e])) _, blk_far (blk_far Bx5 (fun e => hne (by simp [e])) _) (fun e => hne (by simp [e])) _, blk_far (blk_far Bx6 (fun e => hne (by simp [e])) _) (fun e => hne (by simp [e])) _, blk_far (blk_far Bx7 (fun e => hne (by simp [e])) _) (fun e => hne (by simp [e])) _⟩
 refine start_ (n := 42) (S := fun w' => True) (ds := []) #[false, false, false, false, false, false, false, false, false, false, false, false, false, false, false, false, false, false, false, false, false, false, false, false, false, false, false, false, false, false, false, false, false, false, false, false, false, false, false, false, false, false] (by kernel_rfl) rfl rfl trivial (fun _ => ?_); refine with_tabW inc3.tab inc3.bits (fun HT_ HW_ => ?_)
 have hG0 : G wc.drew := by subst hGd; exact ⟨below_drew S.out.1, S.out.2.1, S.out.2.2.1, S.out.2.2.2.1, S.out.2.2.2.2.1, S.out.2.2.2.2.2⟩
 generalize wc.drew = W1 at hG0 ⊢
 refine inv_at [0, 1, 2, 3, 4, 5, 6, 7, 8, 9, 10, 11, 12, 13, 14, 15, 16, 17, 18, 19, 20, 21, 22, 23, 24, 25, 26, 27, 28, 29, 30, 31, 32, 33, 34, 35, 36, 37, 38, 39, 40, 41] (fun a0_ b a w' => Rg ⟨[0, 1, 2, 3, 4, 5, 6, 7, 8, 9, 10, 11, 12, 13, 14, 15, 16, 17, 18, 19, 20, 21, 22, 23, 24, 25, 26, 27, 28, 29, 30, 31, 32, 33, 34, 35, 36, 37, 38, 39, 40, 41], [(0, 34), (1, 35), (2, 36), (3, 37), (4, 38), (5, 39), (6, 40), (7, 41), (8, 42), (9, 43), (10, 44), (11, 45), (12, 46), (13, 47), (14, 48), (15, 49), (16, 50), (17, 51), (18, 52), (19, 53), (20, 54), (21, 55), (22, 56), (23, 57), (24, 58), (25, 59), (26, 60), (27, 61), (28, 62), (29, 63), (30, 9), (31, 10), (32, 11), (33, 12), (34, 13), (35, 14)], fun j => [.const (.pointer (some ⟨w.heap.size + 1 + 1 + 1, 0, none⟩)), .const (.int .i64 d0), .const (.pointer (some ⟨w.heap.size, 0, none⟩)), .const (.int .i64 a0), .ni (a0 - d0), .const (.pointer (some ⟨w.heap.size + 1 + 1 + 1, 1, none⟩)), .const (.int .i64 d1), .const (.pointer (some ⟨w.heap.size, 1, none⟩)), .const (.int .i64 a1), .ni (a1 - d1), .const (.pointer (some ⟨w.heap.size + 1 + 1 + 1, 0, none⟩)), .const (.int .i64 d0), .const (.pointer (some ⟨w.heap.size + 1, 0, none⟩)), .const (.int .i64 b0), .ni (b0 - d0), .const (.pointer (some ⟨w.heap.size + 1 + 1 + 1, 1, none⟩)), .const (.int .i64 d1), .const (.pointer (some ⟨w.heap.size + 1, 1, none⟩)), .const (.int .i64 b1), .ni (b1 - d1), .const (.pointer (some ⟨w.heap.size + 1 + 1 + 1, 0, none⟩)), .const (.int .i64 d0), .const (.pointer (some ⟨w.heap.size + 1 + 1, 0, none⟩)), .const (.int .i64 c0), .ni (c0 - d0), .const (.pointer (some ⟨w.heap.size + 1 + 1 + 1, 1, none⟩)), .const (.int .i64 d1), .const (.pointer (some ⟨w.heap.size + 1 + 1, 1, none⟩)), .const (.int .i64 c1), .ni (c1 - d1), .box, .box, .box, .box, .box, .box, .put 30 4, .put 31 9, .put 32 14, .put 33 19, .put 34 24, .put 35 29].getD j .box, w.heap.size + 1 + 1 + 1 + 1, 6, G, fun _ => True, 1000⟩ a0_ b a w') HT_.out HW_.out (by kernel_rfl) (by kernel_rfl) ?_ ?_ ?_
 ·exact rg0 hG0 True.intro
 ·refine steps_cons ?_ ?_
  ·rintro b a w' ⟨ms, hR⟩ hb_ hon hoff
   obtain ⟨ha, hF, hD, hG, _⟩ := id hR
   have hG1 := hG
   rw [hGd] at hG1
   obtain ⟨HBl, HSz, Bx4, Bx5, Bx6, Bx7⟩ := hG1
   have HH := True.intro
   refine ⟨_, rfl, fun K hK => ?_⟩
   have e7 : a.tmps[7]? = some (.pointer (some ⟨w.heap.size + 1 + 1 + 1, 0, none⟩)) := (off_ ha rfl).trans rfl
   have HR := Aside0.mk hR
   clear hR ha hF
   refine value_ (w1 := w') (v := .pointer (some ⟨w.heap.size + 1 + 1 + 1, 0, none⟩)) (by rfl) rfl ?_ ?_
   ·go_simp
    try rfl
   exact hK.out _ _ (step_ 0 HR.out rfl rfl hb_ (Below.refl _ _) hG rfl (fun h => by cases h) (fun _ => HH) rfl)
  refine steps_cons ?_ ?_
  ·rintro b a w' ⟨ms, hR⟩ hb_ hon hoff
   obtain ⟨ha, hF, hD, hG, _⟩ := id hR
   have hG1 := hG
   rw [hGd] at hG1
   obtain ⟨HBl, HSz, Bx4, Bx5, Bx6, Bx7⟩ := hG1
   have HH := True.intro
   refine ⟨_, rfl, fun K hK => ?_⟩
   have e34 : a.tmps[34]? = some (.pointer (some ⟨w.heap.size + 1 + 1 + 1, 0, none⟩)) := (on_ 0 ha rfl (hon 0 (by kernel_rfl)) rfl).trans (congrArg some (hF 0 (hon 0 (by kernel_rfl))))
   have hc : w'.cell? ⟨w.heap.size + 1 + 1 + 1, 0, none⟩ = some (.int .i64 d0) := (blk_cell Bx7 0).trans rfl
   have HR := Aside0.mk hR
   clear hR ha hF
   refine value_ (w1 := w') (v := .int .i64 d0) (by rfl) rfl ?_ ?_
   ·go_simp
    (try simp only [i64_w])
    try rfl
   exact hK.out _ _ (step_ 1 HR.out rfl rfl hb_ (Below.refl _ _) hG rfl (fun h => by cases h) (fun _ => HH) rfl)
  refine steps_cons ?_ ?_
  ·rintro b a w' ⟨ms, hR⟩ hb_ hon hoff
   obtain ⟨ha, hF, hD, hG, _⟩ := id hR
   have hG1 := hG
   rw [hGd] at hG1
   obtain ⟨HBl, HSz, Bx4, Bx5, Bx6, Bx7⟩ := hG1
   have HH := True.intro
   refine ⟨_, rfl, fun K hK => ?_⟩
   have e4 : a.tmps[4]? = some (.pointer (some ⟨w.heap.size, 0, none⟩)) := (off_ ha rfl).trans rfl
   have HR := Aside0.mk hR
   clear hR ha hF
   refine value_ (w1 := w') (v := .pointer (some ⟨w.heap.size, 0, none⟩)) (by rfl) rfl ?_ ?_
   ·go_simp
    try rfl
   exact hK.out _ _ (step_ 2 HR.out rfl rfl hb_ (Below.refl _ _) hG rfl (fun h => by cases h) (fun _ => HH) rfl)
  refine steps_cons ?_ ?_
  ·rintro b a w' ⟨ms, hR⟩ hb_ hon hoff
   obtain ⟨ha, hF, hD, hG, _⟩ := id hR
   have hG1 := hG
   rw [hGd] at hG1
   obtain ⟨HBl, HSz, Bx4, Bx5, Bx6, Bx7⟩ := hG1
   have HH := True.intro
   refine ⟨_, rfl, fun K hK => ?_⟩
   have e36 : a.tmps[36]? = some (.pointer (some ⟨w.heap.size, 0, none⟩)) := (on_ 2 ha rfl (hon 2 (by kernel_rfl)) rfl).trans (congrArg some (hF 2 (hon 2 (by kernel_rfl))))
   have hc : w'.cell? ⟨w.heap.size, 0, none⟩ = some (.int .i64 a0) := (blk_cell Bx4 0).trans rfl
   have HR := Aside0.mk hR
   clear hR ha hF
   refine value_ (w1 := w') (v := .int .i64 a0) (by rfl) rfl ?_ ?_
   ·go_simp
    (try simp only [i64_w])
    try rfl
   exact hK.out _ _ (step_ 3 HR.out rfl rfl hb_ (Below.refl _ _) hG rfl (fun h => by cases h) (fun _ => HH) rfl)
  refine steps_cons ?_ ?_
  ·rintro b a w' ⟨ms, hR⟩ hb_ hon hoff
   obtain ⟨ha, hF, hD, hG, _⟩ := id hR
   have hG1 := hG
   rw [hGd] at hG1
   obtain ⟨HBl, HSz, Bx4, Bx5, Bx6, Bx7⟩ := hG1
   have HH := True.intro
   refine ⟨_, rfl, fun K hK => ?_⟩
   have e35 : a.tmps[35]? = some (.int .i64 d0) := (on_ 1 ha rfl (hon 1 (by kernel_rfl)) rfl).trans (congrArg some (hF 1 (hon 1 (by kernel_rfl))))
   have e37 : a.tmps[37]? = some (.int .i64 a0) := (on_ 3 ha rfl (hon 3 (by kernel_rfl)) rfl).trans (congrArg some (hF 3 (hon 3 (by kernel_rfl))))
   refine goes_ Try.func31 (by kernel_rfl) rfl #[.int .i64 d0, .int .i64 a0] (by rfl) rfl rfl (by first | (simp only [List.map_toArray, List.map_cons, List.map_nil, Act.eval, Array.getD_eq_getD_getElem?, Option.getD_some, e35, e37]; done) | (simp only [List.map_toArray, List.map_cons, List.map_nil, Act.eval, Array.getD_eq_getD_getElem?, Option.getD_some, e35, e37]; rfl)) ?_
   with_reducible refine (diff_c d0 a0 h_d0 h_a0 _).mono ?_
   rintro e w1 ⟨r, rfl, hN, hb⟩
   exact ⟨_, rfl, hK.out _ _ (step_ 4 hR rfl rfl hb_ hb (GM _ _ hG hb) hN (fun h => by cases h) (fun _ => HM _ _ HH hb) rfl)⟩
  refine steps_cons ?_ ?_
  ·rintro b a w' ⟨ms, hR⟩ hb_ hon hoff
   obtain ⟨ha, hF, hD, hG, _⟩ := id hR
   have hG1 := hG
   rw [hGd] at hG1
   obtain ⟨HBl, HSz, Bx4, Bx5, Bx6, Bx7⟩ := hG1
   have HH := True.intro
   refine ⟨_, rfl, fun K hK => ?_⟩
   have e7 : a.tmps[7]? = some (.pointer (some ⟨w.heap.size + 1 + 1 + 1, 0, none⟩)) := (off_ ha rfl).trans rfl
   have HR := Aside0.mk hR
   clear hR ha hF
   refine value_ (w1 := w') (v := .pointer (some ⟨w.heap.size + 1 + 1 + 1, 1, none⟩)) (by rfl) rfl ?_ ?_
   ·go_simp
    try rfl
   exact hK.out _ _ (step_ 5 HR.out rfl rfl hb_ (Below.refl _ _) hG rfl (fun h => by cases h) (fun _ => HH) rfl)
  refine steps_cons ?_ ?_
  ·rintro b a w' ⟨ms, hR⟩ hb_ hon hoff
   obtain ⟨ha, hF, hD, hG, _⟩ := id hR
   have hG1 := hG
   rw [hGd] at hG1
   obtain ⟨HBl, HSz, Bx4, Bx5, Bx6, Bx7⟩ := hG1
   have HH := True.intro
   refine ⟨_, rfl, fun K hK => ?_⟩
   have e39 : a.tmps[39]? = some (.pointer (some ⟨w.heap.size + 1 + 1 + 1, 1, none⟩)) := (on_ 5 ha rfl (hon 5 (by kernel_rfl)) rfl).trans (congrArg some (hF 5 (hon 5 (by kernel_rfl))))
   have hc : w'.cell? ⟨w.heap.size + 1 + 1 + 1, 1, none⟩ = some (.int .i64 d1) := (blk_cell Bx7 1).trans rfl
   have HR := Aside0.mk hR
   clear hR ha hF
   refine value_ (w1 := w') (v := .int .i64 d1) (by rfl) rfl ?_ ?_
   ·go_simp
    (try simp only [i64_w])
    try rfl
   exact hK.out _ _ (step_ 6 HR.out rfl rfl hb_ (Below.refl _ _) hG rfl (fun h => by cases h) (fun _ => HH) rfl)
  refine steps_cons ?_ ?_
  ·rintro b a w' ⟨ms, hR⟩ hb_ hon hoff
   obtain ⟨ha, hF, hD, hG, _⟩ := id hR
   have hG1 := hG
   rw [hGd] at hG1
   obtain ⟨HBl, HSz, Bx4, Bx5, Bx6, Bx7⟩ := hG1
   have HH := True.intro
   refine ⟨_, rfl, fun K hK => ?_⟩
   have e4 : a.tmps[4]? = some (.pointer (some ⟨w.heap.size, 0, none⟩)) := (off_ ha rfl).trans rfl
   have HR := Aside0.mk hR
   clear hR ha hF
   refine value_ (w1 := w') (v := .pointer (some ⟨w.heap.size, 1, none⟩)) (by rfl) rfl ?_ ?_
   ·go_simp
    try rfl
   exact hK.out _ _ (step_ 7 HR.out rfl rfl hb_ (Below.refl _ _) hG rfl (fun h => by cases h) (fun _ => HH) rfl)
  refine steps_cons ?_ ?_
  ·rintro b a w' ⟨ms, hR⟩ hb_ hon hoff
   obtain ⟨ha, hF, hD, hG, _⟩ := id hR
   have hG1 := hG
   rw [hGd] at hG1
   obtain ⟨HBl, HSz, Bx4, Bx5, Bx6, Bx7⟩ := hG1
   have HH := True.intro
   refine ⟨_, rfl, fun K hK => ?_⟩
   have e41 : a.tmps[41]? = some (.pointer (some ⟨w.heap.size, 1, none⟩)) := (on_ 7 ha rfl (hon 7 (by kernel_rfl)) rfl).trans (congrArg some (hF 7 (hon 7 (by kernel_rfl))))
   have hc : w'.cell? ⟨w.heap.size, 1, none⟩ = some (.int .i64 a1) := (blk_cell Bx4 1).trans rfl
   have HR := Aside0.mk hR
   clear hR ha hF
   refine value_ (w1 := w') (v := .int .i64 a1) (by rfl) rfl ?_ ?_
   ·go_simp
    (try simp only [i64_w])
    try rfl
   exact hK.out _ _ (step_ 8 HR.out rfl rfl hb_ (Below.refl _ _) hG rfl (fun h => by cases h) (fun _ => HH) rfl)
  refine steps_cons ?_ ?_
  ·rintro b a w' ⟨ms, hR⟩ hb_ hon hoff
   obtain ⟨ha, hF, hD, hG, _⟩ := id hR
   have hG1 := hG
   rw [hGd] at hG1
   obtain ⟨HBl, HSz, Bx4, Bx5, Bx6, Bx7⟩ := hG1
   have HH := True.intro
   refine ⟨_, rfl, fun K hK => ?_⟩
   have e40 : a.tmps[40]? = some (.int .i64 d1) := (on_ 6 ha rfl (hon 6 (by kernel_rfl)) rfl).trans (congrArg some (hF 6 (hon 6 (by kernel_rfl))))
   have e42 : a.tmps[42]? = some (.int .i64 a1) := (on_ 8 ha rfl (hon 8 (by kernel_rfl)) rfl).trans (congrArg some (hF 8 (hon 8 (by kernel_rfl))))
   refine goes_ Try.func31 (by kernel_rfl) rfl #[.int .i64 d1, .int .i64 a1] (by rfl) rfl rfl (by first | (simp only [List.map_toArray, List.map_cons, List.map_nil, Act.eval, Array.getD_eq_getD_getElem?, Option.getD_some, e40, e42]; done) | (simp only [List.map_toArray, List.map_cons, List.map_nil, Act.eval, Array.getD_eq_getD_getElem?, Option.getD_some, e40, e42]; rfl)) ?_
   with_reducible refine (diff_c d1 a1 h_d1 h_a1 _).mono ?_
   rintro e w1 ⟨r, rfl, hN, hb⟩
   exact ⟨_, rfl, hK.out _ _ (step_ 9 hR rfl rfl hb_ hb (GM _ _ hG hb) hN (fun h => by cases h) (fun _ => HM _ _ HH hb) rfl)⟩
  refine steps_cons ?_ ?_
  ·rintro b a w' ⟨ms, hR⟩ hb_ hon hoff
   obtain ⟨ha, hF, hD, hG, _⟩ := id hR
   have hG1 := hG
   rw [hGd] at hG1
   obtain ⟨HBl, HSz, Bx4, Bx5, Bx6, Bx7⟩ := hG1
   have HH := True.intro
   refine ⟨_, rfl, fun K hK => ?_⟩
   have e7 : a.tmps[7]? = some (.pointer (some ⟨w.heap.size + 1 + 1 + 1, 0, none⟩)) := (off_ ha rfl).trans rfl
   have HR := Aside0.mk hR
   clear hR ha hF
   refine value_ (w1 := w') (v := .pointer (some ⟨w.heap.size + 1 + 1 + 1, 0, none⟩)) (by rfl) rfl ?_ ?_
   ·go_simp
    try rfl
   exact hK.out _ _ (step_ 10 HR.out rfl rfl hb_ (Below.refl _ _) hG rfl (fun h => by cases h) (fun _ => HH) rfl)
  refine steps_cons ?_ ?_
  ·rintro b a w' ⟨ms, hR⟩ hb_ hon hoff
   obtain ⟨ha, hF, hD, hG, _⟩ := id hR
   have hG1 := hG
   rw [hGd] at hG1
   obtain ⟨HBl, HSz, Bx4, Bx5, Bx6, Bx7⟩ := hG1
   have HH := True.intro
   refine ⟨_, rfl, fun K hK => ?_⟩
   have e44 : a.tmps[44]? = some (.pointer (some ⟨w.heap.size + 1 + 1 + 1, 0, none⟩)) := (on_ 10 ha rfl (hon 10 (by kernel_rfl)) rfl).trans (congrArg some (hF 10 (hon 10 (by kernel_rfl))))
   have hc : w'.cell? ⟨w.heap.size + 1 + 1 + 1, 0, none⟩ = some (.int .i64 d0) := (blk_cell Bx7 0).trans rfl
   have HR := Aside0.mk hR
   clear hR ha hF
   refine value_ (w1 := w') (v := .int .i64 d0) (by rfl) rfl ?_ ?_
   ·go_simp
    (try simp only [i64_w])
    try rfl
   exact hK.out _ _ (step_ 11 HR.out rfl rfl hb_ (Below.refl _ _) hG rfl (fun h => by cases h) (fun _ => HH) rfl)
  refine steps_cons ?_ ?_
  ·rintro b a w' ⟨ms, hR⟩ hb_ hon hoff
   obtain ⟨ha, hF, hD, hG, _⟩ := id hR
   have hG1 := hG
   rw [hGd] at hG1
   obtain ⟨HBl, HSz, Bx4, Bx5, Bx6, Bx7⟩ := hG1
   have HH := True.intro
   refine ⟨_, rfl, fun K hK => ?_⟩
   have e5 : a.tmps[5]? = some (.pointer (some ⟨w.heap.size + 1, 0, none⟩)) := (off_ ha rfl).trans rfl
   have HR := Aside0.mk hR
   clear hR ha hF
   refine value_ (w1 := w') (v := .pointer (some ⟨w.heap.size + 1, 0, none⟩)) (by rfl) rfl ?_ ?_
   ·go_simp
    try rfl
   exact hK.out _ _ (step_ 12 HR.out rfl rfl hb_ (Below.refl _ _) hG rfl (fun h => by cases h) (fun _ => HH) rfl)
  refine steps_cons ?_ ?_
  ·rintro b a w' ⟨ms, hR⟩ hb_ hon hoff
   obtain ⟨ha, hF, hD, hG, _⟩ := id hR
   have hG1 := hG
   rw [hGd] at hG1
   obtain ⟨HBl, HSz, Bx4, Bx5, Bx6, Bx7⟩ := hG1
   have HH := True.intro
   refine ⟨_, rfl, fun K hK => ?_⟩
   have e46 : a.tmps[46]? = some (.pointer (some ⟨w.heap.size + 1, 0, none⟩)) := (on_ 12 ha rfl (hon 12 (by kernel_rfl)) rfl).trans (congrArg some (hF 12 (hon 12 (by kernel_rfl))))
   have hc : w'.cell? ⟨w.heap.size + 1, 0, none⟩ = some (.int .i64 b0) := (blk_cell Bx5 0).trans rfl
   have HR := Aside0.mk hR
   clear hR ha hF
   refine value_ (w1 := w') (v := .int .i64 b0) (by rfl) rfl ?_ ?_
   ·go_simp
    (try simp only [i64_w])
    try rfl
   exact hK.out _ _ (step_ 13 HR.out rfl rfl hb_ (Below.refl _ _) hG rfl (fun h => by cases h) (fun _ => HH) rfl)
  refine steps_cons ?_ ?_
  ·rintro b a w' ⟨ms, hR⟩ hb_ hon hoff
   obtain ⟨ha, hF, hD, hG, _⟩ := id hR
   have hG1 := hG
   rw [hGd] at hG1
   obtain ⟨HBl, HSz, Bx4, Bx5, Bx6, Bx7⟩ := hG1
   have HH := True.intro
   refine ⟨_, rfl, fun K hK => ?_⟩
   have e45 : a.tmps[45]? = some (.int .i64 d0) := (on_ 11 ha rfl (hon 11 (by kernel_rfl)) rfl).trans (congrArg some (hF 11 (hon 11 (by kernel_rfl))))
   have e47 : a.tmps[47]? = some (.int .i64 b0) := (on_ 13 ha rfl (hon 13 (by kernel_rfl)) rfl).trans (congrArg some (hF 13 (hon 13 (by kernel_rfl))))
   refine goes_ Try.func31 (by kernel_rfl) rfl #[.int .i64 d0, .int .i64 b0] (by rfl) rfl rfl (by first | (simp only [List.map_toArray, List.map_cons, List.map_nil, Act.eval, Array.getD_eq_getD_getElem?, Option.getD_some, e45, e47]; done) | (simp only [List.map_toArray, List.map_cons, List.map_nil, Act.eval, Array.getD_eq_getD_getElem?, Option.getD_some, e45, e47]; rfl)) ?_
   with_reducible refine (diff_c d0 b0 h_d0 h_b0 _).mono ?_
   rintro e w1 ⟨r, rfl, hN, hb⟩
   exact ⟨_, rfl, hK.out _ _ (step_ 14 hR rfl rfl hb_ hb (GM _ _ hG hb) hN (fun h => by cases h) (fun _ => HM _ _ HH hb) rfl)⟩
  refine steps_cons ?_ ?_
  ·rintro b a w' ⟨ms, hR⟩ hb_ hon hoff
   obtain ⟨ha, hF, hD, hG, _⟩ := id hR
   have hG1 := hG
   rw [hGd] at hG1
   obtain ⟨HBl, HSz, Bx4, Bx5, Bx6, Bx7⟩ := hG1
   have HH := True.intro
   refine ⟨_, rfl, fun K hK => ?_⟩
   have e7 : a.tmps[7]? = some (.pointer (some ⟨w.heap.size + 1 + 1 + 1, 0, none⟩)) := (off_ ha rfl).trans rfl
   have HR := Aside0.mk hR
   clear hR ha hF
   refine value_ (w1 := w') (v := .pointer (some ⟨w.heap.size + 1 + 1 + 1, 1, none⟩)) (by rfl) rfl ?_ ?_
   ·go_simp
    try rfl
   exact hK.out _ _ (step_ 15 HR.out rfl rfl hb_ (Below.refl _ _) hG rfl (fun h => by cases h) (fun _ => HH) rfl)
  refine steps_cons ?_ ?_
  ·rintro b a w' ⟨ms, hR⟩ hb_ hon hoff
   obtain ⟨ha, hF, hD, hG, _⟩ := id hR
   have hG1 := hG
   rw [hGd] at hG1
   obtain ⟨HBl, HSz, Bx4, Bx5, Bx6, Bx7⟩ := hG1
   have HH := True.intro
   refine ⟨_, rfl, fun K hK => ?_⟩
   have e49 : a.tmps[49]? = some (.pointer (some ⟨w.heap.size + 1 + 1 + 1, 1, none⟩)) := (on_ 15 ha rfl (hon 15 (by kernel_rfl)) rfl).trans (congrArg some (hF 15 (hon 15 (by kernel_rfl))))
   have hc : w'.cell? ⟨w.heap.size + 1 + 1 + 1, 1, none⟩ = some (.int .i64 d1) := (blk_cell Bx7 1).trans rfl
   have HR := Aside0.mk hR
   clear hR ha hF
   refine value_ (w1 := w') (v := .int .i64 d1) (by rfl) rfl ?_ ?_
   ·go_simp
    (try simp only [i64_w])
    try rfl
   exact hK.out _ _ (step_ 16 HR.out rfl rfl hb_ (Below.refl _ _) hG rfl (fun h => by cases h) (fun _ => HH) rfl)
  refine steps_cons ?_ ?_
  ·rintro b a w' ⟨ms, hR⟩ hb_ hon hoff
   obtain ⟨ha, hF, hD, hG, _⟩ := id hR
   have hG1 := hG
   rw [hGd] at hG1
   obtain ⟨HBl, HSz, Bx4, Bx5, Bx6, Bx7⟩ := hG1
   have HH := True.intro
   refine ⟨_, rfl, fun K hK => ?_⟩
   have e5 : a.tmps[5]? = some (.pointer (some ⟨w.heap.size + 1, 0, none⟩)) := (off_ ha rfl).trans rfl
   have HR := Aside0.mk hR
   clear hR ha hF
   refine value_ (w1 := w') (v := .pointer (some ⟨w.heap.size + 1, 1, none⟩)) (by rfl) rfl ?_ ?_
   ·go_simp
    try rfl
   exact hK.out _ _ (step_ 17 HR.out rfl rfl hb_ (Below.refl _ _) hG rfl (fun h => by cases h) (fun _ => HH) rfl)
  refine steps_cons ?_ ?_
  ·rintro b a w' ⟨ms, hR⟩ hb_ hon hoff
   obtain ⟨ha, hF, hD, hG, _⟩ := id hR
   have hG1 := hG
   rw [hGd] at hG1
   obtain ⟨HBl, HSz, Bx4, Bx5, Bx6, Bx7⟩ := hG1
   have HH := True.intro
   refine ⟨_, rfl, fun K hK => ?_⟩
   have e51 : a.tmps[51]? = some (.pointer (some ⟨w.heap.size + 1, 1, none⟩)) := (on_ 17 ha rfl (hon 17 (by kernel_rfl)) rfl).trans (congrArg some (hF 17 (hon 17 (by kernel_rfl))))
   have hc : w'.cell? ⟨w.heap.size + 1, 1, none⟩ = some (.int .i64 b1) := (blk_cell Bx5 1).trans rfl
   have HR := Aside0.mk hR
   clear hR ha hF
   refine value_ (w1 := w') (v := .int .i64 b1) (by rfl) rfl ?_ ?_
   ·go_simp
    (try simp only [i64_w])
    try rfl
   exact hK.out _ _ (step_ 18 HR.out rfl rfl hb_ (Below.refl _ _) hG rfl (fun h => by cases h) (fun _ => HH) rfl)
  refine steps_cons ?_ ?_
  ·rintro b a w' ⟨ms, hR⟩ hb_ hon hoff
   obtain ⟨ha, hF, hD, hG, _⟩ := id hR
   have hG1 := hG
   rw [hGd] at hG1
   obtain ⟨HBl, HSz, Bx4, Bx5, Bx6, Bx7⟩ := hG1
   have HH := True.intro
   refine ⟨_, rfl, fun K hK => ?_⟩
   have e50 : a.tmps[50]? = some (.int .i64 d1) := (on_ 16 ha rfl (hon 16 (by kernel_rfl)) rfl).trans (congrArg some (hF 16 (hon 16 (by kernel_rfl))))
   have e52 : a.tmps[52]? = some (.int .i64 b1) := (on_ 18 ha rfl (hon 18 (by kernel_rfl)) rfl).trans (congrArg some (hF 18 (hon 18 (by kernel_rfl))))
   refine goes_ Try.func31 (by kernel_rfl) rfl #[.int .i64 d1, .int .i64 b1] (by rfl) rfl rfl (by first | (simp only [List.map_toArray, List.map_cons, List.map_nil, Act.eval, Array.getD_eq_getD_getElem?, Option.getD_some, e50, e52]; done) | (simp only [List.map_toArray, List.map_cons, List.map_nil, Act.eval, Array.getD_eq_getD_getElem?, Option.getD_some, e50, e52]; rfl)) ?_
   with_reducible refine (diff_c d1 b1 h_d1 h_b1 _).mono ?_
   rintro e w1 ⟨r, rfl, hN, hb⟩
   exact ⟨_, rfl, hK.out _ _ (step_ 19 hR rfl rfl hb_ hb (GM _ _ hG hb) hN (fun h => by cases h) (fun _ => HM _ _ HH hb) rfl)⟩
  refine steps_cons ?_ ?_
  ·rintro b a w' ⟨ms, hR⟩ hb_ hon hoff
   obtain ⟨ha, hF, hD, hG, _⟩ := id hR
   have hG1 := hG
   rw [hGd] at hG1
   obtain ⟨HBl, HSz, Bx4, Bx5, Bx6, Bx7⟩ := hG1
   have HH := True.intro
   refine ⟨_, rfl, fun K hK => ?_⟩
   have e7 : a.tmps[7]? = some (.pointer (some ⟨w.heap.size + 1 + 1 + 1, 0, none⟩)) := (off_ ha rfl).trans rfl
   have HR := Aside0.mk hR
   clear hR ha hF
   refine value_ (w1 := w') (v := .pointer (some ⟨w.heap.size + 1 + 1 + 1, 0, none⟩)) (by rfl) rfl ?_ ?_
   ·go_simp
    try rfl
   exact hK.out _ _ (step_ 20 HR.out rfl rfl hb_ (Below.refl _ _) hG rfl (fun h => by cases h) (fun _ => HH) rfl)
  refine steps_cons ?_ ?_
  ·rintro b a w' ⟨ms, hR⟩ hb_ hon hoff
   obtain ⟨ha, hF, hD, hG, _⟩ := id hR
   have hG1 := hG
   rw [hGd] at hG1
   obtain ⟨HBl, HSz, Bx4, Bx5, Bx6, Bx7⟩ := hG1
   have HH := True.intro
   refine ⟨_, rfl, fun K hK => ?_⟩
   have e54 : a.tmps[54]? = some (.pointer (some ⟨w.heap.size + 1 + 1 + 1, 0, none⟩)) := (on_ 20 ha rfl (hon 20 (by kernel_rfl)) rfl).trans (congrArg some (hF 20 (hon 20 (by kernel_rfl))))
   have hc : w'.cell? ⟨w.heap.size + 1 + 1 + 1, 0, none⟩ = some (.int .i64 d0) := (blk_cell Bx7 0).trans rfl
   have HR := Aside0.mk hR
   clear hR ha hF
   refine value_ (w1 := w') (v := .int .i64 d0) (by rfl) rfl ?_ ?_
   ·go_simp
    (try simp only [i64_w])
    try rfl
   exact hK.out _ _ (step_ 21 HR.out rfl rfl hb_ (Below.refl _ _) hG rfl (fun h => by cases h) (fun _ => HH) rfl)
  refine steps_cons ?_ ?_
  ·rintro b a w' ⟨ms, hR⟩ hb_ hon hoff
   obtain ⟨ha, hF, hD, hG, _⟩ := id hR
   have hG1 := hG
   rw [hGd] at hG1
   obtain ⟨HBl, HSz, Bx4, Bx5, Bx6, Bx7⟩ := hG1
   have HH := True.intro
   refine ⟨_, rfl, fun K hK => ?_⟩
   have e6 : a.tmps[6]? = some (.pointer (some ⟨w.heap.size + 1 + 1, 0, none⟩)) := (off_ ha rfl).trans rfl
   have HR := Aside0.mk hR
   clear hR ha hF
   refine value_ (w1 := w') (v := .pointer (some ⟨w.heap.size + 1 + 1, 0, none⟩)) (by rfl) rfl ?_ ?_
   ·go_simp
    try rfl
   exact hK.out _ _ (step_ 22 HR.out rfl rfl hb_ (Below.refl _ _) hG rfl (fun h => by cases h) (fun _ => HH) rfl)
  refine steps_cons ?_ ?_
  ·rintro b a w' ⟨ms, hR⟩ hb_ hon hoff
   obtain ⟨ha, hF, hD, hG, _⟩ := id hR
   have hG1 := hG
   rw [hGd] at hG1
   obtain ⟨HBl, HSz, Bx4, Bx5, Bx6, Bx7⟩ := hG1
   have HH := True.intro
   refine ⟨_, rfl, fun K hK => ?_⟩
   have e56 : a.tmps[56]? = some (.pointer (some ⟨w.heap.size + 1 + 1, 0, none⟩)) := (on_ 22 ha rfl (hon 22 (by kernel_rfl)) rfl).trans (congrArg some (hF 22 (hon 22 (by kernel_rfl))))
   have hc : w'.cell? ⟨w.heap.size + 1 + 1, 0, none⟩ = some (.int .i64 c0) := (blk_cell Bx6 0).trans rfl
   have HR := Aside0.mk hR
   clear hR ha hF
   refine value_ (w1 := w') (v := .int .i64 c0) (by rfl) rfl ?_ ?_
   ·go_simp
    (try simp only [i64_w])
    try rfl
   exact hK.out _ _ (step_ 23 HR.out rfl rfl hb_ (Below.refl _ _) hG rfl (fun h => by cases h) (fun _ => HH) rfl)
  refine steps_cons ?_ ?_
  ·rintro b a w' ⟨ms, hR⟩ hb_ hon hoff
   obtain ⟨ha, hF, hD, hG, _⟩ := id hR
   have hG1 := hG
   rw [hGd] at hG1
   obtain ⟨HBl, HSz, Bx4, Bx5, Bx6, Bx7⟩ := hG1
   have HH := True.intro
   refine ⟨_, rfl, fun K hK => ?_⟩
   have e55 : a.tmps[55]? = some (.int .i64 d0) := (on_ 21 ha rfl (hon 21 (by kernel_rfl)) rfl).trans (congrArg some (hF 21 (hon 21 (by kernel_rfl))))
   have e57 : a.tmps[57]? = some (.int .i64 c0) := (on_ 23 ha rfl (hon 23 (by kernel_rfl)) rfl).trans (congrArg some (hF 23 (hon 23 (by kernel_rfl))))
   refine goes_ Try.func31 (by kernel_rfl) rfl #[.int .i64 d0, .int .i64 c0] (by rfl) rfl rfl (by first | (simp only [List.map_toArray, List.map_cons, List.map_nil, Act.eval, Array.getD_eq_getD_getElem?, Option.getD_some, e55, e57]; done) | (simp only [List.map_toArray, List.map_cons, List.map_nil, Act.eval, Array.getD_eq_getD_getElem?, Option.getD_some, e55, e57]; rfl)) ?_
   with_reducible refine (diff_c d0 c0 h_d0 h_c0 _).mono ?_
   rintro e w1 ⟨r, rfl, hN, hb⟩
   exact ⟨_, rfl, hK.out _ _ (step_ 24 hR rfl rfl hb_ hb (GM _ _ hG hb) hN (fun h => by cases h) (fun _ => HM _ _ HH hb) rfl)⟩
  refine steps_cons ?_ ?_
  ·rintro b a w' ⟨ms, hR⟩ hb_ hon hoff
   obtain ⟨ha, hF, hD, hG, _⟩ := id hR
   have hG1 := hG
   rw [hGd] at hG1
   obtain ⟨HBl, HSz, Bx4, Bx5, Bx6, Bx7⟩ := hG1
   have HH := True.intro
   refine ⟨_, rfl, fun K hK => ?_⟩
   have e7 : a.tmps[7]? = some (.pointer (some ⟨w.heap.size + 1 + 1 + 1, 0, none⟩)) := (off_ ha rfl).trans rfl
   have HR := Aside0.mk hR
   clear hR ha hF
   refine value_ (w1 := w') (v := .pointer (some ⟨w.heap.size + 1 + 1 + 1, 1, none⟩)) (by rfl) rfl ?_ ?_
   ·go_simp
    try rfl
   exact hK.out _ _ (step_ 25 HR.out rfl rfl hb_ (Below.refl _ _) hG rfl (fun h => by cases h) (fun _ => HH) rfl)
  refine steps_cons ?_ ?_
  ·rintro b a w' ⟨ms, hR⟩ hb_ hon hoff
   obtain ⟨ha, hF, hD, hG, _⟩ := id hR
   have hG1 := hG
   rw [hGd] at hG1
   obtain ⟨HBl, HSz, Bx4, Bx5, Bx6, Bx7⟩ := hG1
   have HH := True.intro
   refine ⟨_, rfl, fun K hK => ?_⟩
   have e59 : a.tmps[59]? = some (.pointer (some ⟨w.heap.size + 1 + 1 + 1, 1, none⟩)) := (on_ 25 ha rfl (hon 25 (by kernel_rfl)) rfl).trans (congrArg some (hF 25 (hon 25 (by kernel_rfl))))
   have hc : w'.cell? ⟨w.heap.size + 1 + 1 + 1, 1, none⟩ = some (.int .i64 d1) := (blk_cell Bx7 1).trans rfl
   have HR := Aside0.mk hR
   clear hR ha hF
   refine value_ (w1 := w') (v := .int .i64 d1) (by rfl) rfl ?_ ?_
   ·go_simp
    (try simp only [i64_w])
    try rfl
   exact hK.out _ _ (step_ 26 HR.out rfl rfl hb_ (Below.refl _ _) hG rfl (fun h => by cases h) (fun _ => HH) rfl)
  refine steps_cons ?_ ?_
  ·rintro b a w' ⟨ms, hR⟩ hb_ hon hoff
   obtain ⟨ha, hF, hD, hG, _⟩ := id hR
   have hG1 := hG
   rw [hGd] at hG1
   obtain ⟨HBl, HSz, Bx4, Bx5, Bx6, Bx7⟩ := hG1
   have HH := True.intro
   refine ⟨_, rfl, fun K hK => ?_⟩
   have e6 : a.tmps[6]? = some (.pointer (some ⟨w.heap.size + 1 + 1, 0, none⟩)) := (off_ ha rfl).trans rfl
   have HR := Aside0.mk hR
   clear hR ha hF
   refine value_ (w1 := w') (v := .pointer (some ⟨w.heap.size + 1 + 1, 1, none⟩)) (by rfl) rfl ?_ ?_
   ·go_simp
    try rfl
   exact hK.out _ _ (step_ 27 HR.out rfl rfl hb_ (Below.refl _ _) hG rfl (fun h => by cases h) (fun _ => HH) rfl)
  refine steps_cons ?_ ?_
  ·rintro b a w' ⟨ms, hR⟩ hb_ hon hoff
   obtain ⟨ha, hF, hD, hG, _⟩ := id hR
   have hG1 := hG
   rw [hGd] at hG1
   obtain ⟨HBl, HSz, Bx4, Bx5, Bx6, Bx7⟩ := hG1
   have HH := True.intro
   refine ⟨_, rfl, fun K hK => ?_⟩
   have e61 : a.tmps[61]? = some (.pointer (some ⟨w.heap.size + 1 + 1, 1, none⟩)) := (on_ 27 ha rfl (hon 27 (by kernel_rfl)) rfl).trans (congrArg some (hF 27 (hon 27 (by kernel_rfl))))
   have hc : w'.cell? ⟨w.heap.size + 1 + 1, 1, none⟩ = some (.int .i64 c1) := (blk_cell Bx6 1).trans rfl
   have HR := Aside0.mk hR
   clear hR ha hF
   refine value_ (w1 := w') (v := .int .i64 c1) (by rfl) rfl ?_ ?_
   ·go_simp
    (try simp only [i64_w])
    try rfl
   exact hK.out _ _ (step_ 28 HR.out rfl rfl hb_ (Below.refl _ _) hG rfl (fun h => by cases h) (fun _ => HH) rfl)
  refine steps_cons ?_ ?_
  ·rintro b a w' ⟨ms, hR⟩ hb_ hon hoff
   obtain ⟨ha, hF, hD, hG, _⟩ := id hR
   have hG1 := hG
   rw [hGd] at hG1
   obtain ⟨HBl, HSz, Bx4, Bx5, Bx6, Bx7⟩ := hG1
   have HH := True.intro
   refine ⟨_, rfl, fun K hK => ?_⟩
   have e60 : a.tmps[60]? = some (.int .i64 d1) := (on_ 26 ha rfl (hon 26 (by kernel_rfl)) rfl).trans (congrArg some (hF 26 (hon 26 (by kernel_rfl))))
   have e62 : a.tmps[62]? = some (.int .i64 c1) := (on_ 28 ha rfl (hon 28 (by kernel_rfl)) rfl).trans (congrArg some (hF 28 (hon 28 (by kernel_rfl))))
   refine goes_ Try.func31 (by kernel_rfl) rfl #[.int .i64 d1, .int .i64 c1] (by rfl) rfl rfl (by first | (simp only [List.map_toArray, List.map_cons, List.map_nil, Act.eval, Array.getD_eq_getD_getElem?, Option.getD_some, e60, e62]; done) | (simp only [List.map_toArray, List.map_cons, List.map_nil, Act.eval, Array.getD_eq_getD_getElem?, Option.getD_some, e60, e62]; rfl)) ?_
   with_reducible refine (diff_c d1 c1 h_d1 h_c1 _).mono ?_
   rintro e w1 ⟨r, rfl, hN, hb⟩
   exact ⟨_, rfl, hK.out _ _ (step_ 29 hR rfl rfl hb_ hb (GM _ _ hG hb) hN (fun h => by cases h) (fun _ => HM _ _ HH hb) rfl)⟩
  refine steps_cons ?_ ?_
  ·rintro b a w' ⟨ms, hR⟩ hb_ hon hoff
   obtain ⟨ha, hF, hD, hG, _⟩ := id hR
   have hG1 := hG
   rw [hGd] at hG1
   obtain ⟨HBl, HSz, Bx4, Bx5, Bx6, Bx7⟩ := hG1
   have HH := True.intro
   refine ⟨_, rfl, fun K hK => ?_⟩
   refine box_step ?hg (N := 9) ?hd (cs := #[.int .i64 0, .slice none 0 0]) (t := 42) ?hr ?_; (case hd => rfl); (case hg => rfl); (case hr => first | (go_simp; done) | (go_simp; rfl))
   intro g hg w1 hbox hb
   exact hK.out _ _ (step_ 30 hR rfl rfl hb_ hb (GM _ _ hG hb) ⟨g, _, _, rfl, by rw [hg]; exact HSz, hbox⟩ (fun _ => by rw [hg]) (fun _ => HM _ _ HH hb) rfl)
  refine steps_cons ?_ ?_
  ·rintro b a w' ⟨ms, hR⟩ hb_ hon hoff
   obtain ⟨ha, hF, hD, hG, _⟩ := id hR
   have hG1 := hG
   rw [hGd] at hG1
   obtain ⟨HBl, HSz, Bx4, Bx5, Bx6, Bx7⟩ := hG1
   have HH := True.intro
   refine ⟨_, rfl, fun K hK => ?_⟩
   refine box_step ?hg (N := 10) ?hd (cs := #[.int .i64 0, .slice none 0 0]) (t := 42) ?hr ?_; (case hd => rfl); (case hg => rfl); (case hr => first | (go_simp; done) | (go_simp; rfl))
   intro g hg w1 hbox hb
   exact hK.out _ _ (step_ 31 hR rfl rfl hb_ hb (GM _ _ hG hb) ⟨g, _, _, rfl, by rw [hg]; exact HSz, hbox⟩ (fun _ => by rw [hg]) (fun _ => HM _ _ HH hb) rfl)
  refine steps_cons ?_ ?_
  ·rintro b a w' ⟨ms, hR⟩ hb_ hon hoff
   obtain ⟨ha, hF, hD, hG, _⟩ := id hR
   have hG1 := hG
   rw [hGd] at hG1
   obtain ⟨HBl, HSz, Bx4, Bx5, Bx6, Bx7⟩ := hG1
   have HH := True.intro
   refine ⟨_, rfl, fun K hK => ?_⟩
   refine box_step ?hg (N := 11) ?hd (cs := #[.int .i64 0, .slice none 0 0]) (t := 42) ?hr ?_; (case hd => rfl); (case hg => rfl); (case hr => first | (go_simp; done) | (go_simp; rfl))
   intro g hg w1 hbox hb
   exact hK.out _ _ (step_ 32 hR rfl rfl hb_ hb (GM _ _ hG hb) ⟨g, _, _, rfl, by rw [hg]; exact HSz, hbox⟩ (fun _ => by rw [hg]) (fun _ => HM _ _ HH hb) rfl)
  refine steps_cons ?_ ?_
  ·rintro b a w' ⟨ms, hR⟩ hb_ hon hoff
   obtain ⟨ha, hF, hD, hG, _⟩ := id hR
   have hG1 := hG
   rw [hGd] at hG1
   obtain ⟨HBl, HSz, Bx4, Bx5, Bx6, Bx7⟩ := hG1
   have HH := True.intro
   refine ⟨_, rfl, fun K hK => ?_⟩
   refine box_step ?hg (N := 12) ?hd (cs := #[.int .i64 0, .slice none 0 0]) (t := 42) ?hr ?_; (case hd => rfl); (case hg => rfl); (case hr => first | (go_simp; done) | (go_simp; rfl))
   intro g hg w1 hbox hb
   exact hK.out _ _ (step_ 33 hR rfl rfl hb_ hb (GM _ _ hG hb) ⟨g, _, _, rfl, by rw [hg]; exact HSz, hbox⟩ (fun _ => by rw [hg]) (fun _ => HM _ _ HH hb) rfl)
  refine steps_cons ?_ ?_
  ·rintro b a w' ⟨ms, hR⟩ hb_ hon hoff
   obtain ⟨ha, hF, hD, hG, _⟩ := id hR
   have hG1 := hG
   rw [hGd] at hG1
   obtain ⟨HBl, HSz, Bx4, Bx5, Bx6, Bx7⟩ := hG1
   have HH := True.intro
   refine ⟨_, rfl, fun K hK => ?_⟩
   refine box_step ?hg (N := 13) ?hd (cs := #[.int .i64 0, .slice none 0 0]) (t := 42) ?hr ?_; (case hd => rfl); (case hg => rfl); (case hr => first | (go_simp; done) | (go_simp; rfl))
   intro g hg w1 hbox hb
   exact hK.out _ _ (step_ 34 hR rfl rfl hb_ hb (GM _ _ hG hb) ⟨g, _, _, rfl, by rw [hg]; exact HSz, hbox⟩ (fun _ => by rw [hg]) (fun _ => HM _ _ HH hb) rfl)
  refine steps_cons ?_ ?_
  ·rintro b a w' ⟨ms, hR⟩ hb_ hon hoff
   obtain ⟨ha, hF, hD, hG, _⟩ := id hR
   have hG1 := hG
   rw [hGd] at hG1
   obtain ⟨HBl, HSz, Bx4, Bx5, Bx6, Bx7⟩ := hG1
   have HH := True.intro
   refine ⟨_, rfl, fun K hK => ?_⟩
   refine box_step ?hg (N := 14) ?hd (cs := #[.int .i64 0, .slice none 0 0]) (t := 42) ?hr ?_; (case hd => rfl); (case hg => rfl); (case hr => first | (go_simp; done) | (go_simp; rfl))
   intro g hg w1 hbox hb
   exact hK.out _ _ (step_ 35 hR rfl rfl hb_ hb (GM _ _ hG hb) ⟨g, _, _, rfl, by rw [hg]; exact HSz, hbox⟩ (fun _ => by rw [hg]) (fun _ => HM _ _ HH hb) rfl)
  refine steps_cons ?_ ?_
  ·rintro b a w' ⟨ms, hR⟩ hb_ hon hoff
   obtain ⟨ha, hF, hD, hG, _⟩ := id hR
   have hG1 := hG
   rw [hGd] at hG1
   obtain ⟨HBl, HSz, Bx4, Bx5, Bx6, Bx7⟩ := hG1
   have HH := True.intro
   refine ⟨_, rfl, fun K hK => ?_⟩
   have hn := hF 4 (hon 4 (by kernel_rfl))
   obtain ⟨sz, Az, lz, cz, ev⟩ := NI.shape hn
   have e38 : a.tmps[38]? = some (.agg #[.int .i64 sz, .slice Az lz cz]) := (on_ 4 ha rfl (hon 4 (by kernel_rfl)) rfl).trans (congrArg some ev)
   obtain ⟨g, x0, y0, eg, hgK, hgh⟩ := hF 30 (hon 30 (by kernel_rfl))
   replace hgK : w.heap.size + 1 + 1 + 1 + 1 ≤ g := hgK
   have e9 : a.tmps[9]? = some (.pointer (some ⟨g, 0, none⟩)) := (on_ 30 ha rfl (hon 30 (by kernel_rfl)) rfl).trans (congrArg some eg)
   have h0 : w'.cell? ⟨g, 0, none⟩ = some x0 := (blk_cell hgh 0).trans rfl
   have h1 : w'.cell? ⟨g, 1, none⟩ = some y0 := (blk_cell hgh 1).trans rfl
   have f0 := blk_frozen hgh 0
   have f1 := blk_frozen hgh 1
   have HR := Aside0.mk hR
   clear hR ha
   refine skip_ (w1 := ?_) (by rfl) rfl ?_ ?_
   rotate_left
   ·go_simp
    rfl
   exact hK.out _ _ (put_ HR.out rfl rfl hb_ rfl rfl (hon 30 (by kernel_rfl)) (hon 4 (by kernel_rfl)) rfl eg ev (GS _ g _ _ _ _ hG hgh (by omega) (fun h => by omega)) (fun _ => HH) rfl)
  refine steps_cons ?_ ?_
  ·rintro b a w' ⟨ms, hR⟩ hb_ hon hoff
   obtain ⟨ha, hF, hD, hG, _⟩ := id hR
   have hG1 := hG
   rw [hGd] at hG1
   obtain ⟨HBl, HSz, Bx4, Bx5, Bx6, Bx7⟩ := hG1
   have HH := True.intro
   refine ⟨_, rfl, fun K hK => ?_⟩
   have hn := hF 9 (hon 9 (by kernel_rfl))
   obtain ⟨sz, Az, lz, cz, ev⟩ := NI.shape hn
   have e43 : a.tmps[43]? = some (.agg #[.int .i64 sz, .slice Az lz cz]) := (on_ 9 ha rfl (hon 9 (by kernel_rfl)) rfl).trans (congrArg some ev)
   obtain ⟨g, x0, y0, eg, hgK, hgh⟩ := hF 31 (hon 31 (by kernel_rfl))
   replace hgK : w.heap.size + 1 + 1 + 1 + 1 ≤ g := hgK
   have e10 : a.tmps[10]? = some (.pointer (some ⟨g, 0, none⟩)) := (on_ 31 ha rfl (hon 31 (by kernel_rfl)) rfl).trans (congrArg some eg)
   have h0 : w'.cell? ⟨g, 0, none⟩ = some x0 := (blk_cell hgh 0).trans rfl
   have h1 : w'.cell? ⟨g, 1, none⟩ = some y0 := (blk_cell hgh 1).trans rfl
   have f0 := blk_frozen hgh 0
   have f1 := blk_frozen hgh 1
   have HR := Aside0.mk hR
   clear hR ha
   refine skip_ (w1 := ?_) (by rfl) rfl ?_ ?_
   rotate_left
   ·go_simp
    rfl
   exact hK.out _ _ (put_ HR.out rfl rfl hb_ rfl rfl (hon 31 (by kernel_rfl)) (hon 9 (by kernel_rfl)) rfl eg ev (GS _ g _ _ _ _ hG hgh (by omega) (fun h => by omega)) (fun _ => HH) rfl)
  refine steps_cons ?_ ?_
  ·rintro b a w' ⟨ms, hR⟩ hb_ hon hoff
   obtain ⟨ha, hF, hD, hG, _⟩ := id hR
   have hG1 := hG
   rw [hGd] at hG1
   obtain ⟨HBl, HSz, Bx4, Bx5, Bx6, Bx7⟩ := hG1
   have HH := True.intro
   refine ⟨_, rfl, fun K hK => ?_⟩
   have hn := hF 14 (hon 14 (by kernel_rfl))
   obtain ⟨sz, Az, lz, cz, ev⟩ := NI.shape hn
   have e48 : a.tmps[48]? = some (.agg #[.int .i64 sz, .slice Az lz cz]) := (on_ 14 ha rfl (hon 14 (by kernel_rfl)) rfl).trans (congrArg some ev)
   obtain ⟨g, x0, y0, eg, hgK, hgh⟩ := hF 32 (hon 32 (by kernel_rfl))
   replace hgK : w.heap.size + 1 + 1 + 1 + 1 ≤ g := hgK
   have e11 : a.tmps[11]? = some (.pointer (some ⟨g, 0, none⟩)) := (on_ 32 ha rfl (hon 32 (by kernel_rfl)) rfl).trans (congrArg some eg)
   have h0 : w'.cell? ⟨g, 0, none⟩ = some x0 := (blk_cell hgh 0).trans rfl
   have h1 : w'.cell? ⟨g, 1, none⟩ = some y0 := (blk_cell hgh 1).trans rfl
   have f0 := blk_frozen hgh 0
   have f1 := blk_frozen hgh 1
   have HR := Aside0.mk hR
   clear hR ha
   refine skip_ (w1 := ?_) (by rfl) rfl ?_ ?_
   rotate_left
   ·go_simp
    rfl
   exact hK.out _ _ (put_ HR.out rfl rfl hb_ rfl rfl (hon 32 (by kernel_rfl)) (hon 14 (by kernel_rfl)) rfl eg ev (GS _ g _ _ _ _ hG hgh (by omega) (fun h => by omega)) (fun _ => HH) rfl)
  refine steps_cons ?_ ?_
  ·rintro b a w' ⟨ms, hR⟩ hb_ hon hoff
   obtain ⟨ha, hF, hD, hG, _⟩ := id hR
   have hG1 := hG
   rw [hGd] at hG1
   obtain ⟨HBl, HSz, Bx4, Bx5, Bx6, Bx7⟩ := hG1
   have HH := True.intro
   refine ⟨_, rfl, fun K hK => ?_⟩
   have hn := hF 19 (hon 19 (by kernel_rfl))
   obtain ⟨sz, Az, lz, cz, ev⟩ := NI.shape hn
   have e53 : a.tmps[53]? = some (.agg #[.int .i64 sz, .slice Az lz cz]) := (on_ 19 ha rfl (hon 19 (by kernel_rfl)) rfl).trans (congrArg some ev)
   obtain ⟨g, x0, y0, eg, hgK, hgh⟩ := hF 33 (hon 33 (by kernel_rfl))
   replace hgK : w.heap.size + 1 + 1 + 1 + 1 ≤ g := hgK
   have e12 : a.tmps[12]? = some (.pointer (some ⟨g, 0, none⟩)) := (on_ 33 ha rfl (hon 33 (by kernel_rfl)) rfl).trans (congrArg some eg)
   have h0 : w'.cell? ⟨g, 0, none⟩ = some x0 := (blk_cell hgh 0).trans rfl
   have h1 : w'.cell? ⟨g, 1, none⟩ = some y0 := (blk_cell hgh 1).trans rfl
   have f0 := blk_frozen hgh 0
   have f1 := blk_frozen hgh 1
   have HR := Aside0.mk hR
   clear hR ha
   refine skip_ (w1 := ?_) (by rfl) rfl ?_ ?_
   rotate_left
   ·go_simp
    rfl
   exact hK.out _ _ (put_ HR.out rfl rfl hb_ rfl rfl (hon 33 (by kernel_rfl)) (hon 19 (by kernel_rfl)) rfl eg ev (GS _ g _ _ _ _ hG hgh (by omega) (fun h => by omega)) (fun _ => HH) rfl)
  refine steps_cons ?_ ?_
  ·rintro b a w' ⟨ms, hR⟩ hb_ hon hoff
   obtain ⟨ha, hF, hD, hG, _⟩ := id hR
   have hG1 := hG
   rw [hGd] at hG1
   obtain ⟨HBl, HSz, Bx4, Bx5, Bx6, Bx7⟩ := hG1
   have HH := True.intro
   refine ⟨_, rfl, fun K hK => ?_⟩
   have hn := hF 24 (hon 24 (by kernel_rfl))
   obtain ⟨sz, Az, lz, cz, ev⟩ := NI.shape hn
   have e58 : a.tmps[58]? = some (.agg #[.int .i64 sz, .slice Az lz cz]) := (on_ 24 ha rfl (hon 24 (by kernel_rfl)) rfl).trans (congrArg some ev)
   obtain ⟨g, x0, y0, eg, hgK, hgh⟩ := hF 34 (hon 34 (by kernel_rfl))
   replace hgK : w.heap.size + 1 + 1 + 1 + 1 ≤ g := hgK
   have e13 : a.tmps[13]? = some (.pointer (some ⟨g, 0, none⟩)) := (on_ 34 ha rfl (hon 34 (by kernel_rfl)) rfl).trans (congrArg some eg)
   have h0 : w'.cell? ⟨g, 0, none⟩ = some x0 := (blk_cell hgh 0).trans rfl
   have h1 : w'.cell? ⟨g, 1, none⟩ = some y0 := (blk_cell hgh 1).trans rfl
   have f0 := blk_frozen hgh 0
   have f1 := blk_frozen hgh 1
   have HR := Aside0.mk hR
   clear hR ha
   refine skip_ (w1 := ?_) (by rfl) rfl ?_ ?_
   rotate_left
   ·go_simp
    rfl
   exact hK.out _ _ (put_ HR.out rfl rfl hb_ rfl rfl (hon 34 (by kernel_rfl)) (hon 24 (by kernel_rfl)) rfl eg ev (GS _ g _ _ _ _ hG hgh (by omega) (fun h => by omega)) (fun _ => HH) rfl)
  refine steps_cons ?_ ?_
  ·rintro b a w' ⟨ms, hR⟩ hb_ hon hoff
   obtain ⟨ha, hF, hD, hG, _⟩ := id hR
   have hG1 := hG
   rw [hGd] at hG1
   obtain ⟨HBl, HSz, Bx4, Bx5, Bx6, Bx7⟩ := hG1
   have HH := True.intro
   refine ⟨_, rfl, fun K hK => ?_⟩
   have hn := hF 29 (hon 29 (by kernel_rfl))
   obtain ⟨sz, Az, lz, cz, ev⟩ := NI.shape hn
   have e63 : a.tmps[63]? = some (.agg #[.int .i64 sz, .slice Az lz cz]) := (on_ 29 ha rfl (hon 29 (by kernel_rfl)) rfl).trans (congrArg some ev)
   obtain ⟨g, x0, y0, eg, hgK, hgh⟩ := hF 35 (hon 35 (by kernel_rfl))
   replace hgK : w.heap.size + 1 + 1 + 1 + 1 ≤ g := hgK
   have e14 : a.tmps[14]? = some (.pointer (some ⟨g, 0, none⟩)) := (on_ 35 ha rfl (hon 35 (by kernel_rfl)) rfl).trans (congrArg some eg)
   have h0 : w'.cell? ⟨g, 0, none⟩ = some x0 := (blk_cell hgh 0).trans rfl
   have h1 : w'.cell? ⟨g, 1, none⟩ = some y0 := (blk_cell hgh 1).trans rfl
   have f0 := blk_frozen hgh 0
   have f1 := blk_frozen hgh 1
   have HR := Aside0.mk hR
   clear hR ha
   refine skip_ (w1 := ?_) (by rfl) rfl ?_ ?_
   rotate_left
   ·go_simp
    rfl
   exact hK.out _ _ (put_ HR.out rfl rfl hb_ rfl rfl (hon 35 (by kernel_rfl)) (hon 29 (by kernel_rfl)) rfl eg ev (GS _ g _ _ _ _ hG hgh (by omega) (fun h => by omega)) (fun _ => HH) rfl)
  exact steps_nil
 rintro b a V3 hall ⟨ms, ha, hF, hD, hG, _⟩
 rw [hGd] at hG
 obtain ⟨HBl, HSz, Bx4, Bx5, Bx6, Bx7⟩ := hG
 have bb3_0 := hall 0 (by kernel_rfl)
 have bb3_1 := hall 1 (by kernel_rfl)
 have bb3_2 := hall 2 (by kernel_rfl)
 have bb3_3 := hall 3 (by kernel_rfl)
 have bb3_4 := hall 4 (by kernel_rfl)
 have bb3_5 := hall 5 (by kernel_rfl)
 have bb3_6 := hall 6 (by kernel_rfl)
 have bb3_7 := hall 7 (by kernel_rfl)
 have bb3_8 := hall 8 (by kernel_rfl)
 have bb3_9 := hall 9 (by kernel_rfl)
 have bb3_10 := hall 10 (by kernel_rfl)
 have bb3_11 := hall 11 (by kernel_rfl)
 have bb3_12 := hall 12 (by kernel_rfl)
 have bb3_13 := hall 13 (by kernel_rfl)
 have bb3_14 := hall 14 (by kernel_rfl)
 have bb3_15 := hall 15 (by kernel_rfl)
 have bb3_16 := hall 16 (by kernel_rfl)
 have bb3_17 := hall 17 (by kernel_rfl)
 have bb3_18 := hall 18 (by kernel_rfl)
 have bb3_19 := hall 19 (by kernel_rfl)
 have bb3_20 := hall 20 (by kernel_rfl)
 have bb3_21 := hall 21 (by kernel_rfl)
 have bb3_22 := hall 22 (by kernel_rfl)
 have bb3_23 := hall 23 (by kernel_rfl)
 have bb3_24 := hall 24 (by kernel_rfl)
 have bb3_25 := hall 25 (by kernel_rfl)
 have bb3_26 := hall 26 (by kernel_rfl)
 have bb3_27 := hall 27 (by kernel_rfl)
 have bb3_28 := hall 28 (by kernel_rfl)
 have bb3_29 := hall 29 (by kernel_rfl)
 have bb3_30 := hall 30 (by kernel_rfl)
 have bb3_31 := hall 31 (by kernel_rfl)
 have bb3_32 := hall 32 (by kernel_rfl)
 have bb3_33 := hall 33 (by kernel_rfl)
 have bb3_34 := hall 34 (by kernel_rfl)
 have bb3_35 := hall 35 (by kernel_rfl)
 have bb3_36 := hall 36 (by kernel_rfl)
 have bb3_37 := hall 37 (by kernel_rfl)
 have bb3_38 := hall 38 (by kernel_rfl)
 have bb3_39 := hall 39 (by kernel_rfl)
 have bb3_40 := hall 40 (by kernel_rfl)
 have bb3_41 := hall 41 (by kernel_rfl)
 have m3_0 : ms 0 = .pointer (some ⟨w.heap.size + 1 + 1 + 1, 0, none⟩) := hF 0 bb3_0
 have m3_1 : ms 1 = .int .i64 d0 := hF 1 bb3_1
 have m3_2 : ms 2 = .pointer (some ⟨w.heap.size, 0, none⟩) := hF 2 bb3_2
 have m3_3 : ms 3 = .int .i64 a0 := hF 3 bb3_3
 have m3_4 : NI V3 (ms 4) (a0 - d0) := hF 4 bb3_4
 have m3_5 : ms 5 = .pointer (some ⟨w.heap.size + 1 + 1 + 1, 1, none⟩) := hF 5 bb3_5
 have m3_6 : ms 6 = .int .i64 d1 := hF 6 bb3_6
 have m3_7 : ms 7 = .pointer (some ⟨w.heap.size, 1, none⟩) := hF 7 bb3_7
 have m3_8 : ms 8 = .int .i64 a1 := hF 8 bb3_8
 have m3_9 : NI V3 (ms 9) (a1 - d1) := hF 9 bb3_9
 have m3_10 : ms 10 = .pointer (some ⟨w.heap.size + 1 + 1 + 1, 0, none⟩) := hF 10 bb3_10
 have m3_11 : ms 11 = .int .i64 d0 := hF 11 bb3_11
 have m3_12 : ms 12 = .pointer (some ⟨w.heap.size + 1, 0, none⟩) := hF 12 bb3_12
 have m3_13 : ms 13 = .int .i64 b0 := hF 13 bb3_13
 have m3_14 : NI V3 (ms 14) (b0 - d0) := hF 14 bb3_14
 have m3_15 : ms 15 = .pointer (some ⟨w.heap.size + 1 + 1 + 1, 1, none⟩) := hF 15 bb3_15
 have m3_16 : ms 16 = .int .i64 d1 := hF 16 bb3_16
 have m3_17 : ms 17 = .pointer (some ⟨w.heap.size + 1, 1, none⟩) := hF 17 bb3_17
 have m3_18 : ms 18 = .int .i64 b1 := hF 18 bb3_18
 have m3_19 : NI V3 (ms 19) (b1 - d1) := hF 19 bb3_19
 have m3_20 : ms 20 = .pointer (some ⟨w.heap.size + 1 + 1 + 1, 0, none⟩) := hF 20 bb3_20
 have m3_21 : ms 21 = .int .i64 d0 := hF 21 bb3_21
 have m3_22 : ms 22 = .pointer (some ⟨w.heap.size + 1 + 1, 0, none⟩) := hF 22 bb3_22
 have m3_23 : ms 23 = .int .i64 c0 := hF 23 bb3_23
 have m3_24 : NI V3 (ms 24) (c0 - d0) := hF 24 bb3_24
 have m3_25 : ms 25 = .pointer (some ⟨w.heap.size + 1 + 1 + 1, 1, none⟩) := hF 25 bb3_25
 have m3_26 : ms 26 = .int .i64 d1 := hF 26 bb3_26
 have m3_27 : ms 27 = .pointer (some ⟨w.heap.size + 1 + 1, 1, none⟩) := hF 27 bb3_27
 have m3_28 : ms 28 = .int .i64 c1 := hF 28 bb3_28
 have m3_29 : NI V3 (ms 29) (c1 - d1) := hF 29 bb3_29
 obtain ⟨g3_30, _, _, m3_30, k3_30, _⟩ := hF 30 bb3_30
 replace k3_30 : w.heap.size + 1 + 1 + 1 + 1 ≤ g3_30 := k3_30
 obtain ⟨g3_31, _, _, m3_31, k3_31, _⟩ := hF 31 bb3_31
 replace k3_31 : w.heap.size + 1 + 1 + 1 + 1 ≤ g3_31 := k3_31
 obtain ⟨g3_32, _, _, m3_32, k3_32, _⟩ := hF 32 bb3_32
 replace k3_32 : w.heap.size + 1 + 1 + 1 + 1 ≤ g3_32 := k3_32
 obtain ⟨g3_33, _, _, m3_33, k3_33, _⟩ := hF 33 bb3_33
 replace k3_33 : w.heap.size + 1 + 1 + 1 + 1 ≤ g3_33 := k3_33
 obtain ⟨g3_34, _, _, m3_34, k3_34, _⟩ := hF 34 bb3_34
 replace k3_34 : w.heap.size + 1 + 1 + 1 + 1 ≤ g3_34 := k3_34
 obtain ⟨g3_35, _, _, m3_35, k3_35, _⟩ := hF 35 bb3_35
 replace k3_35 : w.heap.size + 1 + 1 + 1 + 1 ≤ g3_35 := k3_35
 obtain ⟨_, _, _, _, z3_36, x3_36, y3_36, n3_36, e3_36, h3_36⟩ := hF 36 bb3_36
 obtain rfl : g3_30 = z3_36 := by rw [m3_30] at n3_36; injection n3_36 with q; injection q with q; injection q with q
 rw [e3_36] at m3_4
 obtain ⟨_, _, _, _, z3_37, x3_37, y3_37, n3_37, e3_37, h3_37⟩ := hF 37 bb3_37
 obtain rfl : g3_31 = z3_37 := by rw [m3_31] at n3_37; injection n3_37 with q; injection q with q; injection q with q
 rw [e3_37] at m3_9
 obtain ⟨_, _, _, _, z3_38, x3_38, y3_38, n3_38, e3_38, h3_38⟩ := hF 38 bb3_38
 obtain rfl : g3_32 = z3_38 := by rw [m3_32] at n3_38; injection n3_38 with q; injection q with q; injection q with q
 rw [e3_38] at m3_14
 obtain ⟨_, _, _, _, z3_39, x3_39, y3_39, n3_39, e3_39, h3_39⟩ := hF 39 bb3_39
 obtain rfl : g3_33 = z3_39 := by rw [m3_33] at n3_39; injection n3_39 with q; injection q with q; injection q with q
 rw [e3_39] at m3_19
 obtain ⟨_, _, _, _, z3_40, x3_40, y3_40, n3_40, e3_40, h3_40⟩ := hF 40 bb3_40
 obtain rfl : g3_34 = z3_40 := by rw [m3_34] at n3_40; injection n3_40 with q; injection q with q; injection q with q
 rw [e3_40] at m3_24
 obtain ⟨_, _, _, _, z3_41, x3_41, y3_41, n3_41, e3_41, h3_41⟩ := hF 41 bb3_41
 obtain rfl : g3_35 = z3_41 := by rw [m3_35] at n3_41; injection n3_41 with q; injection q with q; injection q with q
 rw [e3_41] at m3_29
 subst ha
 simp only [ent, List.map_cons, List.map_nil, putSel, bb3_0, bb3_1, bb3_2, bb3_3, bb3_4, bb3_5, bb3_6, bb3_7, bb3_8, bb3_9, bb3_10, bb3_11, bb3_12, bb3_13, bb3_14, bb3_15, bb3_16, bb3_17, bb3_18, bb3_19, bb3_20, bb3_21, bb3_22, bb3_23, bb3_24, bb3_25, bb3_26, bb3_27, bb3_28, bb3_29, bb3_30, bb3_31, bb3_32, bb3_33, bb3_34, bb3_35, m3_0, m3_1, m3_2, m3_3, m3_5, m3_6, m3_7, m3_8, m3_10, m3_11, m3_12, m3_13, m3_15, m3_16, m3_17, m3_18, m3_20, m3_21, m3_22, m3_23, m3_25, m3_26, m3_27, m3_28, m3_30, m3_31, m3_32, m3_33, m3_34, m3_35, if_true, Act.put, List.setIfInBounds_toArray, List.set_cons_zero, List.set_cons_succ]
 clear hF hD bb3_0 bb3_1 bb3_2 bb3_3 bb3_4 bb3_5 bb3_6 bb3_7 bb3_8 bb3_9 bb3_10 bb3_11 bb3_12 bb3_13 bb3_14 bb3_15 bb3_16 bb3_17 bb3_18 bb3_19 bb3_20 bb3_21 bb3_22 bb3_23 bb3_24 bb3_25 bb3_26 bb3_27 bb3_28 bb3_29 bb3_30 bb3_31 bb3_32 bb3_33 bb3_34 bb3_35 bb3_36 bb3_37 bb3_38 bb3_39 bb3_40 bb3_41
 have l3_36 := blk_lt h3_36; have l3_37 := blk_lt h3_37; have l3_38 := blk_lt h3_38; have l3_39 := blk_lt h3_39; have l3_40 := blk_lt h3_40; have l3_41 := blk_lt h3_41; have lw : w.heap.size ≤ V3.heap.size := HBl.size; have lb : w.heap.size + 1 + 1 + 1 + 1 ≤ V3.heap.size := HSz
 go_wp2_with fail
 obtain ⟨G, hGd⟩ : ∃ G : World → Prop, G = (fun w' => Below w.heap.size w w' ∧ V3.heap.size ≤ w'.heap.size ∧ w'.heap[w.heap.size]? = some (.cells #[.int .i64 a0, .int .i64 a1] 23 (0, 0)) ∧ w'.heap[w.heap.size + 1]? = some (.cells #[.int .i64 b0, .int .i64 b1] 23 (0, 0)) ∧ w'.heap[w.heap.size + 1 + 1]? = some (.cells #[.int .i64 c0, .int .i64 c1] 23 (0, 0)) ∧ w'.heap[w.heap.size + 1 + 1 + 1]? = some (.cells #[.int .i64 d0, .int .i64 d1] 23 (0, 0)) ∧ w'.heap[g3_30]? = some (.cells #[x3_36, y3_36] 42 (0, 0)) ∧ w'.heap[g3_31]? = some (.cells #[x3_37, y3_37] 42 (0, 0)) ∧ w'.heap[g3_32]? = some (.cells #[x3_38, y3_38] 42 (0, 0)) ∧ w'.heap[g3_33]? = some (.cells #[x3_39, y3_39] 42 (0, 0)) ∧ w'.heap[g3_34]? = some (.cells #[x3_40, y3_40] 42 (0, 0)) ∧ w'.heap[g3_35]? = some (.cells #[x3_41, y3_41] 42 (0, 0)) ∧ NI w' (.agg #[x3_36, y3_36]) (a0 - d0) ∧ NI w' (.agg #[x3_37, y3_37]) (a1 - d1) ∧ NI w' (.agg #[x3_38, y3_38]) (b0 - d0) ∧ NI w' (.agg #[x3_39, y3_39]) (b1 - d1) ∧ NI w' (.agg #[x3_40, y3_40]) (c0 - d0) ∧ NI w' (.agg #[x3_41, y3_41]) (c1 - d1)) := ⟨_, rfl⟩
 have GM : ∀ w1 w2 : World, G w1 → Below w1.heap.size w1 w2 → G w2 := by
  subst hGd
  rintro w1 w2 ⟨HBl, HSz, Bx4, Bx5, Bx6, Bx7, Bx9, Bx10, Bx11, Bx12, Bx13, Bx14, Ni0, Ni1, Ni2, Ni3, Ni4, Ni5⟩ hb
  exact ⟨below_step HBl hb, Nat.le_trans HSz hb.size, blk_below Bx4 hb, blk_below Bx5 hb, blk_below Bx6 hb, blk_below Bx7 hb, blk_below Bx9 hb, blk_below Bx10 hb, blk_below Bx11 hb, blk_below Bx12 hb, blk_below Bx13 hb, blk_below Bx14 hb, NI.below Ni0 hb, NI.below Ni1 hb, NI.below Ni2 hb, NI.below Ni3 hb, NI.below Ni4 hb, NI.below Ni5 hb⟩
 have HM : ∀ w1 w2 : World, (fun _ => True) w1 → Below w1.heap.size w1 w2 → (fun _ => True) w2 := fun _ _ _ _ => True.intro
 have GS : ∀ (w1 : World) (g : Nat) (x0 y0 x y : Value), G w1 → w1.heap[g]? = some (.cells #[x0, y0] 42 (0, 0)) → w.heap.size ≤ g → ((w.heap.size = g ∨ w.heap.size + 1 = g ∨ w.heap.size + 1 + 1 = g ∨ w.heap.size + 1 + 1 + 1 = g ∨ g3_30 = g ∨ g3_31 = g ∨ g3_32 = g ∨ g3_33 = g ∨ g3_34 = g ∨ g3_35 = g) → False) → G ((w1.setCell ⟨g, 0, none⟩ x).setCell ⟨g, 1, none⟩ y) := by
  subst hGd
  rintro w1 g x0 y0 x y ⟨HBl, HSz, Bx4, Bx5, Bx6, Bx7, Bx9, Bx10, Bx11, Bx12, Bx13, Bx14, Ni0, Ni1, Ni2, Ni3, Ni4, Ni5⟩ hgh hle hne
  exact ⟨below_set2 HBl hle _ _ _ _, (by simpa [World.setCell] using HSz), blk_far (blk_far Bx4 (fun e => hne (by simp [e])) _) (fun e => hne (by simp [e])) _, blk_far (blk_far Bx5 (fun e => hne (by simp [e])) _) (fun e => hne (by simp [e])) _, blk_far (blk_far Bx6 (fun e => hne (by simp [e])) _) (fun e => hne (by simp [e])) _, blk_far (blk_far Bx7 (fun e => hne (by simp [e])) _) (fun e => hne (by simp [e])) _, blk_far (blk_far Bx9 (fun e => hne (by simp [e])) _) (fun e => hne (by simp [e])) _, blk_far (blk_far Bx10 (fun e => hne (by simp [e])) _) (fun e => hne (by simp [e])) _, blk_far (blk_far Bx11 (fun e => hne (by simp [e])) _) (fun e => hne (by simp [e])) _, blk_far (blk_far Bx12 (fun e => hne (by simp [e])) _) (fun e => hne (by simp [e])) _, blk_far (blk_far Bx13 (fun e => hne (by simp [e])) _) (fun e => hne (by simp [e])) _, blk_far (blk_far Bx14 (fun e => hne (by simp [e])) _) (fun e => hne (by simp [e])) _, NI.store (NI.store Ni0 hgh (by decide) 0 _) (blk_put hgh 0 _ rfl) (by decide) 1 _, NI.store (NI.store Ni1 hgh (by decide) 0 _) (blk_put hgh 0 _ rfl) (by decide) 1 _, NI.store (NI.store Ni2 hgh (by decide) 0 _) (blk_put hgh 0 _ rfl) (by decide) 1 _, NI.store (NI.store Ni3 hgh (by decide) 0 _) (blk_put hgh 0 _ rfl) (by decide) 1 _, NI.store (NI.store Ni4 hgh (by decide) 0 _) (blk_put hgh 0 _ rfl) (by decide) 1 _, NI.store (NI.store Ni5 hgh (by decide) 0 _) (blk_put hgh 0 _ rfl) (by decide) 1 _⟩
 refine start_ (n := 13) (S := fun w' => True) (ds := []) #[false, false, false, false, false, false, false, false, false, false, false, false, false] (by kernel_rfl) rfl rfl trivial (fun _ => ?_); refine with_tabW inc4.tab inc4.bits (fun HT_ HW_ => ?_)
 have hG0 : G V3.drew := by subst hGd; exact ⟨below_drew HBl, Nat.le_refl _, Bx4, Bx5, Bx6, Bx7, h3_36, h3_37, h3_38, h3_39, h3_40, h3_41, m3_4.drewN 1, m3_9.drewN 1, m3_14.drewN 1, m3_19.drewN 1, m3_24.drewN 1, m3_29.drewN 1⟩
 generalize V3.drew = W1 at hG0 ⊢
 refine inv_at [0, 1, 2, 3, 4, 5, 6, 7, 8, 9, 10, 11, 12] (fun a0_ b a w' => Rg ⟨[0, 1, 2, 3, 4, 5, 6, 7, 8, 9, 10, 11, 12], [(0, 64), (1, 65), (2, 66), (3, 67), (4, 68), (5, 69), (6, 70), (7, 71), (8, 72), (9, 73), (10, 74), (11, 15)], fun j => [.const (.agg #[.int .i64 a0, .int .i64 a1]), .const (.agg #[.int .i64 d0, .int .i64 d1]), .ni (ds a0 a1 d0 d1), .const (.agg #[x3_38, y3_38]), .const (.agg #[x3_41, y3_41]), .ni ((b0 - d0) * (c1 - d1)), .const (.agg #[x3_39, y3_39]), .const (.agg #[x3_40, y3_40]), .ni ((b1 - d1) * (c0 - d0)), .ni (((b0 - d0) * (c1 - d1)) - ((b1 - d1) * (c0 - d0))), .ni ((ds a0 a1 d0 d1) * (((b0 - d0) * (c1 - d1)) - ((b1 - d1) * (c0 - d0)))), .box, .put 11 10].getD j .box, V3.heap.size, 1, G, fun _ => True, 1000⟩ a0_ b a w') HT_.out HW_.out (by kernel_rfl) (by kernel_rfl) ?_ ?_ ?_
 ·exact rg0 hG0 True.intro
 ·refine steps_cons ?_ ?_
  ·rintro b a w' ⟨ms, hR⟩ hb_ hon hoff
   obtain ⟨ha, hF, hD, hG, _⟩ := id hR
   have hG1 := hG
   rw [hGd] at hG1
   obtain ⟨HBl, HSz, Bx4, Bx5, Bx6, Bx7, Bx9, Bx10, Bx11, Bx12, Bx13, Bx14, Ni0, Ni1, Ni2, Ni3, Ni4, Ni5⟩ := hG1
   have HH := True.intro
   refine ⟨_, rfl, fun K hK => ?_⟩
   have e4 : a.tmps[4]? = some (.pointer (some ⟨w.heap.size, 0, none⟩)) := (off_ ha rfl).trans rfl
   have hc0 : w'.cell? ⟨w.heap.size, 0, none⟩ = some (.int .i64 a0) := (blk_cell Bx4 0).trans rfl
   have hc1 : w'.cell? ⟨w.heap.size, 1, none⟩ = some (.int .i64 a1) := (blk_cell Bx4 1).trans rfl
   have HR := Aside0.mk hR
   clear hR ha hF
   refine value_ (w1 := w') (v := .agg #[.int .i64 a0, .int .i64 a1]) (by rfl) rfl ?_ ?_
   ·go_simp
    (try simp only [i64_w])
    try rfl
   exact hK.out _ _ (step_ 0 HR.out rfl rfl hb_ (Below.refl _ _) hG rfl (fun h => by cases h) (fun _ => HH) rfl)
  refine steps_cons ?_ ?_
  ·rintro b a w' ⟨ms, hR⟩ hb_ hon hoff
   obtain ⟨ha, hF, hD, hG, _⟩ := id hR
   have hG1 := hG
   rw [hGd] at hG1
   obtain ⟨HBl, HSz, Bx4, Bx5, Bx6, Bx7, Bx9, Bx10, Bx11, Bx12, Bx13, Bx14, Ni0, Ni1, Ni2, Ni3, Ni4, Ni5⟩ := hG1
   have HH := True.intro
   refine ⟨_, rfl, fun K hK => ?_⟩
   have e7 : a.tmps[7]? = some (.pointer (some ⟨w.heap.size + 1 + 1 + 1, 0, none⟩)) := (off_ ha rfl).trans rfl
   have hc0 : w'.cell? ⟨w.heap.size + 1 + 1 + 1, 0, none⟩ = some (.int .i64 d0) := (blk_cell Bx7 0).trans rfl
   have hc1 : w'.cell? ⟨w.heap.size + 1 + 1 + 1, 1, none⟩ = some (.int .i64 d1) := (blk_cell Bx7 1).trans rfl
   have HR := Aside0.mk hR
   clear hR ha hF
   refine value_ (w1 := w') (v := .agg #[.int .i64 d0, .int .i64 d1]) (by rfl) rfl ?_ ?_
   ·go_simp
    (try simp only [i64_w])
    try rfl
   exact hK.out _ _ (step_ 1 HR.out rfl rfl hb_ (Below.refl _ _) hG rfl (fun h => by cases h) (fun _ => HH) rfl)
  refine steps_cons ?_ ?_
  ·rintro b a w' ⟨ms, hR⟩ hb_ hon hoff
   obtain ⟨ha, hF, hD, hG, _⟩ := id hR
   have hG1 := hG
   rw [hGd] at hG1
   obtain ⟨HBl, HSz, Bx4, Bx5, Bx6, Bx7, Bx9, Bx10, Bx11, Bx12, Bx13, Bx14, Ni0, Ni1, Ni2, Ni3, Ni4, Ni5⟩ := hG1
   have HH := True.intro
   refine ⟨_, rfl, fun K hK => ?_⟩
   have e64 : a.tmps[64]? = some (.agg #[.int .i64 a0, .int .i64 a1]) := (on_ 0 ha rfl (hon 0 (by kernel_rfl)) rfl).trans (congrArg some (hF 0 (hon 0 (by kernel_rfl))))
   have e65 : a.tmps[65]? = some (.agg #[.int .i64 d0, .int .i64 d1]) := (on_ 1 ha rfl (hon 1 (by kernel_rfl)) rfl).trans (congrArg some (hF 1 (hon 1 (by kernel_rfl))))
   refine goes_ Try.func33 (by kernel_rfl) rfl #[.agg #[.int .i64 a0, .int .i64 a1], .agg #[.int .i64 d0, .int .i64 d1]] (by rfl) rfl rfl (by first | (simp only [List.map_toArray, List.map_cons, List.map_nil, Act.eval, Array.getD_eq_getD_getElem?, Option.getD_some, e64, e65]; done) | (simp only [List.map_toArray, List.map_cons, List.map_nil, Act.eval, Array.getD_eq_getD_getElem?, Option.getD_some, e64, e65]; rfl)) ?_
   with_reducible refine (dist_c Qa Qd _).mono ?_
   rintro e w1 ⟨r, rfl, hN, hb⟩
   exact ⟨_, rfl, hK.out _ _ (step_ 2 hR rfl rfl hb_ hb (GM _ _ hG hb) hN (fun h => by cases h) (fun _ => HM _ _ HH hb) rfl)⟩
  refine steps_cons ?_ ?_
  ·rintro b a w' ⟨ms, hR⟩ hb_ hon hoff
   obtain ⟨ha, hF, hD, hG, _⟩ := id hR
   have hG1 := hG
   rw [hGd] at hG1
   obtain ⟨HBl, HSz, Bx4, Bx5, Bx6, Bx7, Bx9, Bx10, Bx11, Bx12, Bx13, Bx14, Ni0, Ni1, Ni2, Ni3, Ni4, Ni5⟩ := hG1
   have HH := True.intro
   refine ⟨_, rfl, fun K hK => ?_⟩
   have e11 : a.tmps[11]? = some (.pointer (some ⟨g3_32, 0, none⟩)) := (off_ ha rfl).trans rfl
   have hc0 : w'.cell? ⟨g3_32, 0, none⟩ = some (x3_38) := (blk_cell Bx11 0).trans rfl
   have hc1 : w'.cell? ⟨g3_32, 1, none⟩ = some (y3_38) := (blk_cell Bx11 1).trans rfl
   have HR := Aside0.mk hR
   clear hR ha hF
   refine value_ (w1 := w') (v := .agg #[x3_38, y3_38]) (by rfl) rfl ?_ ?_
   ·go_simp
    (try simp only [i64_w])
    try rfl
   exact hK.out _ _ (step_ 3 HR.out rfl rfl hb_ (Below.refl _ _) hG rfl (fun h => by cases h) (fun _ => HH) rfl)
  refine steps_cons ?_ ?_
  ·rintro b a w' ⟨ms, hR⟩ hb_ hon hoff
   obtain ⟨ha, hF, hD, hG, _⟩ := id hR
   have hG1 := hG
   rw [hGd] at hG1
   obtain ⟨HBl, HSz, Bx4, Bx5, Bx6, Bx7, Bx9, Bx10, Bx11, Bx12, Bx13, Bx14, Ni0, Ni1, Ni2, Ni3, Ni4, Ni5⟩ := hG1
   have HH := True.intro
   refine ⟨_, rfl, fun K hK => ?_⟩
   have e14 : a.tmps[14]? = some (.pointer (some ⟨g3_35, 0, none⟩)) := (off_ ha rfl).trans rfl
   have hc0 : w'.cell? ⟨g3_35, 0, none⟩ = some (x3_41) := (blk_cell Bx14 0).trans rfl
   have hc1 : w'.cell? ⟨g3_35, 1, none⟩ = some (y3_41) := (blk_cell Bx14 1).trans rfl
   have HR := Aside0.mk hR
   clear hR ha hF
   refine value_ (w1 := w') (v := .agg #[x3_41, y3_41]) (by rfl) rfl ?_ ?_
   ·go_simp
    (try simp only [i64_w])
    try rfl
   exact hK.out _ _ (step_ 4 HR.out rfl rfl hb_ (Below.refl _ _) hG rfl (fun h => by cases h) (fun _ => HH) rfl)
  refine steps_cons ?_ ?_
  ·rintro b a w' ⟨ms, hR⟩ hb_ hon hoff
   obtain ⟨ha, hF, hD, hG, _⟩ := id hR
   have hG1 := hG
   rw [hGd] at hG1
   obtain ⟨HBl, HSz, Bx4, Bx5, Bx6, Bx7, Bx9, Bx10, Bx11, Bx12, Bx13, Bx14, Ni0, Ni1, Ni2, Ni3, Ni4, Ni5⟩ := hG1
   have HH := True.intro
   refine ⟨_, rfl, fun K hK => ?_⟩
   have e67 : a.tmps[67]? = some (.agg #[x3_38, y3_38]) := (on_ 3 ha rfl (hon 3 (by kernel_rfl)) rfl).trans (congrArg some (hF 3 (hon 3 (by kernel_rfl))))
   have e68 : a.tmps[68]? = some (.agg #[x3_41, y3_41]) := (on_ 4 ha rfl (hon 4 (by kernel_rfl)) rfl).trans (congrArg some (hF 4 (hon 4 (by kernel_rfl))))
   refine goes_ Try.func32 (by kernel_rfl) rfl #[.agg #[x3_38, y3_38], .agg #[x3_41, y3_41]] (by rfl) rfl rfl (by first | (simp only [List.map_toArray, List.map_cons, List.map_nil, Act.eval, Array.getD_eq_getD_getElem?, Option.getD_some, e67, e68]; done) | (simp only [List.map_toArray, List.map_cons, List.map_nil, Act.eval, Array.getD_eq_getD_getElem?, Option.getD_some, e67, e68]; rfl)) ?_
   with_reducible refine (mul_c _ _ (b0 - d0) (c1 - d1) s2 s5 _ (Ni2) (Ni5)).mono ?_
   rintro e w1 ⟨r, rfl, hN, hb⟩
   exact ⟨_, rfl, hK.out _ _ (step_ 5 hR rfl rfl hb_ hb (GM _ _ hG hb) hN (fun h => by cases h) (fun _ => HM _ _ HH hb) rfl)⟩
  refine steps_cons ?_ ?_
  ·rintro b a w' ⟨ms, hR⟩ hb_ hon hoff
   obtain ⟨ha, hF, hD, hG, _⟩ := id hR
   have hG1 := hG
   rw [hGd] at hG1
   obtain ⟨HBl, HSz, Bx4, Bx5, Bx6, Bx7, Bx9, Bx10, Bx11, Bx12, Bx13, Bx14, Ni0, Ni1, Ni2, Ni3, Ni4, Ni5⟩ := hG1
   have HH := True.intro
   refine ⟨_, rfl, fun K hK => ?_⟩
   have e12 : a.tmps[12]? = some (.pointer (some ⟨g3_33, 0, none⟩)) := (off_ ha rfl).trans rfl
   have hc0 : w'.cell? ⟨g3_33, 0, none⟩ = some (x3_39) := (blk_cell Bx12 0).trans rfl
   have hc1 : w'.cell? ⟨g3_33, 1, none⟩ = some (y3_39) := (blk_cell Bx12 1).trans rfl
   have HR := Aside0.mk hR
   clear hR ha hF
   refine value_ (w1 := w') (v := .agg #[x3_39, y3_39]) (by rfl) rfl ?_ ?_
   ·go_simp
    (try simp only [i64_w])
    try rfl
   exact hK.out _ _ (step_ 6 HR.out rfl rfl hb_ (Below.refl _ _) hG rfl (fun h => by cases h) (fun _ => HH) rfl)
  refine steps_cons ?_ ?_
  ·rintro b a w' ⟨ms, hR⟩ hb_ hon hoff
   obtain ⟨ha, hF, hD, hG, _⟩ := id hR
   have hG1 := hG
   rw [hGd] at hG1
   obtain ⟨HBl, HSz, Bx4, Bx5, Bx6, Bx7, Bx9, Bx10, Bx11, Bx12, Bx13, Bx14, Ni0, Ni1, Ni2, Ni3, Ni4, Ni5⟩ := hG1
   have HH := True.intro
   refine ⟨_, rfl, fun K hK => ?_⟩
   have e13 : a.tmps[13]? = some (.pointer (some ⟨g3_34, 0, none⟩)) := (off_ ha rfl).trans rfl
   have hc0 : w'.cell? ⟨g3_34, 0, none⟩ = some (x3_40) := (blk_cell Bx13 0).trans rfl
   have hc1 : w'.cell? ⟨g3_34, 1, none⟩ = some (y3_40) := (blk_cell Bx13 1).trans rfl
   have HR := Aside0.mk hR
   clear hR ha hF
   refine value_ (w1 := w') (v := .agg #[x3_40, y3_40]) (by rfl) rfl ?_ ?_
   ·go_simp
    (try simp only [i64_w])
    try rfl
   exact hK.out _ _ (step_ 7 HR.out rfl rfl hb_ (Below.refl _ _) hG rfl (fun h => by cases h) (fun _ => HH) rfl)
  refine steps_cons ?_ ?_
  ·rintro b a w' ⟨ms, hR⟩ hb_ hon hoff
   obtain ⟨ha, hF, hD, hG, _⟩ := id hR
   have hG1 := hG
   rw [hGd] at hG1
   obtain ⟨HBl, HSz, Bx4, Bx5, Bx6, Bx7, Bx9, Bx10, Bx11, Bx12, Bx13, Bx14, Ni0, Ni1, Ni2, Ni3, Ni4, Ni5⟩ := hG1
   have HH := True.intro
   refine ⟨_, rfl, fun K hK => ?_⟩
   have e70 : a.tmps[70]? = some (.agg #[x3_39, y3_39]) := (on_ 6 ha rfl (hon 6 (by kernel_rfl)) rfl).trans (congrArg some (hF 6 (hon 6 (by kernel_rfl))))
   have e71 : a.tmps[71]? = some (.agg #[x3_40, y3_40]) := (on_ 7 ha rfl (hon 7 (by kernel_rfl)) rfl).trans (congrArg some (hF 7 (hon 7 (by kernel_rfl))))
   refine goes_ Try.func32 (by kernel_rfl) rfl #[.agg #[x3_39, y3_39], .agg #[x3_40, y3_40]] (by rfl) rfl rfl (by first | (simp only [List.map_toArray, List.map_cons, List.map_nil, Act.eval, Array.getD_eq_getD_getElem?, Option.getD_some, e70, e71]; done) | (simp only [List.map_toArray, List.map_cons, List.map_nil, Act.eval, Array.getD_eq_getD_getElem?, Option.getD_some, e70, e71]; rfl)) ?_
   with_reducible refine (mul_c _ _ (b1 - d1) (c0 - d0) s3 s4 _ (Ni3) (Ni4)).mono ?_
   rintro e w1 ⟨r, rfl, hN, hb⟩
   exact ⟨_, rfl, hK.out _ _ (step_ 8 hR rfl rfl hb_ hb (GM _ _ hG hb) hN (fun h => by cases h) (fun _ => HM _ _ HH hb) rfl)⟩
  refine steps_cons ?_ ?_
  ·rintro b a w' ⟨ms, hR⟩ hb_ hon hoff
   obtain ⟨ha, hF, hD, hG, _⟩ := id hR
   have hG1 := hG
   rw [hGd] at hG1
   obtain ⟨HBl, HSz, Bx4, Bx5, Bx6, Bx7, Bx9, Bx10, Bx11, Bx12, Bx13, Bx14, Ni0, Ni1, Ni2, Ni3, Ni4, Ni5⟩ := hG1
   have HH := True.intro
   refine ⟨_, rfl, fun K hK => ?_⟩
   have e69 : a.tmps[69]? = some (ms 5) := on_ 5 ha rfl (hon 5 (by kernel_rfl)) rfl
   have q5 : NI w' (ms 5) ((b0 - d0) * (c1 - d1)) := hF 5 (hon 5 (by kernel_rfl))
   have e72 : a.tmps[72]? = some (ms 8) := on_ 8 ha rfl (hon 8 (by kernel_rfl)) rfl
   have q8 : NI w' (ms 8) ((b1 - d1) * (c0 - d0)) := hF 8 (hon 8 (by kernel_rfl))
   refine goes_ Try.func34 (by kernel_rfl) rfl #[ms 5, ms 8] (by rfl) rfl rfl (by first | (simp only [List.map_toArray, List.map_cons, List.map_nil, Act.eval, Array.getD_eq_getD_getElem?, Option.getD_some, e69, e72]; done) | (simp only [List.map_toArray, List.map_cons, List.map_nil, Act.eval, Array.getD_eq_getD_getElem?, Option.getD_some, e69, e72]; rfl)) ?_
   with_reducible refine (sub_c _ _ ((b0 - d0) * (c1 - d1)) ((b1 - d1) * (c0 - d0)) p0 p1 _ (q5) (q8)).mono ?_
   rintro e w1 ⟨r, rfl, hN, hb⟩
   exact ⟨_, rfl, hK.out _ _ (step_ 9 hR rfl rfl hb_ hb (GM _ _ hG hb) hN (fun h => by cases h) (fun _ => HM _ _ HH hb) rfl)⟩
  refine steps_cons ?_ ?_
  ·rintro b a w' ⟨ms, hR⟩ hb_ hon hoff
   obtain ⟨ha, hF, hD, hG, _⟩ := id hR
   have hG1 := hG
   rw [hGd] at hG1
   obtain ⟨HBl, HSz, Bx4, Bx5, Bx6, Bx7, Bx9, Bx10, Bx11, Bx12, Bx13, Bx14, Ni0, Ni1, Ni2, Ni3, Ni4, Ni5⟩ := hG1
   have HH := True.intro
   refine ⟨_, rfl, fun K hK => ?_⟩
   have e66 : a.tmps[66]? = some (ms 2) := on_ 2 ha rfl (hon 2 (by kernel_rfl)) rfl
   have q2 : NI w' (ms 2) (ds a0 a1 d0 d1) := hF 2 (hon 2 (by kernel_rfl))
   have e73 : a.tmps[73]? = some (ms 9) := on_ 9 ha rfl (hon 9 (by kernel_rfl)) rfl
   have q9 : NI w' (ms 9) (((b0 - d0) * (c1 - d1)) - ((b1 - d1) * (c0 - d0))) := hF 9 (hon 9 (by kernel_rfl))
   refine goes_ Try.func32 (by kernel_rfl) rfl #[ms 2, ms 9] (by rfl) rfl rfl (by first | (simp only [List.map_toArray, List.map_cons, List.map_nil, Act.eval, Array.getD_eq_getD_getElem?, Option.getD_some, e66, e73]; done) | (simp only [List.map_toArray, List.map_cons, List.map_nil, Act.eval, Array.getD_eq_getD_getElem?, Option.getD_some, e66, e73]; rfl)) ?_
   with_reducible refine (mul_c _ _ (ds a0 a1 d0 d1) (((b0 - d0) * (c1 - d1)) - ((b1 - d1) * (c0 - d0))) t0 r0 _ (q2) (q9)).mono ?_
   rintro e w1 ⟨r, rfl, hN, hb⟩
   exact ⟨_, rfl, hK.out _ _ (step_ 10 hR rfl rfl hb_ hb (GM _ _ hG hb) hN (fun h => by cases h) (fun _ => HM _ _ HH hb) rfl)⟩
  refine steps_cons ?_ ?_
  ·rintro b a w' ⟨ms, hR⟩ hb_ hon hoff
   obtain ⟨ha, hF, hD, hG, _⟩ := id hR
   have hG1 := hG
   rw [hGd] at hG1
   obtain ⟨HBl, HSz, Bx4, Bx5, Bx6, Bx7, Bx9, Bx10, Bx11, Bx12, Bx13, Bx14, Ni0, Ni1, Ni2, Ni3, Ni4, Ni5⟩ := hG1
   have HH := True.intro
   refine ⟨_, rfl, fun K hK => ?_⟩
   refine box_step ?hg (N := 15) ?hd (cs := #[.int .i64 0, .slice none 0 0]) (t := 42) ?hr ?_; (case hd => rfl); (case hg => rfl); (case hr => first | (go_simp; done) | (go_simp; rfl))
   intro g hg w1 hbox hb
   exact hK.out _ _ (step_ 11 hR rfl rfl hb_ hb (GM _ _ hG hb) ⟨g, _, _, rfl, by rw [hg]; exact HSz, hbox⟩ (fun _ => by rw [hg]) (fun _ => HM _ _ HH hb) rfl)
  refine steps_cons ?_ ?_
  ·rintro b a w' ⟨ms, hR⟩ hb_ hon hoff
   obtain ⟨ha, hF, hD, hG, _⟩ := id hR
   have hG1 := hG
   rw [hGd] at hG1
   obtain ⟨HBl, HSz, Bx4, Bx5, Bx6, Bx7, Bx9, Bx10, Bx11, Bx12, Bx13, Bx14, Ni0, Ni1, Ni2, Ni3, Ni4, Ni5⟩ := hG1
   have HH := True.intro
   refine ⟨_, rfl, fun K hK => ?_⟩
   have hn := hF 10 (hon 10 (by kernel_rfl))
   obtain ⟨sz, Az, lz, cz, ev⟩ := NI.shape hn
   have e74 : a.tmps[74]? = some (.agg #[.int .i64 sz, .slice Az lz cz]) := (on_ 10 ha rfl (hon 10 (by kernel_rfl)) rfl).trans (congrArg some ev)
   obtain ⟨g, x0, y0, eg, hgK, hgh⟩ := hF 11 (hon 11 (by kernel_rfl))
   replace hgK : V3.heap.size ≤ g := hgK
   have e15 : a.tmps[15]? = some (.pointer (some ⟨g, 0, none⟩)) := (on_ 11 ha rfl (hon 11 (by kernel_rfl)) rfl).trans (congrArg some eg)
   have h0 : w'.cell? ⟨g, 0, none⟩ = some x0 := (blk_cell hgh 0).trans rfl
   have h1 : w'.cell? ⟨g, 1, none⟩ = some y0 := (blk_cell hgh 1).trans rfl
   have f0 := blk_frozen hgh 0
   have f1 := blk_frozen hgh 1
   have HR := Aside0.mk hR
   clear hR ha
   refine skip_ (w1 := ?_) (by rfl) rfl ?_ ?_
   rotate_left
   ·go_simp
    rfl
   exact hK.out _ _ (put_ HR.out rfl rfl hb_ rfl rfl (hon 11 (by kernel_rfl)) (hon 10 (by kernel_rfl)) rfl eg ev (GS _ g _ _ _ _ hG hgh (by omega) (fun h => by omega)) (fun _ => HH) rfl)
  exact steps_nil
 rintro b a V4 hall ⟨ms, ha, hF, hD, hG, _⟩
 rw [hGd] at hG
 obtain ⟨HBl, HSz, Bx4, Bx5, Bx6, Bx7, Bx9, Bx10, Bx11, Bx12, Bx13, Bx14, Ni0, Ni1, Ni2, Ni3, Ni4, Ni5⟩ := hG
 have bb4_0 := hall 0 (by kernel_rfl)
 have bb4_1 := hall 1 (by kernel_rfl)
 have bb4_2 := hall 2 (by kernel_rfl)
 have bb4_3 := hall 3 (by kernel_rfl)
 have bb4_4 := hall 4 (by kernel_rfl)
 have bb4_5 := hall 5 (by kernel_rfl)
 have bb4_6 := hall 6 (by kernel_rfl)
 have bb4_7 := hall 7 (by kernel_rfl)
 have bb4_8 := hall 8 (by kernel_rfl)
 have bb4_9 := hall 9 (by kernel_rfl)
 have bb4_10 := hall 10 (by kernel_rfl)
 have bb4_11 := hall 11 (by kernel_rfl)
 have bb4_12 := hall 12 (by kernel_rfl)
 have m4_0 : ms 0 = .agg #[.int .i64 a0, .int .i64 a1] := hF 0 bb4_0
 have m4_1 : ms 1 = .agg #[.int .i64 d0, .int .i64 d1] := hF 1 bb4_1
 have m4_2 : NI V4 (ms 2) (ds a0 a1 d0 d1) := hF 2 bb4_2
 have m4_3 : ms 3 = .agg #[x3_38, y3_38] := hF 3 bb4_3
 have m4_4 : ms 4 = .agg #[x3_41, y3_41] := hF 4 bb4_4
 have m4_5 : NI V4 (ms 5) ((b0 - d0) * (c1 - d1)) := hF 5 bb4_5
 have m4_6 : ms 6 = .agg #[x3_39, y3_39] := hF 6 bb4_6
 have m4_7 : ms 7 = .agg #[x3_40, y3_40] := hF 7 bb4_7
 have m4_8 : NI V4 (ms 8) ((b1 - d1) * (c0 - d0)) := hF 8 bb4_8
 have m4_9 : NI V4 (ms 9) (((b0 - d0) * (c1 - d1)) - ((b1 - d1) * (c0 - d0))) := hF 9 bb4_9
 have m4_10 : NI V4 (ms 10) ((ds a0 a1 d0 d1) * (((b0 - d0) * (c1 - d1)) - ((b1 - d1) * (c0 - d0)))) := hF 10 bb4_10
 obtain ⟨g4_11, _, _, m4_11, k4_11, _⟩ := hF 11 bb4_11
 replace k4_11 : V3.heap.size ≤ g4_11 := k4_11
 obtain ⟨_, _, _, _, z4_12, x4_12, y4_12, n4_12, e4_12, h4_12⟩ := hF 12 bb4_12
 obtain rfl : g4_11 = z4_12 := by rw [m4_11] at n4_12; injection n4_12 with q; injection q with q; injection q with q
 rw [e4_12] at m4_10
 subst ha
 simp only [ent, List.map_cons, List.map_nil, putSel, bb4_0, bb4_1, bb4_2, bb4_3, bb4_4, bb4_5, bb4_6, bb4_7, bb4_8, bb4_9, bb4_10, bb4_11, m4_0, m4_1, m4_3, m4_4, m4_6, m4_7, m4_11, if_true, Act.put, List.setIfInBounds_toArray, List.set_cons_zero, List.set_cons_succ]
 clear hF hD bb4_0 bb4_1 bb4_2 bb4_3 bb4_4 bb4_5 bb4_6 bb4_7 bb4_8 bb4_9 bb4_10 bb4_11 bb4_12
 obtain ⟨K5, e5⟩ : ∃ K5, K5 = g4_11 + 1 := ⟨_, rfl⟩
 have hK5 : K5 ≤ V4.heap.size := by have := blk_lt h4_12; omega
 go_wp2_with fail
 obtain ⟨G, hGd⟩ : ∃ G : World → Prop, G = (fun w' => Below w.heap.size w w' ∧ K5 ≤ w'.heap.size ∧ w'.heap[w.heap.size]? = some (.cells #[.int .i64 a0, .int .i64 a1] 23 (0, 0)) ∧ w'.heap[w.heap.size + 1]? = some (.cells #[.int .i64 b0, .int .i64 b1] 23 (0, 0)) ∧ w'.heap[w.heap.size + 1 + 1]? = some (.cells #[.int .i64 c0, .int .i64 c1] 23 (0, 0)) ∧ w'.heap[w.heap.size + 1 + 1 + 1]? = some (.cells #[.int .i64 d0, .int .i64 d1] 23 (0, 0)) ∧ w'.heap[g3_30]? = some (.cells #[x3_36, y3_36] 42 (0, 0)) ∧ w'.heap[g3_31]? = some (.cells #[x3_37, y3_37] 42 (0, 0)) ∧ w'.heap[g3_32]? = some (.cells #[x3_38, y3_38] 42 (0, 0)) ∧ w'.heap[g3_33]? = some (.cells #[x3_39, y3_39] 42 (0, 0)) ∧ w'.heap[g3_34]? = some (.cells #[x3_40, y3_40] 42 (0, 0)) ∧ w'.heap[g3_35]? = some (.cells #[x3_41, y3_41] 42 (0, 0)) ∧ NI w' (.agg #[x3_36, y3_36]) (a0 - d0) ∧ NI w' (.agg #[x3_37, y3_37]) (a1 - d1) ∧ NI w' (.agg #[x3_38, y3_38]) (b0 - d0) ∧ NI w' (.agg #[x3_39, y3_39]) (b1 - d1) ∧ NI w' (.agg #[x3_40, y3_40]) (c0 - d0) ∧ NI w' (.agg #[x3_41, y3_41]) (c1 - d1) ∧ ∃ x y, w'.heap[g4_11]? = some (.cells #[x, y] 42 (0, 0))) := ⟨_, rfl⟩
 have GM : ∀ w1 w2 : World, G w1 → Below w1.heap.size w1 w2 → G w2 := by
  subst hGd
  rintro w1 w2 ⟨HBl, HSz, Bx4, Bx5, Bx6, Bx7, Bx9, Bx10, Bx11, Bx12, Bx13, Bx14, Ni0, Ni1, Ni2, Ni3, Ni4, Ni5, Rs⟩ hb
  exact ⟨below_step HBl hb, Nat.le_trans HSz hb.size, blk_below Bx4 hb, blk_below Bx5 hb, blk_below Bx6 hb, blk_below Bx7 hb, blk_below Bx9 hb, blk_below Bx10 hb, blk_below Bx11 hb, blk_below Bx12 hb, blk_below Bx13 hb, blk_below Bx14 hb, NI.below Ni0 hb, NI.below Ni1 hb, NI.below Ni2 hb, NI.below Ni3 hb, NI.below Ni4 hb, NI.below Ni5 hb, (Rs.elim fun x h => h.elim fun y h => ⟨x, y, blk_below h hb⟩)⟩
 have HM : ∀ w1 w2 : World, (fun w' => w'.heap[g4_11]? = some (.cells #[x4_12, y4_12] 42 (0, 0)) ∧ NI w' (.agg #[x4_12, y4_12]) ((ds a0 a1 d0 d1) * (((b0 - d0) * (c1 - d1)) - ((b1 - d1) * (c0 - d0))))) w1 → Below w1.heap.size w1 w2 → (fun w' => w'.heap[g4_11]? = some (.cells #[x4_12, y4_12] 42 (0, 0)) ∧ NI w' (.agg #[x4_12, y4_12]) ((ds a0 a1 d0 d1) * (((b0 - d0) * (c1 - d1)) - ((b1 - d1) * (c0 - d0))))) w2 := fun w1 w2 h hb => ⟨blk_below h.1 hb, h.2.below hb⟩
 have GR : ∀ (w1 : World) (x0 y0 x y : Value), G w1 → w1.heap[g4_11]? = some (.cells #[x0, y0] 42 (0, 0)) → G ((w1.setCell ⟨g4_11, 0, none⟩ x).setCell ⟨g4_11, 1, none⟩ y) := by
  subst hGd
  rintro w1 x0 y0 x y ⟨HBl, HSz, Bx4, Bx5, Bx6, Bx7, Bx9, Bx10, Bx11, Bx12, Bx13, Bx14, Ni0, Ni1, Ni2, Ni3, Ni4, Ni5, Rs⟩ hgh
  have hle : w.heap.size ≤ g4_11 := by omega
  exact ⟨below_set2 HBl hle _ _ _ _, (by simpa [World.setCell] using HSz), blk_far (blk_far Bx4 (fun e => by have e1 : (w.heap.size : Nat) = g4_11 := e; omega) _) (fun e => by have e1 : (w.heap.size : Nat) = g4_11 := e; omega) _, blk_far (blk_far Bx5 (fun e => by have e1 : (w.heap.size + 1 : Nat) = g4_11 := e; omega) _) (fun e => by have e1 : (w.heap.size + 1 : Nat) = g4_11 := e; omega) _, blk_far (blk_far Bx6 (fun e => by have e1 : (w.heap.size + 1 + 1 : Nat) = g4_11 := e; omega) _) (fun e => by have e1 : (w.heap.size + 1 + 1 : Nat) = g4_11 := e; omega) _, blk_far (blk_far Bx7 (fun e => by have e1 : (w.heap.size + 1 + 1 + 1 : Nat) = g4_11 := e; omega) _) (fun e => by have e1 : (w.heap.size + 1 + 1 + 1 : Nat) = g4_11 := e; omega) _, blk_far (blk_far Bx9 (fun e => by have e1 : (g3_30 : Nat) = g4_11 := e; omega) _) (fun e => by have e1 : (g3_30 : Nat) = g4_11 := e; omega) _, blk_far (blk_far Bx10 (fun e => by have e1 : (g3_31 : Nat) = g4_11 := e; omega) _) (fun e => by have e1 : (g3_31 : Nat) = g4_11 := e; omega) _, blk_far (blk_far Bx11 (fun e => by have e1 : (g3_32 : Nat) = g4_11 := e; omega) _) (fun e => by have e1 : (g3_32 : Nat) = g4_11 := e; omega) _, blk_far (blk_far Bx12 (fun e => by have e1 : (g3_33 : Nat) = g4_11 := e; omega) _) (fun e => by have e1 : (g3_33 : Nat) = g4_11 := e; omega) _, blk_far (blk_far Bx13 (fun e => by have e1 : (g3_34 : Nat) = g4_11 := e; omega) _) (fun e => by have e1 : (g3_34 : Nat) = g4_11 := e; omega) _, blk_far (blk_far Bx14 (fun e => by have e1 : (g3_35 : Nat) = g4_11 := e; omega) _) (fun e => by have e1 : (g3_35 : Nat) = g4_11 := e; omega) _, NI.store (NI.store Ni0 hgh (by decide) 0 _) (blk_put hgh 0 _ rfl) (by decide) 1 _, NI.store (NI.store Ni1 hgh (by decide) 0 _) (blk_put hgh 0 _ rfl) (by decide) 1 _, NI.store (NI.store Ni2 hgh (by decide) 0 _) (blk_put hgh 0 _ rfl) (by decide) 1 _, NI.store (NI.store Ni3 hgh (by decide) 0 _) (blk_put hgh 0 _ rfl) (by decide) 1 _, NI.store (NI.store Ni4 hgh (by decide) 0 _) (blk_put hgh 0 _ rfl) (by decide) 1 _, NI.store (NI.store Ni5 hgh (by decide) 0 _) (blk_put hgh 0 _ rfl) (by decide) 1 _, _, _, blk_put (blk_put hgh 0 _ rfl) 1 _ rfl⟩
 refine start_ (n := 14) (S := fun w' => True) (ds := []) #[false, false, false, false, false, false, false, false, false, false, false, false, false, false] (by kernel_rfl) rfl rfl trivial (fun _ => ?_); refine with_tabW inc5.tab inc5.bits (fun HT_ HW_ => ?_)
 have hG0 : G V4.drew := by subst hGd; exact ⟨below_drew HBl, hK5, Bx4, Bx5, Bx6, Bx7, Bx9, Bx10, Bx11, Bx12, Bx13, Bx14, Ni0.drewN 1, Ni1.drewN 1, Ni2.drewN 1, Ni3.drewN 1, Ni4.drewN 1, Ni5.drewN 1, _, _, h4_12⟩
 have hH0 : (fun w' => w'.heap[g4_11]? = some (.cells #[x4_12, y4_12] 42 (0, 0)) ∧ NI w' (.agg #[x4_12, y4_12]) ((ds a0 a1 d0 d1) * (((b0 - d0) * (c1 - d1)) - ((b1 - d1) * (c0 - d0))))) V4.drew := ⟨h4_12, m4_10.drewN 1⟩
 generalize V4.drew = W1 at hG0 hH0 ⊢
 refine inv_at [0, 1, 2, 3, 4, 5, 6, 7, 8, 9, 10, 11, 12, 13] (fun a0_ b a w' => Rg ⟨[0, 1, 2, 3, 4, 5, 6, 7, 8, 9, 10, 11, 12, 13], [(0, 75), (1, 76), (2, 77), (3, 78), (4, 79), (5, 80), (6, 81), (7, 82), (8, 83), (9, 84), (10, 85), (11, 86), (12, 87)], fun j => [.const (.agg #[x4_12, y4_12]), .const (.agg #[.int .i64 b0, .int .i64 b1]), .const (.agg #[.int .i64 d0, .int .i64 d1]), .ni (ds b0 b1 d0 d1), .const (.agg #[x3_36, y3_36]), .const (.agg #[x3_41, y3_41]), .ni ((a0 - d0) * (c1 - d1)), .const (.agg #[x3_37, y3_37]), .const (.agg #[x3_40, y3_40]), .ni ((a1 - d1) * (c0 - d0)), .ni (((a0 - d0) * (c1 - d1)) - ((a1 - d1) * (c0 - d0))), .ni ((ds b0 b1 d0 d1) * (((a0 - d0) * (c1 - d1)) - ((a1 - d1) * (c0 - d0)))), .ni (((ds a0 a1 d0 d1) * (((b0 - d0) * (c1 - d1)) - ((b1 - d1) * (c0 - d0)))) - ((ds b0 b1 d0 d1) * (((a0 - d0) * (c1 - d1)) - ((a1 - d1) * (c0 - d0))))), .fin (fun ms w' => ∃ x y, w'.heap[g4_11]? = some (.cells #[x, y] 42 (0, 0)) ∧ NI w' (.agg #[x, y]) (((ds a0 a1 d0 d1) * (((b0 - d0) * (c1 - d1)) - ((b1 - d1) * (c0 - d0)))) - ((ds b0 b1 d0 d1) * (((a0 - d0) * (c1 - d1)) - ((a1 - d1) * (c0 - d0))))))].getD j .box, K5, 0, G, fun w' => w'.heap[g4_11]? = some (.cells #[x4_12, y4_12] 42 (0, 0)) ∧ NI w' (.agg #[x4_12, y4_12]) ((ds a0 a1 d0 d1) * (((b0 - d0) * (c1 - d1)) - ((b1 - d1) * (c0 - d0)))), 13⟩ a0_ b a w') HT_.out HW_.out (by kernel_rfl) (by kernel_rfl) ?_ ?_ ?_
 ·exact rg0 hG0 hH0
 ·refine steps_cons ?_ ?_
  ·rintro b a w' ⟨ms, hR⟩ hb_ hon hoff
   obtain ⟨ha, hF, hD, hG, _⟩ := id hR
   have hG1 := hG
   rw [hGd] at hG1
   obtain ⟨HBl, HSz, Bx4, Bx5, Bx6, Bx7, Bx9, Bx10, Bx11, Bx12, Bx13, Bx14, Ni0, Ni1, Ni2, Ni3, Ni4, Ni5, Rs⟩ := hG1
   have HH := hR.2.2.2.2 (hoff 13 (by kernel_rfl))
   refine ⟨_, rfl, fun K hK => ?_⟩
   have e15 : a.tmps[15]? = some (.pointer (some ⟨g4_11, 0, none⟩)) := (off_ ha rfl).trans rfl
   have hc0 : w'.cell? ⟨g4_11, 0, none⟩ = some (x4_12) := (blk_cell HH.1 0).trans rfl
   have hc1 : w'.cell? ⟨g4_11, 1, none⟩ = some (y4_12) := (blk_cell HH.1 1).trans rfl
   have HR := Aside0.mk hR
   clear hR ha hF
   refine value_ (w1 := w') (v := .agg #[x4_12, y4_12]) (by rfl) rfl ?_ ?_
   ·go_simp
    (try simp only [i64_w])
    try rfl
   exact hK.out _ _ (step_ 0 HR.out rfl rfl hb_ (Below.refl _ _) hG rfl (fun h => by cases h) (fun _ => HH) rfl)
  refine steps_cons ?_ ?_
  ·rintro b a w' ⟨ms, hR⟩ hb_ hon hoff
   obtain ⟨ha, hF, hD, hG, _⟩ := id hR
   have hG1 := hG
   rw [hGd] at hG1
   obtain ⟨HBl, HSz, Bx4, Bx5, Bx6, Bx7, Bx9, Bx10, Bx11, Bx12, Bx13, Bx14, Ni0, Ni1, Ni2, Ni3, Ni4, Ni5, Rs⟩ := hG1
   have HH := hR.2.2.2.2 (hoff 13 (by kernel_rfl))
   refine ⟨_, rfl, fun K hK => ?_⟩
   have e5 : a.tmps[5]? = some (.pointer (some ⟨w.heap.size + 1, 0, none⟩)) := (off_ ha rfl).trans rfl
   have hc0 : w'.cell? ⟨w.heap.size + 1, 0, none⟩ = some (.int .i64 b0) := (blk_cell Bx5 0).trans rfl
   have hc1 : w'.cell? ⟨w.heap.size + 1, 1, none⟩ = some (.int .i64 b1) := (blk_cell Bx5 1).trans rfl
   have HR := Aside0.mk hR
   clear hR ha hF
   refine value_ (w1 := w') (v := .agg #[.int .i64 b0, .int .i64 b1]) (by rfl) rfl ?_ ?_
   ·go_simp
    (try simp only [i64_w])
    try rfl
   exact hK.out _ _ (step_ 1 HR.out rfl rfl hb_ (Below.refl _ _) hG rfl (fun h => by cases h) (fun _ => HH) rfl)
  refine steps_cons ?_ ?_
  ·rintro b a w' ⟨ms, hR⟩ hb_ hon hoff
   obtain ⟨ha, hF, hD, hG, _⟩ := id hR
   have hG1 := hG
   rw [hGd] at hG1
   obtain ⟨HBl, HSz, Bx4, Bx5, Bx6, Bx7, Bx9, Bx10, Bx11, Bx12, Bx13, Bx14, Ni0, Ni1, Ni2, Ni3, Ni4, Ni5, Rs⟩ := hG1
   have HH := hR.2.2.2.2 (hoff 13 (by kernel_rfl))
   refine ⟨_, rfl, fun K hK => ?_⟩
   have e7 : a.tmps[7]? = some (.pointer (some ⟨w.heap.size + 1 + 1 + 1, 0, none⟩)) := (off_ ha rfl).trans rfl
   have hc0 : w'.cell? ⟨w.heap.size + 1 + 1 + 1, 0, none⟩ = some (.int .i64 d0) := (blk_cell Bx7 0).trans rfl
   have hc1 : w'.cell? ⟨w.heap.size + 1 + 1 + 1, 1, none⟩ = some (.int .i64 d1) := (blk_cell Bx7 1).trans rfl
   have HR := Aside0.mk hR
   clear hR ha hF
   refine value_ (w1 := w') (v := .agg #[.int .i64 d0, .int .i64 d1]) (by rfl) rfl ?_ ?_
   ·go_simp
    (try simp only [i64_w])
    try rfl
   exact hK.out _ _ (step_ 2 HR.out rfl rfl hb_ (Below.refl _ _) hG rfl (fun h => by cases h) (fun _ => HH) rfl)
  refine steps_cons ?_ ?_
  ·rintro b a w' ⟨ms, hR⟩ hb_ hon hoff
   obtain ⟨ha, hF, hD, hG, _⟩ := id hR
   have hG1 := hG
   rw [hGd] at hG1
   obtain ⟨HBl, HSz, Bx4, Bx5, Bx6, Bx7, Bx9, Bx10, Bx11, Bx12, Bx13, Bx14, Ni0, Ni1, Ni2, Ni3, Ni4, Ni5, Rs⟩ := hG1
   have HH := hR.2.2.2.2 (hoff 13 (by kernel_rfl))
   refine ⟨_, rfl, fun K hK => ?_⟩
   have e76 : a.tmps[76]? = some (.agg #[.int .i64 b0, .int .i64 b1]) := (on_ 1 ha rfl (hon 1 (by kernel_rfl)) rfl).trans (congrArg some (hF 1 (hon 1 (by kernel_rfl))))
   have e77 : a.tmps[77]? = some (.agg #[.int .i64 d0, .int .i64 d1]) := (on_ 2 ha rfl (hon 2 (by kernel_rfl)) rfl).trans (congrArg some (hF 2 (hon 2 (by kernel_rfl))))
   refine goes_ Try.func33 (by kernel_rfl) rfl #[.agg #[.int .i64 b0, .int .i64 b1], .agg #[.int .i64 d0, .int .i64 d1]] (by rfl) rfl rfl (by first | (simp only [List.map_toArray, List.map_cons, List.map_nil, Act.eval, Array.getD_eq_getD_getElem?, Option.getD_some, e76, e77]; done) | (simp only [List.map_toArray, List.map_cons, List.map_nil, Act.eval, Array.getD_eq_getD_getElem?, Option.getD_some, e76, e77]; rfl)) ?_
   with_reducible refine (dist_c Qb Qd _).mono ?_
   rintro e w1 ⟨r, rfl, hN, hb⟩
   exact ⟨_, rfl, hK.out _ _ (step_ 3 hR rfl rfl hb_ hb (GM _ _ hG hb) hN (fun h => by cases h) (fun _ => HM _ _ HH hb) rfl)⟩
  refine steps_cons ?_ ?_
  ·rintro b a w' ⟨ms, hR⟩ hb_ hon hoff
   obtain ⟨ha, hF, hD, hG, _⟩ := id hR
   have hG1 := hG
   rw [hGd] at hG1
   obtain ⟨HBl, HSz, Bx4, Bx5, Bx6, Bx7, Bx9, Bx10, Bx11, Bx12, Bx13, Bx14, Ni0, Ni1, Ni2, Ni3, Ni4, Ni5, Rs⟩ := hG1
   have HH := hR.2.2.2.2 (hoff 13 (by kernel_rfl))
   refine ⟨_, rfl, fun K hK => ?_⟩
   have e9 : a.tmps[9]? = some (.pointer (some ⟨g3_30, 0, none⟩)) := (off_ ha rfl).trans rfl
   have hc0 : w'.cell? ⟨g3_30, 0, none⟩ = some (x3_36) := (blk_cell Bx9 0).trans rfl
   have hc1 : w'.cell? ⟨g3_30, 1, none⟩ = some (y3_36) := (blk_cell Bx9 1).trans rfl
   have HR := Aside0.mk hR
   clear hR ha hF
   refine value_ (w1 := w') (v := .agg #[x3_36, y3_36]) (by rfl) rfl ?_ ?_
   ·go_simp
    (try simp only [i64_w])
    try rfl
   exact hK.out _ _ (step_ 4 HR.out rfl rfl hb_ (Below.refl _ _) hG rfl (fun h => by cases h) (fun _ => HH) rfl)
  refine steps_cons ?_ ?_
  ·rintro b a w' ⟨ms, hR⟩ hb_ hon hoff
   obtain ⟨ha, hF, hD, hG, _⟩ := id hR
   have hG1 := hG
   rw [hGd] at hG1
   obtain ⟨HBl, HSz, Bx4, Bx5, Bx6, Bx7, Bx9, Bx10, Bx11, Bx12, Bx13, Bx14, Ni0, Ni1, Ni2, Ni3, Ni4, Ni5, Rs⟩ := hG1
   have HH := hR.2.2.2.2 (hoff 13 (by kernel_rfl))
   refine ⟨_, rfl, fun K hK => ?_⟩
   have e14 : a.tmps[14]? = some (.pointer (some ⟨g3_35, 0, none⟩)) := (off_ ha rfl).trans rfl
   have hc0 : w'.cell? ⟨g3_35, 0, none⟩ = some (x3_41) := (blk_cell Bx14 0).trans rfl
   have hc1 : w'.cell? ⟨g3_35, 1, none⟩ = some (y3_41) := (blk_cell Bx14 1).trans rfl
   have HR := Aside0.mk hR
   clear hR ha hF
   refine value_ (w1 := w') (v := .agg #[x3_41, y3_41]) (by rfl) rfl ?_ ?_
   ·go_simp
    (try simp only [i64_w])
    try rfl
   exact hK.out _ _ (step_ 5 HR.out rfl rfl hb_ (Below.refl _ _) hG rfl (fun h => by cases h) (fun _ => HH) rfl)
  refine steps_cons ?_ ?_
  ·rintro b a w' ⟨ms, hR⟩ hb_ hon hoff
   obtain ⟨ha, hF, hD, hG, _⟩ := id hR
   have hG1 := hG
   rw [hGd] at hG1
   obtain ⟨HBl, HSz, Bx4, Bx5, Bx6, Bx7, Bx9, Bx10, Bx11, Bx12, Bx13, Bx14, Ni0, Ni1, Ni2, Ni3, Ni4, Ni5, Rs⟩ := hG1
   have HH := hR.2.2.2.2 (hoff 13 (by kernel_rfl))
   refine ⟨_, rfl, fun K hK => ?_⟩
   have e79 : a.tmps[79]? = some (.agg #[x3_36, y3_36]) := (on_ 4 ha rfl (hon 4 (by kernel_rfl)) rfl).trans (congrArg some (hF 4 (hon 4 (by kernel_rfl))))
   have e80 : a.tmps[80]? = some (.agg #[x3_41, y3_41]) := (on_ 5 ha rfl (hon 5 (by kernel_rfl)) rfl).trans (congrArg some (hF 5 (hon 5 (by kernel_rfl))))
   refine goes_ Try.func32 (by kernel_rfl) rfl #[.agg #[x3_36, y3_36], .agg #[x3_41, y3_41]] (by rfl) rfl rfl (by first | (simp only [List.map_toArray, List.map_cons, List.map_nil, Act.eval, Array.getD_eq_getD_getElem?, Option.getD_some, e79, e80]; done) | (simp only [List.map_toArray, List.map_cons, List.map_nil, Act.eval, Array.getD_eq_getD_getElem?, Option.getD_some, e79, e80]; rfl)) ?_
   with_reducible refine (mul_c _ _ (a0 - d0) (c1 - d1) s0 s5 _ (Ni0) (Ni5)).mono ?_
   rintro e w1 ⟨r, rfl, hN, hb⟩
   exact ⟨_, rfl, hK.out _ _ (step_ 6 hR rfl rfl hb_ hb (GM _ _ hG hb) hN (fun h => by cases h) (fun _ => HM _ _ HH hb) rfl)⟩
  refine steps_cons ?_ ?_
  ·rintro b a w' ⟨ms, hR⟩ hb_ hon hoff
   obtain ⟨ha, hF, hD, hG, _⟩ := id hR
   have hG1 := hG
   rw [hGd] at hG1
   obtain ⟨HBl, HSz, Bx4, Bx5, Bx6, Bx7, Bx9, Bx10, Bx11, Bx12, Bx13, Bx14, Ni0, Ni1, Ni2, Ni3, Ni4, Ni5, Rs⟩ := hG1
   have HH := hR.2.2.2.2 (hoff 13 (by kernel_rfl))
   refine ⟨_, rfl, fun K hK => ?_⟩
   have e10 : a.tmps[10]? = some (.pointer (some ⟨g3_31, 0, none⟩)) := (off_ ha rfl).trans rfl
   have hc0 : w'.cell? ⟨g3_31, 0, none⟩ = some (x3_37) := (blk_cell Bx10 0).trans rfl
   have hc1 : w'.cell? ⟨g3_31, 1, none⟩ = some (y3_37) := (blk_cell Bx10 1).trans rfl
   have HR := Aside0.mk hR
   clear hR ha hF
   refine value_ (w1 := w') (v := .agg #[x3_37, y3_37]) (by rfl) rfl ?_ ?_
   ·go_simp
    (try simp only [i64_w])
    try rfl
   exact hK.out _ _ (step_ 7 HR.out rfl rfl hb_ (Below.refl _ _) hG rfl (fun h => by cases h) (fun _ => HH) rfl)
  refine steps_cons ?_ ?_
  ·rintro b a w' ⟨ms, hR⟩ hb_ hon hoff
   obtain ⟨ha, hF, hD, hG, _⟩ := id hR
   have hG1 := hG
   rw [hGd] at hG1
   obtain ⟨HBl, HSz, Bx4, Bx5, Bx6, Bx7, Bx9, Bx10, Bx11, Bx12, Bx13, Bx14, Ni0, Ni1, Ni2, Ni3, Ni4, Ni5, Rs⟩ := hG1
   have HH := hR.2.2.2.2 (hoff 13 (by kernel_rfl))
   refine ⟨_, rfl, fun K hK => ?_⟩
   have e13 : a.tmps[13]? = some (.pointer (some ⟨g3_34, 0, none⟩)) := (off_ ha rfl).trans rfl
   have hc0 : w'.cell? ⟨g3_34, 0, none⟩ = some (x3_40) := (blk_cell Bx13 0).trans rfl
   have hc1 : w'.cell? ⟨g3_34, 1, none⟩ = some (y3_40) := (blk_cell Bx13 1).trans rfl
   have HR := Aside0.mk hR
   clear hR ha hF
   refine value_ (w1 := w') (v := .agg #[x3_40, y3_40]) (by rfl) rfl ?_ ?_
   ·go_simp
    (try simp only [i64_w])
    try rfl
   exact hK.out _ _ (step_ 8 HR.out rfl rfl hb_ (Below.refl _ _) hG rfl (fun h => by cases h) (fun _ => HH) rfl)
  refine steps_cons ?_ ?_
  ·rintro b a w' ⟨ms, hR⟩ hb_ hon hoff
   obtain ⟨ha, hF, hD, hG, _⟩ := id hR
   have hG1 := hG
   rw [hGd] at hG1
   obtain ⟨HBl, HSz, Bx4, Bx5, Bx6, Bx7, Bx9, Bx10, Bx11, Bx12, Bx13, Bx14, Ni0, Ni1, Ni2, Ni3, Ni4, Ni5, Rs⟩ := hG1
   have HH := hR.2.2.2.2 (hoff 13 (by kernel_rfl))
   refine ⟨_, rfl, fun K hK => ?_⟩
   have e82 : a.tmps[82]? = some (.agg #[x3_37, y3_37]) := (on_ 7 ha rfl (hon 7 (by kernel_rfl)) rfl).trans (congrArg some (hF 7 (hon 7 (by kernel_rfl))))
   have e83 : a.tmps[83]? = some (.agg #[x3_40, y3_40]) := (on_ 8 ha rfl (hon 8 (by kernel_rfl)) rfl).trans (congrArg some (hF 8 (hon 8 (by kernel_rfl))))
   refine goes_ Try.func32 (by kernel_rfl) rfl #[.agg #[x3_37, y3_37], .agg #[x3_40, y3_40]] (by rfl) rfl rfl (by first | (simp only [List.map_toArray, List.map_cons, List.map_nil, Act.eval, Array.getD_eq_getD_getElem?, Option.getD_some, e82, e83]; done) | (simp only [List.map_toArray, List.map_cons, List.map_nil, Act.eval, Array.getD_eq_getD_getElem?, Option.getD_some, e82, e83]; rfl)) ?_
   with_reducible refine (mul_c _ _ (a1 - d1) (c0 - d0) s1 s4 _ (Ni1) (Ni4)).mono ?_
   rintro e w1 ⟨r, rfl, hN, hb⟩
   exact ⟨_, rfl, hK.out _ _ (step_ 9 hR rfl rfl hb_ hb (GM _ _ hG hb) hN (fun h => by cases h) (fun _ => HM _ _ HH hb) rfl)⟩
  refine steps_cons ?_ ?_
  ·rintro b a w' ⟨ms, hR⟩ hb_ hon hoff
   obtain ⟨ha, hF, hD, hG, _⟩ := id hR
   have hG1 := hG
   rw [hGd] at hG1
   obtain ⟨HBl, HSz, Bx4, Bx5, Bx6, Bx7, Bx9, Bx10, Bx11, Bx12, Bx13, Bx14, Ni0, Ni1, Ni2, Ni3, Ni4, Ni5, Rs⟩ := hG1
   have HH := hR.2.2.2.2 (hoff 13 (by kernel_rfl))
   refine ⟨_, rfl, fun K hK => ?_⟩
   have e81 : a.tmps[81]? = some (ms 6) := on_ 6 ha rfl (hon 6 (by kernel_rfl)) rfl
   have q6 : NI w' (ms 6) ((a0 - d0) * (c1 - d1)) := hF 6 (hon 6 (by kernel_rfl))
   have e84 : a.tmps[84]? = some (ms 9) := on_ 9 ha rfl (hon 9 (by kernel_rfl)) rfl
   have q9 : NI w' (ms 9) ((a1 - d1) * (c0 - d0)) := hF 9 (hon 9 (by kernel_rfl))
   refine goes_ Try.func34 (by kernel_rfl) rfl #[ms 6, ms 9] (by rfl) rfl rfl (by first | (simp only [List.map_toArray, List.map_cons, List.map_nil, Act.eval, Array.getD_eq_getD_getElem?, Option.getD_some, e81, e84]; done) | (simp only [List.map_toArray, List.map_cons, List.map_nil, Act.eval, Array.getD_eq_getD_getElem?, Option.getD_some, e81, e84]; rfl)) ?_
   with_reducible refine (sub_c _ _ ((a0 - d0) * (c1 - d1)) ((a1 - d1) * (c0 - d0)) p2 p3 _ (q6) (q9)).mono ?_
   rintro e w1 ⟨r, rfl, hN, hb⟩
   exact ⟨_, rfl, hK.out _ _ (step_ 10 hR rfl rfl hb_ hb (GM _ _ hG hb) hN (fun h => by cases h) (fun _ => HM _ _ HH hb) rfl)⟩
  refine steps_cons ?_ ?_
  ·rintro b a w' ⟨ms, hR⟩ hb_ hon hoff
   obtain ⟨ha, hF, hD, hG, _⟩ := id hR
   have hG1 := hG
   rw [hGd] at hG1
   obtain ⟨HBl, HSz, Bx4, Bx5, Bx6, Bx7, Bx9, Bx10, Bx11, Bx12, Bx13, Bx14, Ni0, Ni1, Ni2, Ni3, Ni4, Ni5, Rs⟩ := hG1
   have HH := hR.2.2.2.2 (hoff 13 (by kernel_rfl))
   refine ⟨_, rfl, fun K hK => ?_⟩
   have e78 : a.tmps[78]? = some (ms 3) := on_ 3 ha rfl (hon 3 (by kernel_rfl)) rfl
   have q3 : NI w' (ms 3) (ds b0 b1 d0 d1) := hF 3 (hon 3 (by kernel_rfl))
   have e85 : a.tmps[85]? = some (ms 10) := on_ 10 ha rfl (hon 10 (by kernel_rfl)) rfl
   have q10 : NI w' (ms 10) (((a0 - d0) * (c1 - d1)) - ((a1 - d1) * (c0 - d0))) := hF 10 (hon 10 (by kernel_rfl))
   refine goes_ Try.func32 (by kernel_rfl) rfl #[ms 3, ms 10] (by rfl) rfl rfl (by first | (simp only [List.map_toArray, List.map_cons, List.map_nil, Act.eval, Array.getD_eq_getD_getElem?, Option.getD_some, e78, e85]; done) | (simp only [List.map_toArray, List.map_cons, List.map_nil, Act.eval, Array.getD_eq_getD_getElem?, Option.getD_some, e78, e85]; rfl)) ?_
   with_reducible refine (mul_c _ _ (ds b0 b1 d0 d1) (((a0 - d0) * (c1 - d1)) - ((a1 - d1) * (c0 - d0))) t1 r1 _ (q3) (q10)).mono ?_
   rintro e w1 ⟨r, rfl, hN, hb⟩
   exact ⟨_, rfl, hK.out _ _ (step_ 11 hR rfl rfl hb_ hb (GM _ _ hG hb) hN (fun h => by cases h) (fun _ => HM _ _ HH hb) rfl)⟩
  refine steps_cons ?_ ?_
  ·rintro b a w' ⟨ms, hR⟩ hb_ hon hoff
   obtain ⟨ha, hF, hD, hG, _⟩ := id hR
   have hG1 := hG
   rw [hGd] at hG1
   obtain ⟨HBl, HSz, Bx4, Bx5, Bx6, Bx7, Bx9, Bx10, Bx11, Bx12, Bx13, Bx14, Ni0, Ni1, Ni2, Ni3, Ni4, Ni5, Rs⟩ := hG1
   have HH := hR.2.2.2.2 (hoff 13 (by kernel_rfl))
   refine ⟨_, rfl, fun K hK => ?_⟩
   have e75 : a.tmps[75]? = some (.agg #[x4_12, y4_12]) := (on_ 0 ha rfl (hon 0 (by kernel_rfl)) rfl).trans (congrArg some (hF 0 (hon 0 (by kernel_rfl))))
   have e86 : a.tmps[86]? = some (ms 11) := on_ 11 ha rfl (hon 11 (by kernel_rfl)) rfl
   have q11 : NI w' (ms 11) ((ds b0 b1 d0 d1) * (((a0 - d0) * (c1 - d1)) - ((a1 - d1) * (c0 - d0)))) := hF 11 (hon 11 (by kernel_rfl))
   refine goes_ Try.func34 (by kernel_rfl) rfl #[.agg #[x4_12, y4_12], ms 11] (by rfl) rfl rfl (by first | (simp only [List.map_toArray, List.map_cons, List.map_nil, Act.eval, Array.getD_eq_getD_getElem?, Option.getD_some, e75, e86]; done) | (simp only [List.map_toArray, List.map_cons, List.map_nil, Act.eval, Array.getD_eq_getD_getElem?, Option.getD_some, e75, e86]; rfl)) ?_
   with_reducible refine (sub_c _ _ ((ds a0 a1 d0 d1) * (((b0 - d0) * (c1 - d1)) - ((b1 - d1) * (c0 - d0)))) ((ds b0 b1 d0 d1) * (((a0 - d0) * (c1 - d1)) - ((a1 - d1) * (c0 - d0)))) u0 u1 _ (HH.2) (q11)).mono ?_
   rintro e w1 ⟨r, rfl, hN, hb⟩
   exact ⟨_, rfl, hK.out _ _ (step_ 12 hR rfl rfl hb_ hb (GM _ _ hG hb) hN (fun h => by cases h) (fun _ => HM _ _ HH hb) rfl)⟩
  refine steps_cons ?_ ?_
  ·rintro b a w' ⟨ms, hR⟩ hb_ hon hoff
   obtain ⟨ha, hF, hD, hG, _⟩ := id hR
   have hG1 := hG
   rw [hGd] at hG1
   obtain ⟨HBl, HSz, Bx4, Bx5, Bx6, Bx7, Bx9, Bx10, Bx11, Bx12, Bx13, Bx14, Ni0, Ni1, Ni2, Ni3, Ni4, Ni5, Rs⟩ := hG1
   have HH := True.intro
   refine ⟨_, rfl, fun K hK => ?_⟩
   have hn := hF 12 (hon 12 (by kernel_rfl))
   obtain ⟨sz, Az, lz, cz, ev⟩ := NI.shape hn
   have e87 : a.tmps[87]? = some (.agg #[.int .i64 sz, .slice Az lz cz]) := (on_ 12 ha rfl (hon 12 (by kernel_rfl)) rfl).trans (congrArg some ev)
   have e15 : a.tmps[15]? = some (.pointer (some ⟨g4_11, 0, none⟩)) := (off_ ha rfl).trans rfl
   obtain ⟨x0, y0, hgh⟩ := Rs
   have h0 : w'.cell? ⟨g4_11, 0, none⟩ = some x0 := (blk_cell hgh 0).trans rfl
   have h1 : w'.cell? ⟨g4_11, 1, none⟩ = some y0 := (blk_cell hgh 1).trans rfl
   have f0 := blk_frozen hgh 0
   have f1 := blk_frozen hgh 1
   have HR := Aside0.mk hR
   clear hR ha
   refine skip_ (w1 := ?_) (by rfl) rfl ?_ ?_
   rotate_left
   ·go_simp
    rfl
   exact hK.out _ _ (fin_ HR.out rfl (hall_ (by kernel_rfl) hon) rfl hb_ rfl hgh (by show g4_11 < K5; omega) ⟨_, _, blk_put (blk_put hgh 0 _ rfl) 1 _ rfl, by rw [← ev]; exact NI.store (NI.store hn hgh (by decide) 0 _) (blk_put hgh 0 _ rfl) (by decide) 1 _⟩ (GR _ _ _ _ _ hG hgh) rfl)
  exact steps_nil
 rintro b a V5 hall ⟨ms, ha, hF, hD, hG, _⟩
 rw [hGd] at hG
 obtain ⟨HBl, HSz, Bx4, Bx5, Bx6, Bx7, Bx9, Bx10, Bx11, Bx12, Bx13, Bx14, Ni0, Ni1, Ni2, Ni3, Ni4, Ni5, Rs⟩ := hG
 have bb5_0 := hall 0 (by kernel_rfl)
 have bb5_1 := hall 1 (by kernel_rfl)
 have bb5_2 := hall 2 (by kernel_rfl)
 have bb5_3 := hall 3 (by kernel_rfl)
 have bb5_4 := hall 4 (by kernel_rfl)
 have bb5_5 := hall 5 (by kernel_rfl)
 have bb5_6 := hall 6 (by kernel_rfl)
 have bb5_7 := hall 7 (by kernel_rfl)
 have bb5_8 := hall 8 (by kernel_rfl)
 have bb5_9 := hall 9 (by kernel_rfl)
 have bb5_10 := hall 10 (by kernel_rfl)
 have bb5_11 := hall 11 (by kernel_rfl)
 have bb5_12 := hall 12 (by kernel_rfl)
 have bb5_13 := hall 13 (by kernel_rfl)
 have m5_0 : ms 0 = .agg #[x4_12, y4_12] := hF 0 bb5_0
 have m5_1 : ms 1 = .agg #[.int .i64 b0, .int .i64 b1] := hF 1 bb5_1
 have m5_2 : ms 2 = .agg #[.int .i64 d0, .int .i64 d1] := hF 2 bb5_2
 have m5_3 : NI V5 (ms 3) (ds b0 b1 d0 d1) := hF 3 bb5_3
 have m5_4 : ms 4 = .agg #[x3_36, y3_36] := hF 4 bb5_4
 have m5_5 : ms 5 = .agg #[x3_41, y3_41] := hF 5 bb5_5
 have m5_6 : NI V5 (ms 6) ((a0 - d0) * (c1 - d1)) := hF 6 bb5_6
 have m5_7 : ms 7 = .agg #[x3_37, y3_37] := hF 7 bb5_7
 have m5_8 : ms 8 = .agg #[x3_40, y3_40] := hF 8 bb5_8
 have m5_9 : NI V5 (ms 9) ((a1 - d1) * (c0 - d0)) := hF 9 bb5_9
 have m5_10 : NI V5 (ms 10) (((a0 - d0) * (c1 - d1)) - ((a1 - d1) * (c0 - d0))) := hF 10 bb5_10
 have m5_11 : NI V5 (ms 11) ((ds b0 b1 d0 d1) * (((a0 - d0) * (c1 - d1)) - ((a1 - d1) * (c0 - d0)))) := hF 11 bb5_11
 have m5_12 : NI V5 (ms 12) (((ds a0 a1 d0 d1) * (((b0 - d0) * (c1 - d1)) - ((b1 - d1) * (c0 - d0)))) - ((ds b0 b1 d0 d1) * (((a0 - d0) * (c1 - d1)) - ((a1 - d1) * (c0 - d0))))) := hF 12 bb5_12
 obtain ⟨_, x5_13, y5_13, h5_13, m5_13⟩ := hF 13 bb5_13
 subst ha
 simp only [ent, List.map_cons, List.map_nil, putSel, bb5_0, bb5_1, bb5_2, bb5_3, bb5_4, bb5_5, bb5_6, bb5_7, bb5_8, bb5_9, bb5_10, bb5_11, bb5_12, m5_0, m5_1, m5_2, m5_4, m5_5, m5_7, m5_8, if_true, Act.put, List.setIfInBounds_toArray, List.set_cons_zero, List.set_cons_succ]
 clear hF hD bb5_0 bb5_1 bb5_2 bb5_3 bb5_4 bb5_5 bb5_6 bb5_7 bb5_8 bb5_9 bb5_10 bb5_11 bb5_12 bb5_13
 have hK5 : K5 ≤ V5.heap.size := HSz
 go_wp2_with fail
 obtain ⟨G, hGd⟩ : ∃ G : World → Prop, G = (fun w' => Below w.heap.size w w' ∧ K5 ≤ w'.heap.size ∧ w'.heap[w.heap.size]? = some (.cells #[.int .i64 a0, .int .i64 a1] 23 (0, 0)) ∧ w'.heap[w.heap.size + 1]? = some (.cells #[.int .i64 b0, .int .i64 b1] 23 (0, 0)) ∧ w'.heap[w.heap.size + 1 + 1]? = some (.cells #[.int .i64 c0, .int .i64 c1] 23 (0, 0)) ∧ w'.heap[w.heap.size + 1 + 1 + 1]? = some (.cells #[.int .i64 d0, .int .i64 d1] 23 (0, 0)) ∧ w'.heap[g3_30]? = some (.cells #[x3_36, y3_36] 42 (0, 0)) ∧ w'.heap[g3_31]? = some (.cells #[x3_37, y3_37] 42 (0, 0)) ∧ w'.heap[g3_32]? = some (.cells #[x3_38, y3_38] 42 (0, 0)) ∧ w'.heap[g3_33]? = some (.cells #[x3_39, y3_39] 42 (0, 0)) ∧ w'.heap[g3_34]? = some (.cells #[x3_40, y3_40] 42 (0, 0)) ∧ w'.heap[g3_35]? = some (.cells #[x3_41, y3_41] 42 (0, 0)) ∧ NI w' (.agg #[x3_36, y3_36]) (a0 - d0) ∧ NI w' (.agg #[x3_37, y3_37]) (a1 - d1) ∧ NI w' (.agg #[x3_38, y3_38]) (b0 - d0) ∧ NI w' (.agg #[x3_39, y3_39]) (b1 - d1) ∧ NI w' (.agg #[x3_40, y3_40]) (c0 - d0) ∧ NI w' (.agg #[x3_41, y3_41]) (c1 - d1) ∧ ∃ x y, w'.heap[g4_11]? = some (.cells #[x, y] 42 (0, 0))) := ⟨_, rfl⟩
 have GM : ∀ w1 w2 : World, G w1 → Below w1.heap.size w1 w2 → G w2 := by
  subst hGd
  rintro w1 w2 ⟨HBl, HSz, Bx4, Bx5, Bx6, Bx7, Bx9, Bx10, Bx11, Bx12, Bx13, Bx14, Ni0, Ni1, Ni2, Ni3, Ni4, Ni5, Rs⟩ hb
  exact ⟨below_step HBl hb, Nat.le_trans HSz hb.size, blk_below Bx4 hb, blk_below Bx5 hb, blk_below Bx6 hb, blk_below Bx7 hb, blk_below Bx9 hb, blk_below Bx10 hb, blk_below Bx11 hb, blk_below Bx12 hb, blk_below Bx13 hb, blk_below Bx14 hb, NI.below Ni0 hb, NI.below Ni1 hb, NI.below Ni2 hb, NI.below Ni3 hb, NI.below Ni4 hb, NI.below Ni5 hb, (Rs.elim fun x h => h.elim fun y h => ⟨x, y, blk_below h hb⟩)⟩
 have HM : ∀ w1 w2 : World, (fun w' => w'.heap[g4_11]? = some (.cells #[x5_13, y5_13] 42 (0, 0)) ∧ NI w' (.agg #[x5_13, y5_13]) (((ds a0 a1 d0 d1) * (((b0 - d0) * (c1 - d1)) - ((b1 - d1) * (c0 - d0)))) - ((ds b0 b1 d0 d1) * (((a0 - d0) * (c1 - d1)) - ((a1 - d1) * (c0 - d0)))))) w1 → Below w1.heap.size w1 w2 → (fun w' => w'.heap[g4_11]? = some (.cells #[x5_13, y5_13] 42 (0, 0)) ∧ NI w' (.agg #[x5_13, y5_13]) (((ds a0 a1 d0 d1) * (((b0 - d0) * (c1 - d1)) - ((b1 - d1) * (c0 - d0)))) - ((ds b0 b1 d0 d1) * (((a0 - d0) * (c1 - d1)) - ((a1 - d1) * (c0 - d0)))))) w2 := fun w1 w2 h hb => ⟨blk_below h.1 hb, h.2.below hb⟩
 have GR : ∀ (w1 : World) (x0 y0 x y : Value), G w1 → w1.heap[g4_11]? = some (.cells #[x0, y0] 42 (0, 0)) → G ((w1.setCell ⟨g4_11, 0, none⟩ x).setCell ⟨g4_11, 1, none⟩ y) := by
  subst hGd
  rintro w1 x0 y0 x y ⟨HBl, HSz, Bx4, Bx5, Bx6, Bx7, Bx9, Bx10, Bx11, Bx12, Bx13, Bx14, Ni0, Ni1, Ni2, Ni3, Ni4, Ni5, Rs⟩ hgh
  have hle : w.heap.size ≤ g4_11 := by omega
  exact ⟨below_set2 HBl hle _ _ _ _, (by simpa [World.setCell] using HSz), blk_far (blk_far Bx4 (fun e => by have e1 : (w.heap.size : Nat) = g4_11 := e; omega) _) (fun e => by have e1 : (w.heap.size : Nat) = g4_11 := e; omega) _, blk_far (blk_far Bx5 (fun e => by have e1 : (w.heap.size + 1 : Nat) = g4_11 := e; omega) _) (fun e => by have e1 : (w.heap.size + 1 : Nat) = g4_11 := e; omega) _, blk_far (blk_far Bx6 (fun e => by have e1 : (w.heap.size + 1 + 1 : Nat) = g4_11 := e; omega) _) (fun e => by have e1 : (w.heap.size + 1 + 1 : Nat) = g4_11 := e; omega) _, blk_far (blk_far Bx7 (fun e => by have e1 : (w.heap.size + 1 + 1 + 1 : Nat) = g4_11 := e; omega) _) (fun e => by have e1 : (w.heap.size + 1 + 1 + 1 : Nat) = g4_11 := e; omega) _, blk_far (blk_far Bx9 (fun e => by have e1 : (g3_30 : Nat) = g4_11 := e; omega) _) (fun e => by have e1 : (g3_30 : Nat) = g4_11 := e; omega) _, blk_far (blk_far Bx10 (fun e => by have e1 : (g3_31 : Nat) = g4_11 := e; omega) _) (fun e => by have e1 : (g3_31 : Nat) = g4_11 := e; omega) _, blk_far (blk_far Bx11 (fun e => by have e1 : (g3_32 : Nat) = g4_11 := e; omega) _) (fun e => by have e1 : (g3_32 : Nat) = g4_11 := e; omega) _, blk_far (blk_far Bx12 (fun e => by have e1 : (g3_33 : Nat) = g4_11 := e; omega) _) (fun e => by have e1 : (g3_33 : Nat) = g4_11 := e; omega) _, blk_far (blk_far Bx13 (fun e => by have e1 : (g3_34 : Nat) = g4_11 := e; omega) _) (fun e => by have e1 : (g3_34 : Nat) = g4_11 := e; omega) _, blk_far (blk_far Bx14 (fun e => by have e1 : (g3_35 : Nat) = g4_11 := e; omega) _) (fun e => by have e1 : (g3_35 : Nat) = g4_11 := e; omega) _, NI.store (NI.store Ni0 hgh (by decide) 0 _) (blk_put hgh 0 _ rfl) (by decide) 1 _, NI.store (NI.store Ni1 hgh (by decide) 0 _) (blk_put hgh 0 _ rfl) (by decide) 1 _, NI.store (NI.store Ni2 hgh (by decide) 0 _) (blk_put hgh 0 _ rfl) (by decide) 1 _, NI.store (NI.store Ni3 hgh (by decide) 0 _) (blk_put hgh 0 _ rfl) (by decide) 1 _, NI.store (NI.store Ni4 hgh (by decide) 0 _) (blk_put hgh 0 _ rfl) (by decide) 1 _, NI.store (NI.store Ni5 hgh (by decide) 0 _) (blk_put hgh 0 _ rfl) (by decide) 1 _, _, _, blk_put (blk_put hgh 0 _ rfl) 1 _ rfl⟩
 refine start_ (n := 14) (S := fun w' => True) (ds := []) #[false, false, false, false, false, false, false, false, false, false, false, false, false, false] (by kernel_rfl) rfl rfl trivial (fun _ => ?_); refine with_tabW inc6.tab inc6.bits (fun HT_ HW_ => ?_)
 have hG0 : G V5.drew := by subst hGd; exact ⟨below_drew HBl, hK5, Bx4, Bx5, Bx6, Bx7, Bx9, Bx10, Bx11, Bx12, Bx13, Bx14, Ni0.drewN 1, Ni1.drewN 1, Ni2.drewN 1, Ni3.drewN 1, Ni4.drewN 1, Ni5.drewN 1, _, _, h5_13⟩
 have hH0 : (fun w' => w'.heap[g4_11]? = some (.cells #[x5_13, y5_13] 42 (0, 0)) ∧ NI w' (.agg #[x5_13, y5_13]) (((ds a0 a1 d0 d1) * (((b0 - d0) * (c1 - d1)) - ((b1 - d1) * (c0 - d0)))) - ((ds b0 b1 d0 d1) * (((a0 - d0) * (c1 - d1)) - ((a1 - d1) * (c0 - d0)))))) V5.drew := ⟨h5_13, m5_13.drewN 1⟩
 generalize V5.drew = W1 at hG0 hH0 ⊢
 refine inv_at [0, 1, 2, 3, 4, 5, 6, 7, 8, 9, 10, 11, 12, 13] (fun a0_ b a w' => Rg ⟨[0, 1, 2, 3, 4, 5, 6, 7, 8, 9, 10, 11, 12, 13], [(0, 88), (1, 89), (2, 90), (3, 91), (4, 92), (5, 93), (6, 94), (7, 95), (8, 96), (9, 97), (10, 98), (11, 99), (12, 100)], fun j => [.const (.agg #[x5_13, y5_13]), .const (.agg #[.int .i64 c0, .int .i64 c1]), .const (.agg #[.int .i64 d0, .int .i64 d1]), .ni (ds c0 c1 d0 d1), .const (.agg #[x3_36, y3_36]), .const (.agg #[x3_39, y3_39]), .ni ((a0 - d0) * (b1 - d1)), .const (.agg #[x3_37, y3_37]), .const (.agg #[x3_38, y3_38]), .ni ((a1 - d1) * (b0 - d0)), .ni (((a0 - d0) * (b1 - d1)) - ((a1 - d1) * (b0 - d0))), .ni ((ds c0 c1 d0 d1) * (((a0 - d0) * (b1 - d1)) - ((a1 - d1) * (b0 - d0)))), .ni ((((ds a0 a1 d0 d1) * (((b0 - d0) * (c1 - d1)) - ((b1 - d1) * (c0 - d0)))) - ((ds b0 b1 d0 d1) * (((a0 - d0) * (c1 - d1)) - ((a1 - d1) * (c0 - d0))))) + ((ds c0 c1 d0 d1) * (((a0 - d0) * (b1 - d1)) - ((a1 - d1) * (b0 - d0))))), .fin (fun ms w' => ∃ x y, w'.heap[g4_11]? = some (.cells #[x, y] 42 (0, 0)) ∧ NI w' (.agg #[x, y]) ((((ds a0 a1 d0 d1) * (((b0 - d0) * (c1 - d1)) - ((b1 - d1) * (c0 - d0)))) - ((ds b0 b1 d0 d1) * (((a0 - d0) * (c1 - d1)) - ((a1 - d1) * (c0 - d0))))) + ((ds c0 c1 d0 d1) * (((a0 - d0) * (b1 - d1)) - ((a1 - d1) * (b0 - d0))))))].getD j .box, K5, 0, G, fun w' => w'.heap[g4_11]? = some (.cells #[x5_13, y5_13] 42 (0, 0)) ∧ NI w' (.agg #[x5_13, y5_13]) (((ds a0 a1 d0 d1) * (((b0 - d0) * (c1 - d1)) - ((b1 - d1) * (c0 - d0)))) - ((ds b0 b1 d0 d1) * (((a0 - d0) * (c1 - d1)) - ((a1 - d1) * (c0 - d0))))), 13⟩ a0_ b a w') HT_.out HW_.out (by kernel_rfl) (by kernel_rfl) ?_ ?_ ?_
 ·exact rg0 hG0 hH0
 ·refine steps_cons ?_ ?_
  ·rintro b a w' ⟨ms, hR⟩ hb_ hon hoff
   obtain ⟨ha, hF, hD, hG, _⟩ := id hR
   have hG1 := hG
   rw [hGd] at hG1
   obtain ⟨HBl, HSz, Bx4, Bx5, Bx6, Bx7, Bx9, Bx10, Bx11, Bx12, Bx13, Bx14, Ni0, Ni1, Ni2, Ni3, Ni4, Ni5, Rs⟩ := hG1
   have HH := hR.2.2.2.2 (hoff 13 (by kernel_rfl))
   refine ⟨_, rfl, fun K hK => ?_⟩
   have e15 : a.tmps[15]? = some (.pointer (some ⟨g4_11, 0, none⟩)) := (off_ ha rfl).trans rfl
   have hc0 : w'.cell? ⟨g4_11, 0, none⟩ = some (x5_13) := (blk_cell HH.1 0).trans rfl
   have hc1 : w'.cell? ⟨g4_11, 1, none⟩ = some (y5_13) := (blk_cell HH.1 1).trans rfl
   have HR := Aside0.mk hR
   clear hR ha hF
   refine value_ (w1 := w') (v := .agg #[x5_13, y5_13]) (by rfl) rfl ?_ ?_
   ·go_simp
    (try simp only [i64_w])
    try rfl
   exact hK.out _ _ (step_ 0 HR.out rfl rfl hb_ (Below.refl _ _) hG rfl (fun h => by cases h) (fun _ => HH) rfl)
  refine steps_cons ?_ ?_
  ·rintro b a w' ⟨ms, hR⟩ hb_ hon hoff
   obtain ⟨ha, hF, hD, hG, _⟩ := id hR
   have hG1 := hG
   rw [hGd] at hG1
   obtain ⟨HBl, HSz, Bx4, Bx5, Bx6, Bx7, Bx9, Bx10, Bx11, Bx12, Bx13, Bx14, Ni0, Ni1, Ni2, Ni3, Ni4, Ni5, Rs⟩ := hG1
   have HH := hR.2.2.2.2 (hoff 13 (by kernel_rfl))
   refine ⟨_, rfl, fun K hK => ?_⟩
   have e6 : a.tmps[6]? = some (.pointer (some ⟨w.heap.size + 1 + 1, 0, none⟩)) := (off_ ha rfl).trans rfl
   have hc0 : w'.cell? ⟨w.heap.size + 1 + 1, 0, none⟩ = some (.int .i64 c0) := (blk_cell Bx6 0).trans rfl
   have hc1 : w'.cell? ⟨w.heap.size + 1 + 1, 1, none⟩ = some (.int .i64 c1) := (blk_cell Bx6 1).trans rfl
   have HR := Aside0.mk hR
   clear hR ha hF
   refine value_ (w1 := w') (v := .agg #[.int .i64 c0, .int .i64 c1]) (by rfl) rfl ?_ ?_
   ·go_simp
    (try simp only [i64_w])
    try rfl
   exact hK.out _ _ (step_ 1 HR.out rfl rfl hb_ (Below.refl _ _) hG rfl (fun h => by cases h) (fun _ => HH) rfl)
  refine steps_cons ?_ ?_
  ·rintro b a w' ⟨ms, hR⟩ hb_ hon hoff
   obtain ⟨ha, hF, hD, hG, _⟩ := id hR
   have hG1 := hG
   rw [hGd] at hG1
   obtain ⟨HBl, HSz, Bx4, Bx5, Bx6, Bx7, Bx9, Bx10, Bx11, Bx12, Bx13, Bx14, Ni0, Ni1, Ni2, Ni3, Ni4, Ni5, Rs⟩ := hG1
   have HH := hR.2.2.2.2 (hoff 13 (by kernel_rfl))
   refine ⟨_, rfl, fun K hK => ?_⟩
   have e7 : a.tmps[7]? = some (.pointer (some ⟨w.heap.size + 1 + 1 + 1, 0, none⟩)) := (off_ ha rfl).trans rfl
   have hc0 : w'.cell? ⟨w.heap.size + 1 + 1 + 1, 0, none⟩ = some (.int .i64 d0) := (blk_cell Bx7 0).trans rfl
   have hc1 : w'.cell? ⟨w.heap.size + 1 + 1 + 1, 1, none⟩ = some (.int .i64 d1) := (blk_cell Bx7 1).trans rfl
   have HR := Aside0.mk hR
   clear hR ha hF
   refine value_ (w1 := w') (v := .agg #[.int .i64 d0, .int .i64 d1]) (by rfl) rfl ?_ ?_
   ·go_simp
    (try simp only [i64_w])
    try rfl
   exact hK.out _ _ (step_ 2 HR.out rfl rfl hb_ (Below.refl _ _) hG rfl (fun h => by cases h) (fun _ => HH) rfl)
  refine steps_cons ?_ ?_
  ·rintro b a w' ⟨ms, hR⟩ hb_ hon hoff
   obtain ⟨ha, hF, hD, hG, _⟩ := id hR
   have hG1 := hG
   rw [hGd] at hG1
   obtain ⟨HBl, HSz, Bx4, Bx5, Bx6, Bx7, Bx9, Bx10, Bx11, Bx12, Bx13, Bx14, Ni0, Ni1, Ni2, Ni3, Ni4, Ni5, Rs⟩ := hG1
   have HH := hR.2.2.2.2 (hoff 13 (by kernel_rfl))
   refine ⟨_, rfl, fun K hK => ?_⟩
   have e89 : a.tmps[89]? = some (.agg #[.int .i64 c0, .int .i64 c1]) := (on_ 1 ha rfl (hon 1 (by kernel_rfl)) rfl).trans (congrArg some (hF 1 (hon 1 (by kernel_rfl))))
   have e90 : a.tmps[90]? = some (.agg #[.int .i64 d0, .int .i64 d1]) := (on_ 2 ha rfl (hon 2 (by kernel_rfl)) rfl).trans (congrArg some (hF 2 (hon 2 (by kernel_rfl))))
   refine goes_ Try.func33 (by kernel_rfl) rfl #[.agg #[.int .i64 c0, .int .i64 c1], .agg #[.int .i64 d0, .int .i64 d1]] (by rfl) rfl rfl (by first | (simp only [List.map_toArray, List.map_cons, List.map_nil, Act.eval, Array.getD_eq_getD_getElem?, Option.getD_some, e89, e90]; done) | (simp only [List.map_toArray, List.map_cons, List.map_nil, Act.eval, Array.getD_eq_getD_getElem?, Option.getD_some, e89, e90]; rfl)) ?_
   with_reducible refine (dist_c Qc Qd _).mono ?_
   rintro e w1 ⟨r, rfl, hN, hb⟩
   exact ⟨_, rfl, hK.out _ _ (step_ 3 hR rfl rfl hb_ hb (GM _ _ hG hb) hN (fun h => by cases h) (fun _ => HM _ _ HH hb) rfl)⟩
  refine steps_cons ?_ ?_
  ·rintro b a w' ⟨ms, hR⟩ hb_ hon hoff
   obtain ⟨ha, hF, hD, hG, _⟩ := id hR
   have hG1 := hG
   rw [hGd] at hG1
   obtain ⟨HBl, HSz, Bx4, Bx5, Bx6, Bx7, Bx9, Bx10, Bx11, Bx12, Bx13, Bx14, Ni0, Ni1, Ni2, Ni3, Ni4, Ni5, Rs⟩ := hG1
   have HH := hR.2.2.2.2 (hoff 13 (by kernel_rfl))
   refine ⟨_, rfl, fun K hK => ?_⟩
   have e9 : a.tmps[9]? = some (.pointer (some ⟨g3_30, 0, none⟩)) := (off_ ha rfl).trans rfl
   have hc0 : w'.cell? ⟨g3_30, 0, none⟩ = some (x3_36) := (blk_cell Bx9 0).trans rfl
   have hc1 : w'.cell? ⟨g3_30, 1, none⟩ = some (y3_36) := (blk_cell Bx9 1).trans rfl
   have HR := Aside0.mk hR
   clear hR ha hF
   refine value_ (w1 := w') (v := .agg #[x3_36, y3_36]) (by rfl) rfl ?_ ?_
   ·go_simp
    (try simp only [i64_w])
    try rfl
   exact hK.out _ _ (step_ 4 HR.out rfl rfl hb_ (Below.refl _ _) hG rfl (fun h => by cases h) (fun _ => HH) rfl)
  refine steps_cons ?_ ?_
  ·rintro b a w' ⟨ms, hR⟩ hb_ hon hoff
   obtain ⟨ha, hF, hD, hG, _⟩ := id hR
   have hG1 := hG
   rw [hGd] at hG1
   obtain ⟨HBl, HSz, Bx4, Bx5, Bx6, Bx7, Bx9, Bx10, Bx11, Bx12, Bx13, Bx14, Ni0, Ni1, Ni2, Ni3, Ni4, Ni5, Rs⟩ := hG1
   have HH := hR.2.2.2.2 (hoff 13 (by kernel_rfl))
   refine ⟨_, rfl, fun K hK => ?_⟩
   have e12 : a.tmps[12]? = some (.pointer (some ⟨g3_33, 0, none⟩)) := (off_ ha rfl).trans rfl
   have hc0 : w'.cell? ⟨g3_33, 0, none⟩ = some (x3_39) := (blk_cell Bx12 0).trans rfl
   have hc1 : w'.cell? ⟨g3_33, 1, none⟩ = some (y3_39) := (blk_cell Bx12 1).trans rfl
   have HR := Aside0.mk hR
   clear hR ha hF
   refine value_ (w1 := w') (v := .agg #[x3_39, y3_39]) (by rfl) rfl ?_ ?_
   ·go_simp
    (try simp only [i64_w])
    try rfl
   exact hK.out _ _ (step_ 5 HR.out rfl rfl hb_ (Below.refl _ _) hG rfl (fun h => by cases h) (fun _ => HH) rfl)
  refine steps_cons ?_ ?_
  ·rintro b a w' ⟨ms, hR⟩ hb_ hon hoff
   obtain ⟨ha, hF, hD, hG, _⟩ := id hR
   have hG1 := hG
   rw [hGd] at hG1
   obtain ⟨HBl, HSz, Bx4, Bx5, Bx6, Bx7, Bx9, Bx10, Bx11, Bx12, Bx13, Bx14, Ni0, Ni1, Ni2, Ni3, Ni4, Ni5, Rs⟩ := hG1
   have HH := hR.2.2.2.2 (hoff 13 (by kernel_rfl))
   refine ⟨_, rfl, fun K hK => ?_⟩
   have e92 : a.tmps[92]? = some (.agg #[x3_36, y3_36]) := (on_ 4 ha rfl (hon 4 (by kernel_rfl)) rfl).trans (congrArg some (hF 4 (hon 4 (by kernel_rfl))))
   have e93 : a.tmps[93]? = some (.agg #[x3_39, y3_39]) := (on_ 5 ha rfl (hon 5 (by kernel_rfl)) rfl).trans (congrArg some (hF 5 (hon 5 (by kernel_rfl))))
   refine goes_ Try.func32 (by kernel_rfl) rfl #[.agg #[x3_36, y3_36], .agg #[x3_39, y3_39]] (by rfl) rfl rfl (by first | (simp only [List.map_toArray, List.map_cons, List.map_nil, Act.eval, Array.getD_eq_getD_getElem?, Option.getD_some, e92, e93]; done) | (simp only [List.map_toArray, List.map_cons, List.map_nil, Act.eval, Array.getD_eq_getD_getElem?, Option.getD_some, e92, e93]; rfl)) ?_
   with_reducible refine (mul_c _ _ (a0 - d0) (b1 - d1) s0 s3 _ (Ni0) (Ni3)).mono ?_
   rintro e w1 ⟨r, rfl, hN, hb⟩
   exact ⟨_, rfl, hK.out _ _ (step_ 6 hR rfl rfl hb_ hb (GM _ _ hG hb) hN (fun h => by cases h) (fun _ => HM _ _ HH hb) rfl)⟩
  refine steps_cons ?_ ?_
  ·rintro b a w' ⟨ms, hR⟩ hb_ hon hoff
   obtain ⟨ha, hF, hD, hG, _⟩ := id hR
   have hG1 := hG
   rw [hGd] at hG1
   obtain ⟨HBl, HSz, Bx4, Bx5, Bx6, Bx7, Bx9, Bx10, Bx11, Bx12, Bx13, Bx14, Ni0, Ni1, Ni2, Ni3, Ni4, Ni5, Rs⟩ := hG1
   have HH := hR.2.2.2.2 (hoff 13 (by kernel_rfl))
   refine ⟨_, rfl, fun K hK => ?_⟩
   have e10 : a.tmps[10]? = some (.pointer (some ⟨g3_31, 0, none⟩)) := (off_ ha rfl).trans rfl
   have hc0 : w'.cell? ⟨g3_31, 0, none⟩ = some (x3_37) := (blk_cell Bx10 0).trans rfl
   have hc1 : w'.cell? ⟨g3_31, 1, none⟩ = some (y3_37) := (blk_cell Bx10 1).trans rfl
   have HR := Aside0.mk hR
   clear hR ha hF
   refine value_ (w1 := w') (v := .agg #[x3_37, y3_37]) (by rfl) rfl ?_ ?_
   ·go_simp
    (try simp only [i64_w])
    try rfl
   exact hK.out _ _ (step_ 7 HR.out rfl rfl hb_ (Below.refl _ _) hG rfl (fun h => by cases h) (fun _ => HH) rfl)
  refine steps_cons ?_ ?_
  ·rintro b a w' ⟨ms, hR⟩ hb_ hon hoff
   obtain ⟨ha, hF, hD, hG, _⟩ := id hR
   have hG1 := hG
   rw [hGd] at hG1
   obtain ⟨HBl, HSz, Bx4, Bx5, Bx6, Bx7, Bx9, Bx10, Bx11, Bx12, Bx13, Bx14, Ni0, Ni1, Ni2, Ni3, Ni4, Ni5, Rs⟩ := hG1
   have HH := hR.2.2.2.2 (hoff 13 (by kernel_rfl))
   refine ⟨_, rfl, fun K hK => ?_⟩
   have e11 : a.tmps[11]? = some (.pointer (some ⟨g3_32, 0, none⟩)) := (off_ ha rfl).trans rfl
   have hc0 : w'.cell? ⟨g3_32, 0, none⟩ = some (x3_38) := (blk_cell Bx11 0).trans rfl
   have hc1 : w'.cell? ⟨g3_32, 1, none⟩ = some (y3_38) := (blk_cell Bx11 1).trans rfl
   have HR := Aside0.mk hR
   clear hR ha hF
   refine value_ (w1 := w') (v := .agg #[x3_38, y3_38]) (by rfl) rfl ?_ ?_
   ·go_simp
    (try simp only [i64_w])
    try rfl
   exact hK.out _ _ (step_ 8 HR.out rfl rfl hb_ (Below.refl _ _) hG rfl (fun h => by cases h) (fun _ => HH) rfl)
  refine steps_cons ?_ ?_
  ·rintro b a w' ⟨ms, hR⟩ hb_ hon hoff
   obtain ⟨ha, hF, hD, hG, _⟩ := id hR
   have hG1 := hG
   rw [hGd] at hG1
   obtain ⟨HBl, HSz, Bx4, Bx5, Bx6, Bx7, Bx9, Bx10, Bx11, Bx12, Bx13, Bx14, Ni0, Ni1, Ni2, Ni3, Ni4, Ni5, Rs⟩ := hG1
   have HH := hR.2.2.2.2 (hoff 13 (by kernel_rfl))
   refine ⟨_, rfl, fun K hK => ?_⟩
   have e95 : a.tmps[95]? = some (.agg #[x3_37, y3_37]) := (on_ 7 ha rfl (hon 7 (by kernel_rfl)) rfl).trans (congrArg some (hF 7 (hon 7 (by kernel_rfl))))
   have e96 : a.tmps[96]? = some (.agg #[x3_38, y3_38]) := (on_ 8 ha rfl (hon 8 (by kernel_rfl)) rfl).trans (congrArg some (hF 8 (hon 8 (by kernel_rfl))))
   refine goes_ Try.func32 (by kernel_rfl) rfl #[.agg #[x3_37, y3_37], .agg #[x3_38, y3_38]] (by rfl) rfl rfl (by first | (simp only [List.map_toArray, List.map_cons, List.map_nil, Act.eval, Array.getD_eq_getD_getElem?, Option.getD_some, e95, e96]; done) | (simp only [List.map_toArray, List.map_cons, List.map_nil, Act.eval, Array.getD_eq_getD_getElem?, Option.getD_some, e95, e96]; rfl)) ?_
   with_reducible refine (mul_c _ _ (a1 - d1) (b0 - d0) s1 s2 _ (Ni1) (Ni2)).mono ?_
   rintro e w1 ⟨r, rfl, hN, hb⟩
   exact ⟨_, rfl, hK.out _ _ (step_ 9 hR rfl rfl hb_ hb (GM _ _ hG hb) hN (fun h => by cases h) (fun _ => HM _ _ HH hb) rfl)⟩
  refine steps_cons ?_ ?_
  ·rintro b a w' ⟨ms, hR⟩ hb_ hon hoff
   obtain ⟨ha, hF, hD, hG, _⟩ := id hR
   have hG1 := hG
   rw [hGd] at hG1
   obtain ⟨HBl, HSz, Bx4, Bx5, Bx6, Bx7, Bx9, Bx10, Bx11, Bx12, Bx13, Bx14, Ni0, Ni1, Ni2, Ni3, Ni4, Ni5, Rs⟩ := hG1
   have HH := hR.2.2.2.2 (hoff 13 (by kernel_rfl))
   refine ⟨_, rfl, fun K hK => ?_⟩
   have e94 : a.tmps[94]? = some (ms 6) := on_ 6 ha rfl (hon 6 (by kernel_rfl)) rfl
   have q6 : NI w' (ms 6) ((a0 - d0) * (b1 - d1)) := hF 6 (hon 6 (by kernel_rfl))
   have e97 : a.tmps[97]? = some (ms 9) := on_ 9 ha rfl (hon 9 (by kernel_rfl)) rfl
   have q9 : NI w' (ms 9) ((a1 - d1) * (b0 - d0)) := hF 9 (hon 9 (by kernel_rfl))
   refine goes_ Try.func34 (by kernel_rfl) rfl #[ms 6, ms 9] (by rfl) rfl rfl (by first | (simp only [List.map_toArray, List.map_cons, List.map_nil, Act.eval, Array.getD_eq_getD_getElem?, Option.getD_some, e94, e97]; done) | (simp only [List.map_toArray, List.map_cons, List.map_nil, Act.eval, Array.getD_eq_getD_getElem?, Option.getD_some, e94, e97]; rfl)) ?_
   with_reducible refine (sub_c _ _ ((a0 - d0) * (b1 - d1)) ((a1 - d1) * (b0 - d0)) p4 p5 _ (q6) (q9)).mono ?_
   rintro e w1 ⟨r, rfl, hN, hb⟩
   exact ⟨_, rfl, hK.out _ _ (step_ 10 hR rfl rfl hb_ hb (GM _ _ hG hb) hN (fun h => by cases h) (fun _ => HM _ _ HH hb) rfl)⟩
  refine steps_cons ?_ ?_
  ·rintro b a w' ⟨ms, hR⟩ hb_ hon hoff
   obtain ⟨ha, hF, hD, hG, _⟩ := id hR
   have hG1 := hG
   rw [hGd] at hG1
   obtain ⟨HBl, HSz, Bx4, Bx5, Bx6, Bx7, Bx9, Bx10, Bx11, Bx12, Bx13, Bx14, Ni0, Ni1, Ni2, Ni3, Ni4, Ni5, Rs⟩ := hG1
   have HH := hR.2.2.2.2 (hoff 13 (by kernel_rfl))
   refine ⟨_, rfl, fun K hK => ?_⟩
   have e91 : a.tmps[91]? = some (ms 3) := on_ 3 ha rfl (hon 3 (by kernel_rfl)) rfl
   have q3 : NI w' (ms 3) (ds c0 c1 d0 d1) := hF 3 (hon 3 (by kernel_rfl))
   have e98 : a.tmps[98]? = some (ms 10) := on_ 10 ha rfl (hon 10 (by kernel_rfl)) rfl
   have q10 : NI w' (ms 10) (((a0 - d0) * (b1 - d1)) - ((a1 - d1) * (b0 - d0))) := hF 10 (hon 10 (by kernel_rfl))
   refine goes_ Try.func32 (by kernel_rfl) rfl #[ms 3, ms 10] (by rfl) rfl rfl (by first | (simp only [List.map_toArray, List.map_cons, List.map_nil, Act.eval, Array.getD_eq_getD_getElem?, Option.getD_some, e91, e98]; done) | (simp only [List.map_toArray, List.map_cons, List.map_nil, Act.eval, Array.getD_eq_getD_getElem?, Option.getD_some, e91, e98]; rfl)) ?_
   with_reducible refine (mul_c _ _ (ds c0 c1 d0 d1) (((a0 - d0) * (b1 - d1)) - ((a1 - d1) * (b0 - d0))) t2 r2 _ (q3) (q10)).mono ?_
   rintro e w1 ⟨r, rfl, hN, hb⟩
   exact ⟨_, rfl, hK.out _ _ (step_ 11 hR rfl rfl hb_ hb (GM _ _ hG hb) hN (fun h => by cases h) (fun _ => HM _ _ HH hb) rfl)⟩
  refine steps_cons ?_ ?_
  ·rintro b a w' ⟨ms, hR⟩ hb_ hon hoff
   obtain ⟨ha, hF, hD, hG, _⟩ := id hR
   have hG1 := hG
   rw [hGd] at hG1
   obtain ⟨HBl, HSz, Bx4, Bx5, Bx6, Bx7, Bx9, Bx10, Bx11, Bx12, Bx13, Bx14, Ni0, Ni1, Ni2, Ni3, Ni4, Ni5, Rs⟩ := hG1
   have HH := hR.2.2.2.2 (hoff 13 (by kernel_rfl))
   refine ⟨_, rfl, fun K hK => ?_⟩
   have e88 : a.tmps[88]? = some (.agg #[x5_13, y5_13]) := (on_ 0 ha rfl (hon 0 (by kernel_rfl)) rfl).trans (congrArg some (hF 0 (hon 0 (by kernel_rfl))))
   have e99 : a.tmps[99]? = some (ms 11) := on_ 11 ha rfl (hon 11 (by kernel_rfl)) rfl
   have q11 : NI w' (ms 11) ((ds c0 c1 d0 d1) * (((a0 - d0) * (b1 - d1)) - ((a1 - d1) * (b0 - d0)))) := hF 11 (hon 11 (by kernel_rfl))
   refine goes_ Try.func35 (by kernel_rfl) rfl #[.agg #[x5_13, y5_13], ms 11] (by rfl) rfl rfl (by first | (simp only [List.map_toArray, List.map_cons, List.map_nil, Act.eval, Array.getD_eq_getD_getElem?, Option.getD_some, e88, e99]; done) | (simp only [List.map_toArray, List.map_cons, List.map_nil, Act.eval, Array.getD_eq_getD_getElem?, Option.getD_some, e88, e99]; rfl)) ?_
   with_reducible refine (add_c _ _ (((ds a0 a1 d0 d1) * (((b0 - d0) * (c1 - d1)) - ((b1 - d1) * (c0 - d0)))) - ((ds b0 b1 d0 d1) * (((a0 - d0) * (c1 - d1)) - ((a1 - d1) * (c0 - d0))))) ((ds c0 c1 d0 d1) * (((a0 - d0) * (b1 - d1)) - ((a1 - d1) * (b0 - d0)))) v1 u2 _ (HH.2) (q11)).mono ?_
   rintro e w1 ⟨r, rfl, hN, hb⟩
   exact ⟨_, rfl, hK.out _ _ (step_ 12 hR rfl rfl hb_ hb (GM _ _ hG hb) hN (fun h => by cases h) (fun _ => HM _ _ HH hb) rfl)⟩
  refine steps_cons ?_ ?_
  ·rintro b a w' ⟨ms, hR⟩ hb_ hon hoff
   obtain ⟨ha, hF, hD, hG, _⟩ := id hR
   have hG1 := hG
   rw [hGd] at hG1
   obtain ⟨HBl, HSz, Bx4, Bx5, Bx6, Bx7, Bx9, Bx10, Bx11, Bx12, Bx13, Bx14, Ni0, Ni1, Ni2, Ni3, Ni4, Ni5, Rs⟩ := hG1
   have HH := True.intro
   refine ⟨_, rfl, fun K hK => ?_⟩
   have hn := hF 12 (hon 12 (by kernel_rfl))
   obtain ⟨sz, Az, lz, cz, ev⟩ := NI.shape hn
   have e100 : a.tmps[100]? = some (.agg #[.int .i64 sz, .slice Az lz cz]) := (on_ 12 ha rfl (hon 12 (by kernel_rfl)) rfl).trans (congrArg some ev)
   have e15 : a.tmps[15]? = some (.pointer (some ⟨g4_11, 0, none⟩)) := (off_ ha rfl).trans rfl
   obtain ⟨x0, y0, hgh⟩ := Rs
   have h0 : w'.cell? ⟨g4_11, 0, none⟩ = some x0 := (blk_cell hgh 0).trans rfl
   have h1 : w'.cell? ⟨g4_11, 1, none⟩ = some y0 := (blk_cell hgh 1).trans rfl
   have f0 := blk_frozen hgh 0
   have f1 := blk_frozen hgh 1
   have HR := Aside0.mk hR
   clear hR ha
   refine skip_ (w1 := ?_) (by rfl) rfl ?_ ?_
   rotate_left
   ·go_simp
    rfl
   exact hK.out _ _ (fin_ HR.out rfl (hall_ (by kernel_rfl) hon) rfl hb_ rfl hgh (by show g4_11 < K5; omega) ⟨_, _, blk_put (blk_put hgh 0 _ rfl) 1 _ rfl, by rw [← ev]; exact NI.store (NI.store hn hgh (by decide) 0 _) (blk_put hgh 0 _ rfl) (by decide) 1 _⟩ (GR _ _ _ _ _ hG hgh) rfl)
  exact steps_nil
 rintro b a V6 hall ⟨ms, ha, hF, hD, hG, _⟩
 rw [hGd] at hG
 obtain ⟨HBl, HSz, Bx4, Bx5, Bx6, Bx7, Bx9, Bx10, Bx11, Bx12, Bx13, Bx14, Ni0, Ni1, Ni2, Ni3, Ni4, Ni5, Rs⟩ := hG
 have bb6_0 := hall 0 (by kernel_rfl)
 have bb6_1 := hall 1 (by kernel_rfl)
 have bb6_2 := hall 2 (by kernel_rfl)
 have bb6_3 := hall 3 (by kernel_rfl)
 have bb6_4 := hall 4 (by kernel_rfl)
 have bb6_5 := hall 5 (by kernel_rfl)
 have bb6_6 := hall 6 (by kernel_rfl)
 have bb6_7 := hall 7 (by kernel_rfl)
 have bb6_8 := hall 8 (by kernel_rfl)
 have bb6_9 := hall 9 (by kernel_rfl)
 have bb6_10 := hall 10 (by kernel_rfl)
 have bb6_11 := hall 11 (by kernel_rfl)
 have bb6_12 := hall 12 (by kernel_rfl)
 have bb6_13 := hall 13 (by kernel_rfl)
 have m6_0 : ms 0 = .agg #[x5_13, y5_13] := hF 0 bb6_0
 have m6_1 : ms 1 = .agg #[.int .i64 c0, .int .i64 c1] := hF 1 bb6_1
 have m6_2 : ms 2 = .agg #[.int .i64 d0, .int .i64 d1] := hF 2 bb6_2
 have m6_3 : NI V6 (ms 3) (ds c0 c1 d0 d1) := hF 3 bb6_3
 have m6_4 : ms 4 = .agg #[x3_36, y3_36] := hF 4 bb6_4
 have m6_5 : ms 5 = .agg #[x3_39, y3_39] := hF 5 bb6_5
 have m6_6 : NI V6 (ms 6) ((a0 - d0) * (b1 - d1)) := hF 6 bb6_6
 have m6_7 : ms 7 = .agg #[x3_37, y3_37] := hF 7 bb6_7
 have m6_8 : ms 8 = .agg #[x3_38, y3_38] := hF 8 bb6_8
 have m6_9 : NI V6 (ms 9) ((a1 - d1) * (b0 - d0)) := hF 9 bb6_9
 have m6_10 : NI V6 (ms 10) (((a0 - d0) * (b1 - d1)) - ((a1 - d1) * (b0 - d0))) := hF 10 bb6_10
 have m6_11 : NI V6 (ms 11) ((ds c0 c1 d0 d1) * (((a0 - d0) * (b1 - d1)) - ((a1 - d1) * (b0 - d0)))) := hF 11 bb6_11
 have m6_12 : NI V6 (ms 12) ((((ds a0 a1 d0 d1) * (((b0 - d0) * (c1 - d1)) - ((b1 - d1) * (c0 - d0)))) - ((ds b0 b1 d0 d1) * (((a0 - d0) * (c1 - d1)) - ((a1 - d1) * (c0 - d0))))) + ((ds c0 c1 d0 d1) * (((a0 - d0) * (b1 - d1)) - ((a1 - d1) * (b0 - d0))))) := hF 12 bb6_12
 obtain ⟨_, x6_13, y6_13, h6_13, m6_13⟩ := hF 13 bb6_13
 subst ha
 simp only [ent, List.map_cons, List.map_nil, putSel, bb6_0, bb6_1, bb6_2, bb6_3, bb6_4, bb6_5, bb6_6, bb6_7, bb6_8, bb6_9, bb6_10, bb6_11, bb6_12, m6_0, m6_1, m6_2, m6_4, m6_5, m6_7, m6_8, if_true, Act.put, List.setIfInBounds_toArray, List.set_cons_zero, List.set_cons_succ]
 clear hF hD bb6_0 bb6_1 bb6_2 bb6_3 bb6_4 bb6_5 bb6_6 bb6_7 bb6_8 bb6_9 bb6_10 bb6_11 bb6_12 bb6_13
 obtain ⟨A, l, c, ev, _⟩ := m6_13.out
 injection ev with ev
 obtain ⟨rfl, rfl⟩ : x6_13 = .int .i64 ((((ds a0 a1 d0 d1) * (((b0 - d0) * (c1 - d1)) - ((b1 - d1) * (c0 - d0)))) - ((ds b0 b1 d0 d1) * (((a0 - d0) * (c1 - d1)) - ((a1 - d1) * (c0 - d0))))) + ((ds c0 c1 d0 d1) * (((a0 - d0) * (b1 - d1)) - ((a1 - d1) * (b0 - d0))))).sign ∧ y6_13 = .slice A l c := by
  injection ev with ev
  injection ev with e1 ev
  injection ev with e2 ev
  exact ⟨e1, e2⟩
 have hz : V6.cell? ⟨g4_11, 0, none⟩ = some (.int .i64 ((((ds a0 a1 d0 d1) * (((b0 - d0) * (c1 - d1)) - ((b1 - d1) * (c0 - d0)))) - ((ds b0 b1 d0 d1) * (((a0 - d0) * (c1 - d1)) - ((a1 - d1) * (c0 - d0))))) + ((ds c0 c1 d0 d1) * (((a0 - d0) * (b1 - d1)) - ((a1 - d1) * (b0 - d0))))).sign) := (blk_cell h6_13 0).trans rfl
 rw [dt_ref, hq.out] at hz
 go_wp2
 go_ret
 exact ⟨rfl, HBl⟩
end Go.Proofs.Ytlkngfidohiepaa.Rf
end
section
namespace Go.Proofs.Ytlkngfidohiepaa.Rf
open Go Go.RowKit Go.Proofs.YtlkngfidohiepaaW.PrintWords Go.Proofs.Ytlkngfidohiepaa.F Go.Proofs.Ytlkngfidohiepaa.Wd Go.Proofs.Ytlkngfidohiepaa.Pm Go.Proofs.Ytlkngfidohiepaa.Pd
set_option linter.unusedVariables false
theorem sign_p (n : Int) : zelligeref07_sign.f n = some n.sign := by
 unfold zelligeref07_sign.f
 rcases sign_cases n with ⟨h, e⟩ | ⟨h, e⟩ | ⟨h, e⟩
 ·rw [if_pos h, e]
 ·rw [if_neg (by omega), if_neg (by omega), e]
 ·rw [if_neg (by omega), if_pos h, e]
theorem near_p {a0 a1 b0 b1 : Int} (ha : CoP a0 a1) (hb : CoP b0 b1) : ∃ m, zelligeref07_near.f a0 a1 b0 b1 = some m ∧ (m = true → Am (b0 - a0) 8191 ∧ Am (b1 - a1) 8191) := by
 unfold CoP Co at *
 unfold zelligeref07_near.f
 rw [p64 (x := b0 - a0) (by omega), p64 (x := b1 - a1) (by omega)]
 by_cases h1 : b0 - a0 > -8192
 ·rw [if_pos h1]
  by_cases h2 : b0 - a0 < 8192
  ·rw [if_pos h2]
   by_cases h3 : b1 - a1 > -8192
   ·rw [if_pos h3]
    exact ⟨_, rfl, fun h => ⟨Am.of (by omega), Am.of (by have := of_decide_eq_true h; omega)⟩⟩
   ·rw [if_neg h3]; exact ⟨_, rfl, fun h => by cases h⟩
  ·rw [if_neg h2]; exact ⟨_, rfl, fun h => by cases h⟩
 ·rw [if_neg h1]; exact ⟨_, rfl, fun h => by cases h⟩
theorem am64 {n : Int} {B : Nat} (h : Am n B) (hB : B ≤ 9223372036854775807) : wrap64 n = n := p64 (by have := h.le; omega)
theorem am_neg {n m : Int} {B : Nat} (h : Am (n - m) B) : Am (m - n) B := by unfold Am at *; omega
theorem sq_am {x y : Int} (h : Am x 8191) (h' : Am y 8191) : Am (x * x) 67092481 ∧ Am (y * y) 67092481 ∧ Am (x * x + y * y) 134184962 := ⟨(Am.mul h h).mono (by omega), (Am.mul h' h').mono (by omega), ((Am.mul h h).add (Am.mul h' h')).mono (by omega)⟩
theorem cr_am {x y z t : Int} (h : Am x 8191) (h' : Am y 8191) (hz : Am z 8191) (ht : Am t 8191) : Am (x * t) 67092481 ∧ Am (y * z) 67092481 ∧ Am (x * t - y * z) 134184962 := ⟨(Am.mul h ht).mono (by omega), (Am.mul h' hz).mono (by omega), ((Am.mul h ht).sub (Am.mul h' hz)).mono (by omega)⟩
theorem flat_p {a0 a1 b0 b1 c0 c1 d0 d1 : Int} (ha : Am (d0 - a0) 8191 ∧ Am (d1 - a1) 8191) (hb : Am (d0 - b0) 8191 ∧ Am (d1 - b1) 8191) (hc : Am (d0 - c0) 8191 ∧ Am (d1 - c1) 8191) :
  zelligeref07_flat.f a0 a1 b0 b1 c0 c1 d0 d1 = some (dt a0 a1 b0 b1 c0 c1 d0 d1).sign := by
 have e : ((a0 - d0) * (a0 - d0) + (a1 - d1) * (a1 - d1)) * ((b0 - d0) * (c1 - d1) - (b1 - d1) * (c0 - d0)) - ((b0 - d0) * (b0 - d0) + (b1 - d1) * (b1 - d1)) * ((a0 - d0) * (c1 - d1) - (a1 - d1) * (c0 - d0)) + ((c0 - d0) * (c0 - d0) + (c1 - d1) * (c1 - d1)) * ((a0 - d0) * (b1 - d1) - (a1 - d1) * (b0 - d0)) = dt a0 a1 b0 b1 c0 c1 d0 d1 := by unfold dt; grind
 have x0 := am_neg ha.1; have x1 := am_neg ha.2; have y0 := am_neg hb.1; have y1 := am_neg hb.2; have z0 := am_neg hc.1; have z1 := am_neg hc.2
 unfold zelligeref07_flat.f
 rw [← e, am64 x0 (by omega), am64 x1 (by omega), am64 y0 (by omega), am64 y1 (by omega), am64 z0 (by omega), am64 z1 (by omega)]
 generalize a0 - d0 = ax at *; generalize a1 - d1 = ay at *; generalize b0 - d0 = bx at *; generalize b1 - d1 = by' at *; generalize c0 - d0 = cx at *; generalize c1 - d1 = cy at *
 have A := sq_am x0 x1; have B := sq_am y0 y1; have C := sq_am z0 z1
 have P := cr_am y0 y1 z0 z1; have Q := cr_am x0 x1 z0 z1; have R := cr_am x0 x1 y0 y1
 have U := Am.mul A.2.2 P.2.2; have V := Am.mul B.2.2 Q.2.2; have W := Am.mul C.2.2 R.2.2
 rw [am64 A.1 (by omega), am64 A.2.1 (by omega), am64 A.2.2 (by omega), am64 B.1 (by omega), am64 B.2.1 (by omega), am64 B.2.2 (by omega), am64 C.1 (by omega), am64 C.2.1 (by omega), am64 C.2.2 (by omega),
  am64 P.1 (by omega), am64 P.2.1 (by omega), am64 P.2.2 (by omega), am64 Q.1 (by omega), am64 Q.2.1 (by omega), am64 Q.2.2 (by omega), am64 R.1 (by omega), am64 R.2.1 (by omega), am64 R.2.2 (by omega),
  am64 U (by omega), am64 V (by omega), am64 W (by omega), am64 (U.sub V) (by omega), am64 ((U.sub V).add W) (by omega), sign_p]
 rfl
end Go.Proofs.Ytlkngfidohiepaa.Rf
end
section
namespace Go.Proofs.Ytlkngfidohiepaa.F
open Go Go.RowKit Go.Proofs.YtlkngfidohiepaaW.PrintWords Go.Proofs.Ytlkngfidohiepaa.Pm Go.Proofs.Ytlkngfidohiepaa.Pd Go.Proofs.Ytlkngfidohiepaa.Rf
def zelligeref07_InCircle.f (a0_0 a0_1 a1_0 a1_1 a2_0 a2_1 a3_0 a3_1 : Int) : Option Int := if CoP a0_0 a0_1 ∧ CoP a1_0 a1_1 ∧ CoP a2_0 a2_1 ∧ CoP a3_0 a3_1 then some (dt a0_0 a0_1 a1_0 a1_1 a2_0 a2_1 a3_0 a3_1).sign else none
theorem zelligeref07_InCircle.calls (a0_0 a0_1 a1_0 a1_1 a2_0 a2_1 a3_0 a3_1 : Int) (r : Int) (w : World) (h : zelligeref07_InCircle.f a0_0 a0_1 a1_0 a1_1 a2_0 a2_1 a3_0 a3_1 = some r) :
  Calls Try.prog 19 #[.agg #[.int .i64 a0_0, .int .i64 a0_1], .agg #[.int .i64 a1_0, .int .i64 a1_1], .agg #[.int .i64 a2_0, .int .i64 a2_1], .agg #[.int .i64 a3_0, .int .i64 a3_1]] w fun e w' => e = .returned (.int .i64 r) ∧ Below w.heap.size w w' := by
 unfold zelligeref07_InCircle.f at h
 by_cases hh : CoP a0_0 a0_1 ∧ CoP a1_0 a1_1 ∧ CoP a2_0 a2_1 ∧ CoP a3_0 a3_1
 ·rw [if_pos hh] at h
  obtain rfl := Option.some.inj h
  obtain ⟨ha, hb, hc, hd⟩ := hh
  obtain ⟨m1, e1, g1⟩ := near_p ha hd
  obtain ⟨m2, e2, g2⟩ := near_p hb hd
  obtain ⟨m3, e3, g3⟩ := near_p hc hd
  by_cases hm : m1 = true ∧ m2 = true ∧ m3 = true
  ·obtain ⟨rfl, rfl, rfl⟩ := hm
   exact incircle_near ha hb hc hd ⟨e1⟩ ⟨e2⟩ ⟨e3⟩ _ ⟨flat_p (g1 rfl) (g2 rfl) (g3 rfl)⟩ w
  ·exact incircle_walk ha hb hc hd m1 m2 m3 (fun x y z => hm ⟨x, y, z⟩) ⟨e1⟩ ⟨e2⟩ ⟨e3⟩ _ ⟨rfl⟩ w
 ·rw [if_neg hh] at h
  cases h
end Go.Proofs.Ytlkngfidohiepaa.F
end
section
namespace Go.Proofs.Ytlkngfidohiepaa.Rf
open Go Go.RowKit Go.Proofs.YtlkngfidohiepaaW.PrintWords Go.Proofs.YtlkngfidohiepaaW.PrintLast Go.Proofs.YtlkngfidohiepaaW.PrintMore Go.Proofs.Ytlkngfidohiepaa.F Go.Proofs.Ytlkngfidohiepaa.Whole Go.Proofs.Ytlkngfidohiepaa.Pm Go.Proofs.Ytlkngfidohiepaa.Pd Go.Proofs.Ytlkngfidohiepaa.Wd
set_option linter.unusedVariables false
set_option linter.unusedSimpArgs false
theorem field_s (q : Int) (v : Value) (W : World) : (Instr.field 42 (.agg #[.int .i64 q, v]) 0).run Try.prog W = .ok (.int .i64 q) W := by kernel_rfl
structure B3 (w : World) (a0 a1 b0 b1 c0 c1 : Int) (W : World) : Prop where
 mk :: (out : Below w.heap.size w W ∧ W.heap[w.heap.size]? = some (.cells #[.int .i64 a0, .int .i64 a1] 23 (0, 0)) ∧ W.heap[w.heap.size + 1]? = some (.cells #[.int .i64 b0, .int .i64 b1] 23 (0, 0)) ∧ W.heap[w.heap.size + 1 + 1]? = some (.cells #[.int .i64 c0, .int .i64 c1] 23 (0, 0)))
section
variable {w W W' : World} {a0 a1 b0 b1 c0 c1 : Int}
theorem B3.below (h : B3 w a0 a1 b0 b1 c0 c1 W) (hb : Below W.heap.size W W') : B3 w a0 a1 b0 b1 c0 c1 W' :=
 ⟨⟨below_step h.out.1 hb, blk_below h.out.2.1 hb, blk_below h.out.2.2.1 hb, blk_below h.out.2.2.2 hb⟩⟩
theorem B3.cells (h : B3 w a0 a1 b0 b1 c0 c1 W) : W.cell? ⟨w.heap.size, 0, none⟩ = some (.int .i64 a0) ∧ W.cell? ⟨w.heap.size, 1, none⟩ = some (.int .i64 a1) ∧ W.cell? ⟨w.heap.size + 1, 0, none⟩ = some (.int .i64 b0) ∧ W.cell? ⟨w.heap.size + 1, 1, none⟩ = some (.int .i64 b1) ∧ W.cell? ⟨w.heap.size + 1 + 1, 0, none⟩ = some (.int .i64 c0) ∧ W.cell? ⟨w.heap.size + 1 + 1, 1, none⟩ = some (.int .i64 c1) :=
 ⟨(blk_cell h.out.2.1 0).trans rfl, (blk_cell h.out.2.1 1).trans rfl, (blk_cell h.out.2.2.1 0).trans rfl, (blk_cell h.out.2.2.1 1).trans rfl, (blk_cell h.out.2.2.2 0).trans rfl, (blk_cell h.out.2.2.2 1).trans rfl⟩
end
set_option maxHeartbeats 8000000 in
set_option maxRecDepth 100000 in
theorem orient_near {a0 a1 b0 b1 c0 c1 : Int} (ha : CoP a0 a1) (hb : CoP b0 b1) (hc : CoP c0 c1) (Nb : Aside0 (zelligeref07_near.f a0 a1 b0 b1 = some true)) (Nc : Aside0 (zelligeref07_near.f a0 a1 c0 c1 = some true))
  (q : Int) (SG : Aside0 (zelligeref07_sign.f (wrap64 (wrap64 (wrap64 (b0 - a0) * wrap64 (c1 - a1)) - wrap64 (wrap64 (b1 - a1) * wrap64 (c0 - a0)))) = some q)) (w : World) :
  Calls Try.prog 12 #[.agg #[.int .i64 a0, .int .i64 a1], .agg #[.int .i64 b0, .int .i64 b1], .agg #[.int .i64 c0, .int .i64 c1]] w fun e w' => e = .returned (.int .i64 q) ∧ Below w.heap.size w w' := by
 have AH := Aside0.mk (And.intro ha (And.intro hb hc))
 clear ha hb hc
 go_enter Try.func12, Try.ntmps12
 go_upto_region 1 with fail
 obtain ⟨n0, n1, n2, bw, nw⟩ := Whole.three_new w (.cells #[.int .i64 a0, .int .i64 a1] 23) (.cells #[.int .i64 b0, .int .i64 b1] 23) (.cells #[.int .i64 c0, .int .i64 c1] 23)
 generalize (((w.alloc (.cells #[.int .i64 a0, .int .i64 a1] 23)).alloc (.cells #[.int .i64 b0, .int .i64 b1] 23)).alloc (.cells #[.int .i64 c0, .int .i64 c1] 23)) = W at n0 n1 n2 bw nw ⊢
 have S := Aside0.mk (B3.mk ⟨bw, n0, n1, n2⟩)
 clear n0 n1 n2 bw nw
 obtain ⟨k0, k1, k2, k3, k4, k5⟩ := S.out.cells
 go_wp2_with (first | (first | (with_reducible go_at_call 21; with_reducible refine (zelligeref07_near.calls a0 a1 b0 b1 _ _ Nb.out).mono ?_; rintro e v1 ⟨rfl, hb⟩; have S := Aside0.mk (S.out.below hb); clear hb k0 k1 k2 k3 k4 k5; obtain ⟨k0, k1, k2, k3, k4, k5⟩ := S.out.cells) | (with_reducible go_at_call 21; with_reducible refine (zelligeref07_near.calls a0 a1 c0 c1 _ _ Nc.out).mono ?_; rintro e v1 ⟨rfl, hb⟩; have S := Aside0.mk (S.out.below hb); clear hb k0 k1 k2 k3 k4 k5; obtain ⟨k0, k1, k2, k3, k4, k5⟩ := S.out.cells)) | (with_reducible go_at_call 22; with_reducible refine (zelligeref07_sign.calls _ _ _ SG.out).mono ?_; rintro e v1 ⟨rfl, hb⟩; have S := Aside0.mk (S.out.below hb.below); clear hb k0 k1 k2 k3 k4 k5; obtain ⟨k0, k1, k2, k3, k4, k5⟩ := S.out.cells))
 go_ret
 exact ⟨rfl, S.out.out.1⟩
set_option maxHeartbeats 8000000 in
set_option maxRecDepth 100000 in
theorem orient_far {a0 a1 b0 b1 c0 c1 : Int} (ha : CoP a0 a1) (hb : CoP b0 b1) (hc : CoP c0 c1) (m1 m2 : Bool) (hm : m1 = true → m2 = true → False) (Nb : Aside0 (zelligeref07_near.f a0 a1 b0 b1 = some m1)) (Nc : Aside0 (zelligeref07_near.f a0 a1 c0 c1 = some m2))
  (q : Int) (hq : Aside0 ((ar a0 a1 b0 b1 c0 c1).sign = q)) (w : World) :
  Calls Try.prog 12 #[.agg #[.int .i64 a0, .int .i64 a1], .agg #[.int .i64 b0, .int .i64 b1], .agg #[.int .i64 c0, .int .i64 c1]] w fun e w' => e = .returned (.int .i64 q) ∧ Below w.heap.size w w' := by
 have AH := Aside0.mk (And.intro ha (And.intro hb hc))
 clear ha hb hc
 go_enter Try.func12, Try.ntmps12
 go_upto_region 1 with fail
 obtain ⟨n0, n1, n2, bw, nw⟩ := Whole.three_new w (.cells #[.int .i64 a0, .int .i64 a1] 23) (.cells #[.int .i64 b0, .int .i64 b1] 23) (.cells #[.int .i64 c0, .int .i64 c1] 23)
 generalize (((w.alloc (.cells #[.int .i64 a0, .int .i64 a1] 23)).alloc (.cells #[.int .i64 b0, .int .i64 b1] 23)).alloc (.cells #[.int .i64 c0, .int .i64 c1] 23)) = W at n0 n1 n2 bw nw ⊢
 have S := Aside0.mk (B3.mk ⟨bw, n0, n1, n2⟩)
 clear n0 n1 n2 bw nw
 obtain ⟨k0, k1, k2, k3, k4, k5⟩ := S.out.cells
 cases m1
 ·go_upto_region 3 with (first | (with_reducible go_at_call 21; with_reducible refine (zelligeref07_near.calls a0 a1 b0 b1 _ _ Nb.out).mono ?_; rintro e v1 ⟨rfl, hb⟩; have S := Aside0.mk (S.out.below hb); clear hb k0 k1 k2 k3 k4 k5; obtain ⟨k0, k1, k2, k3, k4, k5⟩ := S.out.cells) | (with_reducible go_at_call 21; with_reducible refine (zelligeref07_near.calls a0 a1 c0 c1 _ _ Nc.out).mono ?_; rintro e v1 ⟨rfl, hb⟩; have S := Aside0.mk (S.out.below hb); clear hb k0 k1 k2 k3 k4 k5; obtain ⟨k0, k1, k2, k3, k4, k5⟩ := S.out.cells))
  clear k0 k1 k2 k3 k4 k5 Nb Nc hm
  have n0 := S.out.out.2.1; have n1 := S.out.out.2.2.1; have n2 := S.out.out.2.2.2
  obtain ⟨k0, k1, k2, k3, k4, k5⟩ := S.out.cells
  go_wp2_with fail
  obtain ⟨ha, hb, hc⟩ := AH.out
  refine (area_c ha hb hc _).mono ?_
  rintro e w1 ⟨v, rfl, hN, hb⟩
  obtain ⟨A1, l1, c1', rfl, _⟩ := hN
  rw [hq.out]
  have S := Aside0.mk (S.out.below hb)
  clear hb
  have hf := field_s q (.slice A1 l1 c1')
  go_wp2
  go_ret
  exact ⟨rfl, S.out.out.1⟩
 cases m2
 ·go_upto_region 3 with (first | (with_reducible go_at_call 21; with_reducible refine (zelligeref07_near.calls a0 a1 b0 b1 _ _ Nb.out).mono ?_; rintro e v1 ⟨rfl, hb⟩; have S := Aside0.mk (S.out.below hb); clear hb k0 k1 k2 k3 k4 k5; obtain ⟨k0, k1, k2, k3, k4, k5⟩ := S.out.cells) | (with_reducible go_at_call 21; with_reducible refine (zelligeref07_near.calls a0 a1 c0 c1 _ _ Nc.out).mono ?_; rintro e v1 ⟨rfl, hb⟩; have S := Aside0.mk (S.out.below hb); clear hb k0 k1 k2 k3 k4 k5; obtain ⟨k0, k1, k2, k3, k4, k5⟩ := S.out.cells))
  clear k0 k1 k2 k3 k4 k5 Nb Nc hm
  obtain ⟨k0, k1, k2, k3, k4, k5⟩ := S.out.cells
  go_wp2_with fail
  obtain ⟨ha, hb, hc⟩ := AH.out
  refine (area_c ha hb hc _).mono ?_
  rintro e w1 ⟨v, rfl, hN, hb⟩
  obtain ⟨A1, l1, c1', rfl, _⟩ := hN
  rw [hq.out]
  have S := Aside0.mk (S.out.below hb)
  clear hb
  have hf := field_s q (.slice A1 l1 c1')
  go_wp2
  go_ret
  exact ⟨rfl, S.out.out.1⟩
 exact (hm rfl rfl).elim
end Go.Proofs.Ytlkngfidohiepaa.Rf
namespace Go.Proofs.Ytlkngfidohiepaa.F
open Go Go.RowKit Go.Proofs.YtlkngfidohiepaaW.PrintWords Go.Proofs.Ytlkngfidohiepaa.Pm Go.Proofs.Ytlkngfidohiepaa.Pd Go.Proofs.Ytlkngfidohiepaa.Rf
def zelligeref07_Orient.f (a0_0 a0_1 a1_0 a1_1 a2_0 a2_1 : Int) : Option Int := if CoP a0_0 a0_1 ∧ CoP a1_0 a1_1 ∧ CoP a2_0 a2_1 then some (ar a0_0 a0_1 a1_0 a1_1 a2_0 a2_1).sign else none
theorem zelligeref07_Orient.calls (a0_0 a0_1 a1_0 a1_1 a2_0 a2_1 : Int) (r : Int) (w : World) (h : zelligeref07_Orient.f a0_0 a0_1 a1_0 a1_1 a2_0 a2_1 = some r) :
  Calls Try.prog 12 #[.agg #[.int .i64 a0_0, .int .i64 a0_1], .agg #[.int .i64 a1_0, .int .i64 a1_1], .agg #[.int .i64 a2_0, .int .i64 a2_1]] w fun e w' => e = .returned (.int .i64 r) ∧ Below w.heap.size w w' := by
 unfold zelligeref07_Orient.f at h
 by_cases hh : CoP a0_0 a0_1 ∧ CoP a1_0 a1_1 ∧ CoP a2_0 a2_1
 ·rw [if_pos hh] at h
  obtain rfl := Option.some.inj h
  obtain ⟨ha, hb, hc⟩ := hh
  obtain ⟨m1, e1, g1⟩ := near_p ha hb
  obtain ⟨m2, e2, g2⟩ := near_p ha hc
  by_cases hm : m1 = true ∧ m2 = true
  ·obtain ⟨rfl, rfl⟩ := hm
   have u := g1 rfl; have v := g2 rfl
   have P := cr_am u.1 u.2 v.1 v.2
   refine orient_near ha hb hc ⟨e1⟩ ⟨e2⟩ _ ⟨?_⟩ w
   rw [am64 u.1 (by omega), am64 u.2 (by omega), am64 v.1 (by omega), am64 v.2 (by omega), am64 P.1 (by omega), am64 P.2.1 (by omega), am64 P.2.2 (by omega), sign_p]
   rfl
  ·exact orient_far ha hb hc m1 m2 (fun x y => hm ⟨x, y⟩) ⟨e1⟩ ⟨e2⟩ _ ⟨rfl⟩ w
 ·rw [if_neg hh] at h
  cases h
end Go.Proofs.Ytlkngfidohiepaa.F
end
