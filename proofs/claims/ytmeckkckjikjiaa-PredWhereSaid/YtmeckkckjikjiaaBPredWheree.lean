/- PredWhere: own texts in one (part 5 of 6): contracts of the functions that the law reaches. -/
import Derived.Test.YtmeckkckjikjiaaBPredWhered

section
namespace Go.Proofs.Ytmeckkckjikjiaa.Whole
open Go Go.RowKit Go.Proofs.YtmeckkckjikjiaaW.PrintWords Go.Proofs.YtmeckkckjikjiaaW.PrintLast Go.Proofs.YtmeckkckjikjiaaW.PrintMore Go.Proofs.Ytmeckkckjikjiaa.F
set_option linter.unusedVariables false
structure RV (w : World) (v : Value) (xs : List Int) : Prop where
 mk :: (out : ∃ A c, v = .slice A xs.length c ∧ xs.length ≤ c ∧ Kd.C (Kd.int .i64) w A xs.length xs ∧ (xs = [] ∨ ∃ (a : Addr) (cells : Array Value), A = some a ∧ w.heap[a.block]? = some (.cells cells 3 (0, 0))))
theorem RV.nil (w : World) : RV w (.slice none 0 0) [] := ⟨none, 0, rfl, Nat.le_refl _, ⟨rfl, by decide, fun h => absurd h (by decide)⟩, .inl rfl⟩
theorem RV.below {w w' : World} {v : Value} {xs : List Int} (h : RV w v xs) (hb : Below w.heap.size w w') : RV w' v xs := by
 obtain ⟨A, c, rfl, hc, hC, ht⟩ := h
 refine ⟨A, c, rfl, hc, Kd.C_below hC hb, ?_⟩
 rcases ht with ht | ⟨a, cells, e, ht⟩
 ·exact .inl ht
 ·exact .inr ⟨a, cells, e, blk_below ht hb⟩
theorem RV.drewN {w : World} {v : Value} {xs : List Int} (h : RV w v xs) (n : Nat) : RV (w.drewN n) v xs := by
 obtain ⟨A, c, rfl, hc, hC, ht⟩ := h
 exact ⟨A, c, rfl, hc, Kd.C_drewN hC n, ht⟩
theorem RV.drew {w : World} {v : Value} {xs : List Int} (h : RV w v xs) : RV w.drew v xs := by
 obtain ⟨A, c, rfl, hc, hC, ht⟩ := h
 exact ⟨A, c, rfl, hc, Kd.C_drew hC, ht⟩
theorem RV.of_R {w : World} {base : Nat} {ok : Nat → Prop} {v : Value} {xs : List Int} (h : Kd.R (Kd.int .i64) 3 w base ok v xs) : RV w v xs := by
 obtain ⟨A, c, rfl, hc, hC⟩ := Kd.R_reads h
 refine ⟨A, c, rfl, hc, hC, ?_⟩
 rcases List.eq_nil_or_concat xs with rfl | ⟨l, x, rfl⟩
 ·exact .inl rfl
 ·obtain ⟨g, cap, e, _, _, cells, hg⟩ := Kd.R_form h (by simp)
  simp only [Value.slice.injEq] at e
  exact .inr ⟨_, cells, e.1, hg⟩
theorem RV.store {w : World} {v : Value} {xs : List Int} (h : RV w v xs) {g t : Nat} {cs : Array Value} (hg : w.heap[g]? = some (.cells cs t (0, 0))) (ht : t ≠ 3) (i : Nat) (u : Value) : RV (w.setCell ⟨g, i, none⟩ u) v xs := by
 obtain ⟨A, c, rfl, hc, hC, hty⟩ := h
 have far : ∀ (a : Addr) (cells : Array Value), w.heap[a.block]? = some (.cells cells 3 (0, 0)) → a.block ≠ g := by
  rintro a cells ha rfl
  rw [hg] at ha
  injection ha with ha
  injection ha with _ ha
  exact ht ha
 refine ⟨A, c, rfl, hc, ?_, ?_⟩
 ·rcases hty with rfl | ⟨a, cells, rfl, ha⟩
  ·exact ⟨hC.1, hC.2.1, fun h => absurd h (by simp)⟩
  ·refine ⟨hC.1, hC.2.1, fun hp => ?_⟩
   obtain ⟨ad, e, hr⟩ := hC.2.2 hp
   injection e with e
   subst e
   refine ⟨_, rfl, fun j p hj => ?_⟩
   obtain ⟨cc, h1, h2, h3⟩ := hr j p hj
   refine ⟨cc, h1, h2, fun i' u' hu => ?_⟩
   rw [World.cell?_setCell_far, h3 i' u' hu]
   rw [add_block]
   exact (far _ _ ha).symm
 ·rcases hty with rfl | ⟨a, cells, rfl, ha⟩
  ·exact .inl rfl
  ·exact .inr ⟨a, cells, rfl, (Below.heap_setCell w ⟨g, i, none⟩ u a.block (far _ _ ha)).trans ha⟩
theorem RV.form {w : World} {v : Value} {xs : List Int} (h : RV w v xs) : ∃ A c, v = .slice A xs.length c ∧ xs.length ≤ c ∧ Kd.C (Kd.int .i64) w A xs.length xs := by
 obtain ⟨A, c, e, hc, hC, _⟩ := h
 exact ⟨A, c, e, hc, hC⟩
theorem RV.reads {w : World} {A : Option Addr} {n c : Nat} {xs : List Int} (h : RV w (.slice A n c) xs) : n = xs.length ∧ n ≤ c ∧ Kd.C (Kd.int .i64) w A xs.length xs := by
 obtain ⟨A', c', e, hc, hC, _⟩ := h
 simp only [Value.slice.injEq] at e
 obtain ⟨rfl, rfl, rfl⟩ := e
 exact ⟨rfl, hc, hC⟩
theorem two_new (w : World) (o0 o1 : Obj) : ((w.alloc o0).alloc o1).heap[w.heap.size]? = some o0 ∧ ((w.alloc o0).alloc o1).heap[w.heap.size + 1]? = some o1 ∧ Below w.heap.size w ((w.alloc o0).alloc o1) ∧ ((w.alloc o0).alloc o1).heap.size = w.heap.size + 2 := by
 have e1 : (w.alloc o0).heap.size = w.heap.size + 1 := by simp
 refine ⟨blk_alloc (blk_new _ _) _, ?_, ((Below.refl _ _).alloc (Nat.le_refl _) _).alloc (by simp) _, by simp⟩
 rw [← e1]; exact blk_new _ _
theorem three_new (w : World) (o0 o1 o2 : Obj) : (((w.alloc o0).alloc o1).alloc o2).heap[w.heap.size]? = some o0 ∧ (((w.alloc o0).alloc o1).alloc o2).heap[w.heap.size + 1]? = some o1 ∧ (((w.alloc o0).alloc o1).alloc o2).heap[w.heap.size + 1 + 1]? = some o2 ∧
  Below w.heap.size w (((w.alloc o0).alloc o1).alloc o2) ∧ (((w.alloc o0).alloc o1).alloc o2).heap.size = w.heap.size + 3 := by
 have e1 : (w.alloc o0).heap.size = w.heap.size + 1 := by simp
 have e2 : ((w.alloc o0).alloc o1).heap.size = w.heap.size + 1 + 1 := by simp
 refine ⟨blk_alloc (blk_alloc (blk_new _ _) _) _, ?_, ?_, (((Below.refl _ _).alloc (Nat.le_refl _) _).alloc (by simp) _).alloc (by simp; omega) _, by simp⟩
 ·rw [← e1]; exact blk_alloc (blk_new _ _) _
 ·rw [← e2]; exact blk_new _ _
theorem far2 {w : World} {b o c : Nat} {u v x : Value} (h : w.cell? ⟨b, o, none⟩ = some x) (hne : b ≠ c) : ((w.setCell ⟨c, 0, none⟩ u).setCell ⟨c, 1, none⟩ v).cell? ⟨b, o, none⟩ = some x := by
 rw [World.cell?_setCell_far, World.cell?_setCell_far, h]
 ·exact hne.symm
 ·exact hne.symm
theorem below_set2 {w W : World} (h : Below w.heap.size w W) {g : Nat} (hg : w.heap.size ≤ g) (i j : Nat) (u v : Value) : Below w.heap.size w ((W.setCell ⟨g, i, none⟩ u).setCell ⟨g, j, none⟩ v) := below_set (below_set h hg) hg
theorem make1_zero (s : Int) (A : Option Addr) (c : Nat) (w : World) :
  Calls Try.prog 54 #[.int .i64 s, .slice A 0 c] w fun e w' => e = .returned (.agg #[.int .i64 0, .slice none 0 0]) ∧ Below w.heap.size w w' := by
 go_enter Try.func54, Try.ntmps54
 go_wp2
 exact bodyPost_ret (v := .agg #[.int .i64 0, .slice none 0 0]) (by simp [results, Try.results54, go_sem]) rfl ⟨rfl, (Below.refl _ _).alloc (Nat.le_refl _) _⟩
theorem make1_pos (s : Int) (A : Option Addr) (n c : Nat) (hn : ((n : Int) == 0) = false) (w : World) :
  Calls Try.prog 54 #[.int .i64 s, .slice A n c] w fun e w' => e = .returned (.agg #[.int .i64 s, .slice A n c]) ∧ Below w.heap.size w w' := by
 go_enter Try.func54, Try.ntmps54
 go_wp2
 exact bodyPost_ret (v := .agg #[.int .i64 s, .slice A n c]) (by simp [results, Try.results54, go_sem]) rfl ⟨rfl, (Below.refl _ _).alloc (Nat.le_refl _) _⟩
theorem make1_any {xs : List Int} (s s' : Int) (hz : Aside0 ((if xs = [] then 0 else s) = s')) (v : Value) (w : World) (h : RV w v xs) :
  Calls Try.prog 54 #[.int .i64 s, v] w fun e w' => ∃ u, e = .returned (.agg #[.int .i64 s', u]) ∧ RV w' u xs ∧ Below w.heap.size w w' := by
 obtain ⟨A, c, rfl, hc, hC⟩ := h.form
 obtain rfl := hz.out
 by_cases h0 : xs = []
 ·subst h0
  exact (make1_zero s A c w).mono fun e w' ⟨he, hb⟩ => ⟨_, he, RV.nil _, hb⟩
 ·refine (make1_pos s A xs.length c ?_ w).mono fun e w' ⟨he, hb⟩ => ⟨_, ?_, h.below hb, hb⟩
  ·have := List.length_pos_iff.2 h0
   exact beq_eq_false_iff_ne.2 (by omega)
  ·rw [if_neg h0]; exact he
theorem neg_any (s : Int) (A : Option Addr) (n c : Nat) (w : World) :
  Calls Try.prog 56 #[.agg #[.int .i64 s, .slice A n c]] w fun e w' => e = .returned (.agg #[.int .i64 (wrap64 (0 - s)), .slice A n c]) ∧ Below w.heap.size w w' := by
 go_enter Try.func56, Try.ntmps56
 go_wp2
 exact bodyPost_ret (v := .agg #[.int .i64 (wrap64 (0 - s)), .slice A n c]) (by simp [results, Try.results56, go_sem]) rfl ⟨rfl, ((Below.refl _ _).alloc (Nat.le_refl _) _).alloc (by simp) _⟩
theorem add_left (t : Int) (A B : Option Addr) (n c m d : Nat) (w : World) :
  Calls Try.prog 37 #[.agg #[.int .i64 0, .slice A n c], .agg #[.int .i64 t, .slice B m d]] w fun e w' => e = .returned (.agg #[.int .i64 t, .slice B m d]) ∧ Below w.heap.size w w' := by
 go_enter Try.func37, Try.ntmps37
 go_wp2
 exact bodyPost_ret (v := .agg #[.int .i64 t, .slice B m d]) (by simp [results, Try.results37, go_sem]) rfl ⟨rfl, (((Below.refl _ _).alloc (Nat.le_refl _) _).alloc (by simp) _).alloc (by simp; omega) _⟩
theorem add_right (s : Int) (hs : (s == 0) = false) (A B : Option Addr) (n c m d : Nat) (w : World) :
  Calls Try.prog 37 #[.agg #[.int .i64 s, .slice A n c], .agg #[.int .i64 0, .slice B m d]] w fun e w' => e = .returned (.agg #[.int .i64 s, .slice A n c]) ∧ Below w.heap.size w w' := by
 go_enter Try.func37, Try.ntmps37
 go_wp2
 exact bodyPost_ret (v := .agg #[.int .i64 s, .slice A n c]) (by simp [results, Try.results37, go_sem]) rfl ⟨rfl, (((Below.refl _ _).alloc (Nat.le_refl _) _).alloc (by simp) _).alloc (by simp; omega) _⟩
set_option maxHeartbeats 1000000 in
theorem add_same (s : Int) (hs : (s == 0) = false) (A B : Option Addr) (n c m d : Nat) (xs ys zs : List Int) (k : Nat) (w : World) (hA : RV w (.slice A n c) xs) (hB : RV w (.slice B m d) ys) (H : Aside0 (zelligeref03_Add.f k xs ys = some zs)) :
  Calls Try.prog 37 #[.agg #[.int .i64 s, .slice A n c], .agg #[.int .i64 s, .slice B m d]] w fun e w' => ∃ v, e = .returned (.agg #[.int .i64 s, v]) ∧ RV w' v zs ∧ Below w.heap.size w w' := by
 obtain ⟨qa, qc, hA'⟩ := hA.reads
 obtain ⟨qb, qd, hB'⟩ := hB.reads
 subst qa qb
 have HA := Aside0.mk (fun (W : World) (hb : Below w.heap.size w W) => hA.below hb)
 have HB := Aside0.mk (fun (W : World) (hb : Below w.heap.size w W) => hB.below hb)
 clear hA hB hA' hB'
 go_enter Try.func37, Try.ntmps37
 go_wp2_with fail
 obtain ⟨n0, n1, n2, bw, nw⟩ := three_new w (.cells #[.int .i64 s, .slice A xs.length c] 33) (.cells #[.int .i64 s, .slice B ys.length d] 33) (.cells #[.int .i64 0, .slice none 0 0] 33)
 generalize (((w.alloc (.cells #[.int .i64 s, .slice A xs.length c] 33)).alloc (.cells #[.int .i64 s, .slice B ys.length d] 33)).alloc (.cells #[.int .i64 0, .slice none 0 0] 33)) = W at n0 n1 n2 bw nw ⊢
 have N2 := Aside0.mk n2
 have BW := Aside0.mk bw
 have c0 : W.cell? ⟨w.heap.size, 0, none⟩ = some (.int .i64 s) := (blk_cell n0 0).trans rfl
 have c1 : W.cell? ⟨w.heap.size, 1, none⟩ = some (.slice A xs.length c) := (blk_cell n0 1).trans rfl
 have k0 : W.cell? ⟨w.heap.size + 1, 0, none⟩ = some (.int .i64 s) := (blk_cell n1 0).trans rfl
 have c2 : W.cell? ⟨w.heap.size + 1, 1, none⟩ = some (.slice B ys.length d) := (blk_cell n1 1).trans rfl
 clear n0 n1 n2 bw nw
 go_region_held3 (fun w' => w'.cell? ⟨w.heap.size, 0, none⟩ = some (.int .i64 s) ∧ w'.cell? ⟨w.heap.size, 1, none⟩ = some (.slice A xs.length c) ∧ w'.cell? ⟨w.heap.size + 1, 1, none⟩ = some (.slice B ys.length d)) (first | exact ⟨c0, c1, c2⟩ | exact ⟨d0, d1, d2⟩ | exact ⟨far2 d0 (by omega), far2 d1 (by omega), far2 d2 (by omega)⟩)
  (first | (go_at_call 57; refine (zelligeref03_Add.calls k A c xs B d ys zs _ ?s1 ?s2 ?s3 ?s4 H.out).mono ?_; (case s1 => exact (HA.out _ (below_drew BW.out)).reads.2.2); (case s2 => exact qc); (case s3 => exact (HB.out _ (below_drew BW.out)).reads.2.2); (case s4 => exact qd); rintro e w1 ⟨v, rfl, hR, hb⟩; have HR := Aside0.mk (RV.of_R hR); clear hR; obtain ⟨A2, cc2, rfl, hl2, hC2⟩ := HR.out.form; clear hC2; have d0 := pw_cell_below (w := W.drew) hb c0; have d1 := pw_cell_below (w := W.drew) hb c1; have d2 := pw_cell_below (w := W.drew) hb c2; have m2 := blk_below (w := W.drew) N2.out hb; have d3 : w1.cell? ⟨w.heap.size + 1 + 1, 0, none⟩ = some (.int .i64 0) := (blk_cell m2 0).trans rfl; have d4 : w1.cell? ⟨w.heap.size + 1 + 1, 1, none⟩ = some (.slice none 0 0) := (blk_cell m2 1).trans rfl; have g3 := blk_frozen m2 0; have g4 := blk_frozen m2 1; have M2 := Aside0.mk m2; have Hb := Aside0.mk hb; clear hb m2))
 go_wp2
 refine bodyPost_ret (results_cell_row rfl _ _ (w.heap.size + 1 + 1) 33 #[.int .i64 s, .slice A2 zs.length cc2] (0, 0) _ rfl (blk_put (cs := #[.int .i64 s, .slice none 0 0]) (blk_put (cs := #[.int .i64 0, .slice none 0 0]) M2.out 0 _ rfl) 1 _ rfl) Try.underlying33 rfl (by kernel_rfl)) rfl ?_
 exact ⟨_, rfl, (HR.out.store M2.out (by decide) 0 _).store (blk_put (cs := #[.int .i64 0, .slice none 0 0]) M2.out 0 _ rfl) (by decide) 1 _, below_set2 (below_then (below_drew BW.out) BW.out.size Hb.out) (by omega) _ _ _ _⟩
set_option maxHeartbeats 2000000 in
theorem add_ge (s t : Int) (hs : (s == 0) = false) (ht : (t == 0) = false) (hst : (s == t) = false) (A B : Option Addr) (n c m d : Nat) (xs ys zs : List Int) (cv : Int) (hc : decide (cv < 0) = false) (hc' : decide (0 ≤ cv) = true) (k : Nat) (w : World) (hA : RV w (.slice A n c) xs) (hB : RV w (.slice B m d) ys) (H : Aside0 (zelligeref03_Cmp.f k xs ys = some cv)) (Hs : Aside0 (zelligeref03_Sub.f k xs ys = some zs)) (r : Int) (hz : Aside0 ((if zs = [] then 0 else s) = r)) :
  Calls Try.prog 37 #[.agg #[.int .i64 s, .slice A n c], .agg #[.int .i64 t, .slice B m d]] w fun e w' => ∃ v, e = .returned (.agg #[.int .i64 r, v]) ∧ RV w' v zs ∧ Below w.heap.size w w' := by
 obtain ⟨qa, qc, hA'⟩ := hA.reads
 obtain ⟨qb, qd, hB'⟩ := hB.reads
 subst qa qb
 have HA := Aside0.mk (fun (W : World) (hb : Below w.heap.size w W) => hA.below hb)
 have HB := Aside0.mk (fun (W : World) (hb : Below w.heap.size w W) => hB.below hb)
 clear hA hB hA' hB'
 go_enter Try.func37, Try.ntmps37
 go_wp2_with fail
 obtain ⟨n0, n1, n2, bw, nw⟩ := three_new w (.cells #[.int .i64 s, .slice A xs.length c] 33) (.cells #[.int .i64 t, .slice B ys.length d] 33) (.cells #[.int .i64 0, .slice none 0 0] 33)
 generalize (((w.alloc (.cells #[.int .i64 s, .slice A xs.length c] 33)).alloc (.cells #[.int .i64 t, .slice B ys.length d] 33)).alloc (.cells #[.int .i64 0, .slice none 0 0] 33)) = W at n0 n1 n2 bw nw ⊢
 have N2 := Aside0.mk n2
 have BW := Aside0.mk bw
 have c0 : W.cell? ⟨w.heap.size, 0, none⟩ = some (.int .i64 s) := (blk_cell n0 0).trans rfl
 have c1 : W.cell? ⟨w.heap.size, 1, none⟩ = some (.slice A xs.length c) := (blk_cell n0 1).trans rfl
 have k0 : W.cell? ⟨w.heap.size + 1, 0, none⟩ = some (.int .i64 t) := (blk_cell n1 0).trans rfl
 have c2 : W.cell? ⟨w.heap.size + 1, 1, none⟩ = some (.slice B ys.length d) := (blk_cell n1 1).trans rfl
 clear n0 n1 n2 bw nw
 refine (zelligeref03_Cmp.calls k A c xs B d ys cv _ ?s1 ?s2 ?s3 ?s4 H.out).mono ?_
 case s1 => exact (HA.out _ BW.out).reads.2.2
 case s2 => exact qc
 case s3 => exact (HB.out _ BW.out).reads.2.2
 case s4 => exact qd
 rintro e w1 ⟨rfl, ⟨nd, rfl⟩⟩
 go_wp2_with fail
 go_region_held3 (fun w' => w'.cell? ⟨w.heap.size, 0, none⟩ = some (.int .i64 s) ∧ w'.cell? ⟨w.heap.size, 1, none⟩ = some (.slice A xs.length c) ∧ w'.cell? ⟨w.heap.size + 1, 1, none⟩ = some (.slice B ys.length d)) (first | exact ⟨c0, c1, c2⟩ | exact ⟨d0, d1, d2⟩ | exact ⟨e0, e1, e2⟩ | exact ⟨far2 e0 (by omega), far2 e1 (by omega), far2 e2 (by omega)⟩)
  (first | (go_at_call 59; refine (zelligeref03_Sub.calls k A c xs B d ys zs _ ?s1 ?s2 ?s3 ?s4 Hs.out).mono ?_; (case s1 => exact (HA.out _ (by repeat (first | exact BW.out | apply below_drew | apply pw_below_drewN))).reads.2.2); (case s2 => exact qc); (case s3 => exact (HB.out _ (by repeat (first | exact BW.out | apply below_drew | apply pw_below_drewN))).reads.2.2); (case s4 => exact qd); rintro e w1 ⟨v, rfl, hR, hb⟩; have HR := Aside0.mk (RV.of_R hR); clear hR; obtain ⟨A2, cc2, rfl, hl2, hC2⟩ := HR.out.form; clear hC2; have d0 := pw_cell_below hb c0; have d1 := pw_cell_below hb c1; have d2 := pw_cell_below hb c2; have M1 := Aside0.mk (blk_below (w := W.drewN (nd + 1)) (o := .cells #[.int .i64 0, .slice none 0 0] 33 (0, 0)) N2.out hb); have Hb := Aside0.mk (below_then (B := w.heap.size) (w := w) (w1 := W.drewN (nd + 1)) (by repeat (first | exact BW.out | apply below_drew | apply pw_below_drewN)) BW.out.size hb); clear hb) | (go_at_call 54; refine (make1_any _ r hz _ _ HR.out).mono ?_; rintro e w2 ⟨u, rfl, hR, hb⟩; have HU := Aside0.mk hR; clear hR; obtain ⟨A3, cc3, rfl, hl3, hC3⟩ := HU.out.form; clear hC3; have e0 := pw_cell_below hb d0; have e1 := pw_cell_below hb d1; have e2 := pw_cell_below hb d2; have m2 := blk_below M1.out hb; have e3 : w2.cell? ⟨w.heap.size + 1 + 1, 0, none⟩ = some (.int .i64 0) := (blk_cell m2 0).trans rfl; have e4 : w2.cell? ⟨w.heap.size + 1 + 1, 1, none⟩ = some (.slice none 0 0) := (blk_cell m2 1).trans rfl; have g3 := blk_frozen m2 0; have g4 := blk_frozen m2 1; have M2 := Aside0.mk m2; have Hb2 := Aside0.mk (below_then Hb.out Hb.out.size hb); clear hb m2))
 go_wp2
 refine bodyPost_ret (results_cell_row rfl _ _ (w.heap.size + 1 + 1) 33 #[.int .i64 r, .slice A3 zs.length cc3] (0, 0) _ rfl (blk_put (cs := #[.int .i64 r, .slice none 0 0]) (blk_put (cs := #[.int .i64 0, .slice none 0 0]) M2.out 0 _ rfl) 1 _ rfl) Try.underlying33 rfl (by kernel_rfl)) rfl ?_
 exact ⟨_, rfl, (HU.out.store M2.out (by decide) 0 _).store (blk_put (cs := #[.int .i64 0, .slice none 0 0]) M2.out 0 _ rfl) (by decide) 1 _, below_set2 Hb2.out (by omega) _ _ _ _⟩
set_option maxHeartbeats 2000000 in
theorem add_lt (s t : Int) (hs : (s == 0) = false) (ht : (t == 0) = false) (hst : (s == t) = false) (A B : Option Addr) (n c m d : Nat) (xs ys zs : List Int) (cv : Int) (hc : decide (cv < 0) = true) (hc' : decide (0 ≤ cv) = false) (k : Nat) (w : World) (hA : RV w (.slice A n c) xs) (hB : RV w (.slice B m d) ys) (H : Aside0 (zelligeref03_Cmp.f k xs ys = some cv)) (Hs : Aside0 (zelligeref03_Sub.f k ys xs = some zs)) (r : Int) (hz : Aside0 ((if zs = [] then 0 else t) = r)) :
  Calls Try.prog 37 #[.agg #[.int .i64 s, .slice A n c], .agg #[.int .i64 t, .slice B m d]] w fun e w' => ∃ v, e = .returned (.agg #[.int .i64 r, v]) ∧ RV w' v zs ∧ Below w.heap.size w w' := by
 obtain ⟨qa, qc, hA'⟩ := hA.reads
 obtain ⟨qb, qd, hB'⟩ := hB.reads
 subst qa qb
 have HA := Aside0.mk (fun (W : World) (hb : Below w.heap.size w W) => hA.below hb)
 have HB := Aside0.mk (fun (W : World) (hb : Below w.heap.size w W) => hB.below hb)
 clear hA hB hA' hB'
 go_enter Try.func37, Try.ntmps37
 go_wp2_with fail
 obtain ⟨n0, n1, n2, bw, nw⟩ := three_new w (.cells #[.int .i64 s, .slice A xs.length c] 33) (.cells #[.int .i64 t, .slice B ys.length d] 33) (.cells #[.int .i64 0, .slice none 0 0] 33)
 generalize (((w.alloc (.cells #[.int .i64 s, .slice A xs.length c] 33)).alloc (.cells #[.int .i64 t, .slice B ys.length d] 33)).alloc (.cells #[.int .i64 0, .slice none 0 0] 33)) = W at n0 n1 n2 bw nw ⊢
 have N2 := Aside0.mk n2
 have BW := Aside0.mk bw
 have c0 : W.cell? ⟨w.heap.size, 0, none⟩ = some (.int .i64 s) := (blk_cell n0 0).trans rfl
 have c1 : W.cell? ⟨w.heap.size, 1, none⟩ = some (.slice A xs.length c) := (blk_cell n0 1).trans rfl
 have k0 : W.cell? ⟨w.heap.size + 1, 0, none⟩ = some (.int .i64 t) := (blk_cell n1 0).trans rfl
 have c2 : W.cell? ⟨w.heap.size + 1, 1, none⟩ = some (.slice B ys.length d) := (blk_cell n1 1).trans rfl
 clear n0 n1 n2 bw nw
 refine (zelligeref03_Cmp.calls k A c xs B d ys cv _ ?s1 ?s2 ?s3 ?s4 H.out).mono ?_
 case s1 => exact (HA.out _ BW.out).reads.2.2
 case s2 => exact qc
 case s3 => exact (HB.out _ BW.out).reads.2.2
 case s4 => exact qd
 rintro e w1 ⟨rfl, ⟨nd, rfl⟩⟩
 go_wp2_with fail
 go_region_held3 (fun w' => w'.cell? ⟨w.heap.size + 1, 0, none⟩ = some (.int .i64 t) ∧ w'.cell? ⟨w.heap.size, 1, none⟩ = some (.slice A xs.length c) ∧ w'.cell? ⟨w.heap.size + 1, 1, none⟩ = some (.slice B ys.length d)) (first | exact ⟨k0, c1, c2⟩ | exact ⟨d0, d1, d2⟩ | exact ⟨e0, e1, e2⟩ | exact ⟨far2 e0 (by omega), far2 e1 (by omega), far2 e2 (by omega)⟩)
  (first | (go_at_call 59; refine (zelligeref03_Sub.calls k B d ys A c xs zs _ ?s1 ?s2 ?s3 ?s4 Hs.out).mono ?_; (case s1 => exact (HB.out _ (by repeat (first | exact BW.out | apply below_drew | apply pw_below_drewN))).reads.2.2); (case s2 => exact qd); (case s3 => exact (HA.out _ (by repeat (first | exact BW.out | apply below_drew | apply pw_below_drewN))).reads.2.2); (case s4 => exact qc); rintro e w1 ⟨v, rfl, hR, hb⟩; have HR := Aside0.mk (RV.of_R hR); clear hR; obtain ⟨A2, cc2, rfl, hl2, hC2⟩ := HR.out.form; clear hC2; have d0 := pw_cell_below hb k0; have d1 := pw_cell_below hb c1; have d2 := pw_cell_below hb c2; have M1 := Aside0.mk (blk_below (w := W.drewN (nd + 1)) (o := .cells #[.int .i64 0, .slice none 0 0] 33 (0, 0)) N2.out hb); have Hb := Aside0.mk (below_then (B := w.heap.size) (w := w) (w1 := W.drewN (nd + 1)) (by repeat (first | exact BW.out | apply below_drew | apply pw_below_drewN)) BW.out.size hb); clear hb) | (go_at_call 54; refine (make1_any _ r hz _ _ HR.out).mono ?_; rintro e w2 ⟨u, rfl, hR, hb⟩; have HU := Aside0.mk hR; clear hR; obtain ⟨A3, cc3, rfl, hl3, hC3⟩ := HU.out.form; clear hC3; have e0 := pw_cell_below hb d0; have e1 := pw_cell_below hb d1; have e2 := pw_cell_below hb d2; have m2 := blk_below M1.out hb; have e3 : w2.cell? ⟨w.heap.size + 1 + 1, 0, none⟩ = some (.int .i64 0) := (blk_cell m2 0).trans rfl; have e4 : w2.cell? ⟨w.heap.size + 1 + 1, 1, none⟩ = some (.slice none 0 0) := (blk_cell m2 1).trans rfl; have g3 := blk_frozen m2 0; have g4 := blk_frozen m2 1; have M2 := Aside0.mk m2; have Hb2 := Aside0.mk (below_then Hb.out Hb.out.size hb); clear hb m2))
 go_wp2
 refine bodyPost_ret (results_cell_row rfl _ _ (w.heap.size + 1 + 1) 33 #[.int .i64 r, .slice A3 zs.length cc3] (0, 0) _ rfl (blk_put (cs := #[.int .i64 r, .slice none 0 0]) (blk_put (cs := #[.int .i64 0, .slice none 0 0]) M2.out 0 _ rfl) 1 _ rfl) Try.underlying33 rfl (by kernel_rfl)) rfl ?_
 exact ⟨_, rfl, (HU.out.store M2.out (by decide) 0 _).store (blk_put (cs := #[.int .i64 0, .slice none 0 0]) M2.out 0 _ rfl) (by decide) 1 _, below_set2 Hb2.out (by omega) _ _ _ _⟩
end Go.Proofs.Ytmeckkckjikjiaa.Whole
end
section
namespace Go.Proofs.Ytmeckkckjikjiaa.Whole
open Go Go.RowKit Go.Proofs.YtmeckkckjikjiaaW.PrintWords Go.Proofs.YtmeckkckjikjiaaW.PrintLast Go.Proofs.YtmeckkckjikjiaaW.PrintMore Go.Proofs.Ytmeckkckjikjiaa.F Go.Proofs.Ytmeckkckjikjiaa.Dig
set_option linter.unusedVariables false
structure NI (w : World) (v : Value) (n : Int) : Prop where
 mk :: (out : ∃ A l c, v = .agg #[.int .i64 n.sign, .slice A l c] ∧ RV w (.slice A l c) (dig n.natAbs))
theorem NI.below {w w' : World} {v : Value} {n : Int} (h : NI w v n) (hb : Below w.heap.size w w') : NI w' v n := by
 obtain ⟨A, l, c, rfl, h⟩ := h
 exact ⟨A, l, c, rfl, h.below hb⟩
theorem NI.drewN {w : World} {v : Value} {n : Int} (h : NI w v n) (k : Nat) : NI (w.drewN k) v n := by
 obtain ⟨A, l, c, rfl, h⟩ := h
 exact ⟨A, l, c, rfl, h.drewN k⟩
theorem NI.store {w : World} {v : Value} {n : Int} (h : NI w v n) {g t : Nat} {cs : Array Value} (hg : w.heap[g]? = some (.cells cs t (0, 0))) (ht : t ≠ 3) (i : Nat) (u : Value) : NI (w.setCell ⟨g, i, none⟩ u) v n := by
 obtain ⟨A, l, c, rfl, h⟩ := h
 exact ⟨A, l, c, rfl, h.store hg ht i u⟩
theorem NI.shape {w : World} {v : Value} {n : Int} (h : NI w v n) : ∃ (s : Int) (A : Option Addr) (l c : Nat), v = .agg #[.int .i64 s, .slice A l c] := by
 obtain ⟨A, l, c, rfl, h⟩ := h
 exact ⟨_, A, l, c, rfl⟩
def Sm (n : Int) : Prop := (dig n.natAbs).length ≤ 1000
theorem Sm.of {n : Int} (h : -115792089237316195423570985008687907853269984665640564039457584007913129639936 ≤ n) (h' : n ≤ 115792089237316195423570985008687907853269984665640564039457584007913129639936) : Sm n := by
 have : (dig n.natAbs).length ≤ 17 := by
  apply dig_len
  simp only [P]
  omega
 unfold Sm
 omega
theorem sign_eq (n : Int) : n.sign = if n = 0 then 0 else if n < 0 then -1 else 1 := by
 rcases Int.lt_trichotomy n 0 with h | h | h
 ·rw [Int.sign_eq_neg_one_of_neg h, if_neg (by omega), if_pos h]
 ·subst h; rfl
 ·rw [Int.sign_eq_one_of_pos h, if_neg (by omega), if_neg (by omega)]
theorem dig_nil {n : Nat} : dig n = [] ↔ n = 0 := ⟨fun h => by
 have := dig_val n
 rw [h] at this
 simp [val] at this
 omega, fun h => by rw [h, dig_zero]⟩
theorem add_c (v u : Value) (n m : Int) (hn : Sm n) (hm : Sm m) (w : World) (h : NI w v n) (h' : NI w u m) :
  Calls Try.prog 37 #[v, u] w fun e w' => ∃ r, e = .returned r ∧ NI w' r (n + m) ∧ Below w.heap.size w w' := by
 obtain ⟨A, l, c, rfl, hA⟩ := h
 obtain ⟨B, l', d, rfl, hB⟩ := h'
 unfold Sm at hn hm
 by_cases n0 : n = 0
 ·subst n0
  rw [show (0 : Int).sign = 0 from rfl]
  refine (add_left m.sign A B l c l' d w).mono fun e w' ⟨he, hb⟩ => ⟨_, he, ?_, hb⟩
  rw [Int.zero_add]
  exact ⟨B, l', d, rfl, hB.below hb⟩
 have s0 : (n.sign == 0) = false := beq_eq_false_iff_ne.2 (fun e => n0 (Int.sign_eq_zero_iff_zero.1 e))
 by_cases m0 : m = 0
 ·subst m0
  rw [show (0 : Int).sign = 0 from rfl]
  refine (add_right n.sign s0 A B l c l' d w).mono fun e w' ⟨he, hb⟩ => ⟨_, he, ?_, hb⟩
  rw [Int.add_zero]
  exact ⟨A, l, c, rfl, hA.below hb⟩
 have t0 : (m.sign == 0) = false := beq_eq_false_iff_ne.2 (fun e => m0 (Int.sign_eq_zero_iff_zero.1 e))
 have fin : ∀ (e : Ending) (w' : World) (r v' : _) (k : Nat), e = .returned (.agg #[.int .i64 r, v']) → RV w' v' (dig k) → r = (n + m).sign → k = (n + m).natAbs → Below w.heap.size w w' → ∃ r, e = .returned r ∧ NI w' r (n + m) ∧ Below w.heap.size w w' := by
  intro e w' r v' k he hv hr hk hb
  obtain ⟨A', c', rfl, _⟩ := hv.form
  subst hr hk
  exact ⟨_, he, ⟨A', _, c', rfl, hv⟩, hb⟩
 by_cases st : n.sign = m.sign
 ·have := add_f n.natAbs m.natAbs (by omega) (by omega) (k := 50000) (by omega)
  rw [← st]
  refine (add_same n.sign s0 A B l c l' d _ _ _ 50000 w hA hB ⟨this⟩).mono fun e w' ⟨v', he, hv, hb⟩ => fin e w' _ _ _ he hv ?_ ?_ hb
  ·rw [sign_eq, sign_eq]
   rw [sign_eq, sign_eq] at st
   omega
  ·rw [sign_eq, sign_eq] at st
   omega
 ·have hst : (n.sign == m.sign) = false := beq_eq_false_iff_ne.2 st
  have hc := cmp_f n.natAbs m.natAbs (by omega) (k := 50000) (by omega)
  rw [sign_eq, sign_eq] at st
  by_cases hlt : n.natAbs < m.natAbs
  ·rw [if_pos hlt] at hc
   have hs := sub_f m.natAbs n.natAbs (by omega) (by omega) (k := 50000) (by omega)
   refine (add_lt n.sign m.sign s0 t0 hst A B l c l' d _ _ _ (-1) (by decide) (by decide) 50000 w hA hB ⟨hc⟩ ⟨hs⟩ _ ⟨rfl⟩).mono fun e w' ⟨v', he, hv, hb⟩ => fin e w' _ _ _ he hv ?_ (by omega) hb
   rw [if_neg (fun e => by rw [dig_nil] at e; omega), sign_eq, sign_eq]
   omega
  ·have hs := sub_f n.natAbs m.natAbs (by omega) (by omega) (k := 50000) (by omega)
   rw [if_neg hlt] at hc
   refine (add_ge n.sign m.sign s0 t0 hst A B l c l' d _ _ _ (if n.natAbs > m.natAbs then 1 else 0) (by split <;> rfl) (by split <;> rfl) 50000 w hA hB ⟨hc⟩ ⟨hs⟩ _ ⟨rfl⟩).mono fun e w' ⟨v', he, hv, hb⟩ => fin e w' _ _ _ he hv ?_ (by omega) hb
   by_cases he : n.natAbs = m.natAbs
   ·rw [if_pos (dig_nil.2 (by omega)), sign_eq]
    omega
   ·rw [if_neg (fun e => by rw [dig_nil] at e; omega), sign_eq, sign_eq]
    omega
theorem neg_c (v : Value) (n : Int) (w : World) (h : NI w v n) :
  Calls Try.prog 56 #[v] w fun e w' => ∃ r, e = .returned r ∧ NI w' r (-n) ∧ Below w.heap.size w w' := by
 obtain ⟨A, l, c, rfl, hA⟩ := h
 refine (neg_any n.sign A l c w).mono fun e w' ⟨he, hb⟩ => ⟨_, he, ⟨A, l, c, ?_, ?_⟩, hb⟩
 ·have : wrap64 (0 - n.sign) = (-n).sign := by
   rw [sign_eq, sign_eq]
   unfold wrap64
   omega
  rw [this]
 ·rw [Int.natAbs_neg]; exact hA.below hb
theorem long_c (n : Int) (hn : (Lit.int .i64 n).wf = true) (w : World) :
  Calls Try.prog 31 #[.int .i64 n] w fun e w' => ∃ r, e = .returned r ∧ NI w' r n ∧ Below w.heap.size w w' := by
 have bd : -9223372036854775808 ≤ n ∧ n ≤ 9223372036854775807 := by
  exact bounds_i64 hn
 have hf : zelligeref04_Long.f 1000 n = some (n.sign, dig n.natAbs) := by
  unfold zelligeref04_Long.f
  have u64 : ∀ x : Int, IntKind.u64.wrap x = x % 18446744073709551616 := by intro x; simp [IntKind.wrap, IntKind.bits, IntKind.signed]
  by_cases h0 : n = 0
  ·subst h0; rw [if_pos rfl]; simp [dig_zero]
  ·rw [if_neg h0]
   by_cases h1 : n < 0
   ·rw [if_pos h1, u64, u64, of_two _ _ (by omega) (by omega) (by omega) (by omega) (by omega)]
    simp only [Option.bind_some]
    rw [Int.sign_eq_neg_one_of_neg h1]
    congr 3
    omega
   ·rw [if_neg h1, u64, of_two _ _ (by omega) (by omega) (by omega) (by omega) (by omega)]
    simp only [Option.bind_some]
    rw [Int.sign_eq_one_of_pos (by omega)]
    congr 3
    omega
 refine (zelligeref04_Long.calls 1000 n _ _ w hf).mono fun e w' ⟨v, he, hR, hb⟩ => ?_
 have hv := RV.of_R hR
 obtain ⟨A', c', rfl, _⟩ := hv.form
 exact ⟨_, he, ⟨A', _, c', rfl, hv⟩, hb⟩
set_option maxHeartbeats 1000000 in
theorem sub_walk (s : Int) (A : Option Addr) (l c : Nat) (t : Int) (B : Option Addr) (m d : Nat) (n n' : Int) (hn : Sm n) (hm : Sm n') (w : World) (h : NI w (.agg #[.int .i64 s, .slice A l c]) n) (h' : NI w (.agg #[.int .i64 t, .slice B m d]) n') :
  Calls Try.prog 36 #[.agg #[.int .i64 s, .slice A l c], .agg #[.int .i64 t, .slice B m d]] w fun e w' => ∃ r, e = .returned r ∧ NI w' r (n - n') ∧ Below w.heap.size w w' := by
 have HA := Aside0.mk (fun (W : World) (hb : Below w.heap.size w W) => h.below hb)
 have HB := Aside0.mk (fun (W : World) (hb : Below w.heap.size w W) => h'.below hb)
 have hm' : Aside0 (Sm (-n')) := ⟨by unfold Sm at hm ⊢; rw [Int.natAbs_neg]; exact hm⟩
 clear h h'
 go_enter Try.func36, Try.ntmps36
 go_wp2_with fail
 obtain ⟨n0, n1, n2, bw, nw⟩ := three_new w (.cells #[.int .i64 s, .slice A l c] 33) (.cells #[.int .i64 t, .slice B m d] 33) (.cells #[.int .i64 0, .slice none 0 0] 33)
 generalize (((w.alloc (.cells #[.int .i64 s, .slice A l c] 33)).alloc (.cells #[.int .i64 t, .slice B m d] 33)).alloc (.cells #[.int .i64 0, .slice none 0 0] 33)) = W at n0 n1 n2 bw nw ⊢
 have N2 := Aside0.mk n2
 have BW := Aside0.mk bw
 have c0 : W.cell? ⟨w.heap.size, 0, none⟩ = some (.int .i64 s) := (blk_cell n0 0).trans rfl
 have c1 : W.cell? ⟨w.heap.size, 1, none⟩ = some (.slice A l c) := (blk_cell n0 1).trans rfl
 have k0 : W.cell? ⟨w.heap.size + 1, 0, none⟩ = some (.int .i64 t) := (blk_cell n1 0).trans rfl
 have k1 : W.cell? ⟨w.heap.size + 1, 1, none⟩ = some (.slice B m d) := (blk_cell n1 1).trans rfl
 clear n0 n1 n2 bw nw
 go_region_held3 (fun w' => w'.cell? ⟨w.heap.size, 0, none⟩ = some (.int .i64 s) ∧ w'.cell? ⟨w.heap.size, 1, none⟩ = some (.slice A l c) ∧ w'.cell? ⟨w.heap.size + 1, 0, none⟩ = some (.int .i64 t) ∧ w'.cell? ⟨w.heap.size + 1, 1, none⟩ = some (.slice B m d)) (first | exact ⟨c0, c1, k0, k1⟩ | exact ⟨d0, d1, d2, d3⟩ | exact ⟨e0, e1, e2, e3⟩ | exact ⟨far2 e0 (by omega), far2 e1 (by omega), far2 e2 (by omega), far2 e3 (by omega)⟩)
  (first | (go_at_call 56; refine (neg_c _ n' _ (HB.out _ (below_drew BW.out))).mono ?_; rintro e w1 ⟨v, rfl, hN, hb⟩; have HN := Aside0.mk hN; clear hN; obtain ⟨s1, A1, l1, cc1, rfl⟩ := HN.out.shape; have d0 := pw_cell_below (w := W.drew) hb c0; have d1 := pw_cell_below (w := W.drew) hb c1; have d2 := pw_cell_below (w := W.drew) hb k0; have d3 := pw_cell_below (w := W.drew) hb k1; have M1 := Aside0.mk (blk_below (w := W.drew) N2.out hb); have Hb := Aside0.mk (below_then (below_drew BW.out) BW.out.size hb); clear hb) | (go_at_call 37; refine (add_c _ _ n (-n') hn hm'.out _ (HA.out _ Hb.out) HN.out).mono ?_; rintro e w2 ⟨u, rfl, hN, hb⟩; have HU := Aside0.mk hN; clear hN; obtain ⟨s3, A3, l3, cc3, rfl⟩ := HU.out.shape; have e0 := pw_cell_below hb d0; have e1 := pw_cell_below hb d1; have e2 := pw_cell_below hb d2; have e3 := pw_cell_below hb d3; have m2 := blk_below M1.out hb; have e4 : w2.cell? ⟨w.heap.size + 1 + 1, 0, none⟩ = some (.int .i64 0) := (blk_cell m2 0).trans rfl; have e5 : w2.cell? ⟨w.heap.size + 1 + 1, 1, none⟩ = some (.slice none 0 0) := (blk_cell m2 1).trans rfl; have g3 := blk_frozen m2 0; have g4 := blk_frozen m2 1; have M2 := Aside0.mk m2; have Hb2 := Aside0.mk (below_then Hb.out Hb.out.size hb); clear hb m2))
 go_wp2
 refine bodyPost_ret (results_cell_row rfl _ _ (w.heap.size + 1 + 1) 33 #[.int .i64 s3, .slice A3 l3 cc3] (0, 0) _ rfl (blk_put (cs := #[.int .i64 s3, .slice none 0 0]) (blk_put (cs := #[.int .i64 0, .slice none 0 0]) M2.out 0 _ rfl) 1 _ rfl) Try.underlying33 rfl (by kernel_rfl)) rfl ?_
 exact ⟨_, rfl, (HU.out.store M2.out (by decide) 0 _).store (blk_put (cs := #[.int .i64 0, .slice none 0 0]) M2.out 0 _ rfl) (by decide) 1 _, below_set2 Hb2.out (by omega) _ _ _ _⟩
theorem sub_c (v u : Value) (n m : Int) (hn : Sm n) (hm : Sm m) (w : World) (h : NI w v n) (h' : NI w u m) :
  Calls Try.prog 36 #[v, u] w fun e w' => ∃ r, e = .returned r ∧ NI w' r (n - m) ∧ Below w.heap.size w w' := by
 obtain ⟨s, A, l, c, rfl⟩ := h.shape
 obtain ⟨t, B, k, d, rfl⟩ := h'.shape
 exact sub_walk s A l c t B k d n m hn hm w h h'
theorem field_sign (q : Int) (v : Value) (W : World) : (Instr.field 33 (.agg #[.int .i64 q, v]) 0).run Try.prog W = .ok (.int .i64 q) W := by kernel_rfl
set_option maxHeartbeats 1000000 in
theorem cmp_walk (s : Int) (A : Option Addr) (l c : Nat) (t : Int) (B : Option Addr) (m d : Nat) (n n' : Int) (hn : Sm n) (hm : Sm n') (w : World) (h : NI w (.agg #[.int .i64 s, .slice A l c]) n) (h' : NI w (.agg #[.int .i64 t, .slice B m d]) n') :
  Calls Try.prog 18 #[.agg #[.int .i64 s, .slice A l c], .agg #[.int .i64 t, .slice B m d]] w fun e w' => e = .returned (.int .i64 (n - n').sign) ∧ Below w.heap.size w w' := by
 have HA := Aside0.mk (fun (W : World) (hb : Below w.heap.size w W) => h.below hb)
 have HB := Aside0.mk (fun (W : World) (hb : Below w.heap.size w W) => h'.below hb)
 clear h h'
 go_enter Try.func18, Try.ntmps18
 go_wp2_with fail
 obtain ⟨n0, n1, bw, nw⟩ := two_new w (.cells #[.int .i64 s, .slice A l c] 33) (.cells #[.int .i64 t, .slice B m d] 33)
 refine (sub_c _ _ n n' hn hm _ (HA.out _ bw) (HB.out _ bw)).mono ?_
 rintro e w1 ⟨v, rfl, hN, hb⟩
 obtain ⟨A1, l1, c1, rfl, _⟩ := hN
 have Hb := Aside0.mk (below_then bw bw.size hb)
 obtain ⟨q, hq⟩ : ∃ q, q = (n - n').sign := ⟨_, rfl⟩
 rw [← hq]
 have HQ := Aside0.mk hq
 clear hb hq n0 n1 bw nw
 have hf := field_sign q (.slice A1 l1 c1)
 go_wp2
 go_ret
 exact ⟨by rw [← HQ.out]; rfl, Hb.out⟩
theorem cmp_c (v u : Value) (n m : Int) (hn : Sm n) (hm : Sm m) (w : World) (h : NI w v n) (h' : NI w u m) :
  Calls Try.prog 18 #[v, u] w fun e w' => e = .returned (.int .i64 (n - m).sign) ∧ Below w.heap.size w w' := by
 obtain ⟨s, A, l, c, rfl⟩ := h.shape
 obtain ⟨t, B, k, d, rfl⟩ := h'.shape
 exact cmp_walk s A l c t B k d n m hn hm w h h'
end Go.Proofs.Ytmeckkckjikjiaa.Whole
end
section
namespace Go.Proofs.Ytmeckkckjikjiaa.Whole
open Go Go.RowKit Go.Proofs.YtmeckkckjikjiaaW.PrintWords Go.Proofs.YtmeckkckjikjiaaW.PrintLast Go.Proofs.YtmeckkckjikjiaaW.PrintMore Go.Proofs.Ytmeckkckjikjiaa.F Go.Proofs.Ytmeckkckjikjiaa.Dig
set_option linter.unusedVariables false
theorem bthen {w w1 w2 : World} (k : Below w1.heap.size w1 w2) (h : Below w.heap.size w w1) : Below w.heap.size w w2 := below_then h h.size k
theorem one_new (w : World) (o0 : Obj) : (w.alloc o0).heap[w.heap.size]? = some o0 ∧ Below w.heap.size w (w.alloc o0) := ⟨blk_new _ _, (Below.refl _ _).alloc (Nat.le_refl _) _⟩
set_option maxHeartbeats 1000000 in
theorem in_high (s : Int) (A : Option Addr) (l c : Nat) (n : Int) (hn : Sm n) (q1 : Int) (hq1 : Aside0 ((n - 1099511627776).sign = q1)) (h1 : decide (q1 ≤ 0) = false) (w : World) (h : NI w (.agg #[.int .i64 s, .slice A l c]) n) :
  Calls Try.prog 30 #[.agg #[.int .i64 s, .slice A l c]] w fun e w' => e = .returned (.bool false) ∧ Below w.heap.size w w' := by
 have HA := Aside0.mk (fun (W : World) (hb : Below w.heap.size w W) => h.below hb)
 clear h
 go_enter Try.func30, Try.ntmps30
 go_wp2_with fail
 obtain ⟨n0, bw⟩ := one_new w (.cells #[.int .i64 s, .slice A l c] 33)
 generalize (w.alloc (.cells #[.int .i64 s, .slice A l c] 33)) = W at n0 bw ⊢
 have Hb := Aside0.mk bw
 have d0 : W.cell? ⟨w.heap.size, 0, none⟩ = some (.int .i64 s) := (blk_cell n0 0).trans rfl
 have d1 : W.cell? ⟨w.heap.size, 1, none⟩ = some (.slice A l c) := (blk_cell n0 1).trans rfl
 clear n0 bw
 go_region_with (first | (go_at_call 31; refine (long_c _ ?hw _).mono ?_; (case hw => decide); rintro e w1 ⟨v, rfl, hN, hb⟩; have HN := Aside0.mk hN; clear hN; obtain ⟨s1, A1, l1, cc1, rfl⟩ := HN.out.shape; have d0 := pw_cell_below hb d0; have d1 := pw_cell_below hb d1; have Hb := Aside0.mk (bthen (w := w) hb (by repeat (first | exact Hb.out | apply below_drew | apply pw_below_drewN))); clear hb) | (go_at_call 18; refine (cmp_c _ _ n 1099511627776 hn (Sm.of (by decide) (by decide)) _ (HA.out _ Hb.out) HN.out).mono ?_; rw [hq1.out]; rintro e w1 ⟨rfl, hb⟩; have d0 := pw_cell_below hb d0; have d1 := pw_cell_below hb d1; have Hb := Aside0.mk (bthen (w := w) hb Hb.out); clear hb))
 all_goals go_wp2
 all_goals trace_state
 all_goals go_ret
 all_goals exact ⟨rfl, Hb.out⟩
set_option maxHeartbeats 1000000 in
theorem in_low (s : Int) (A : Option Addr) (l c : Nat) (n : Int) (hn : Sm n) (q1 q2 : Int) (hq1 : Aside0 ((n - 1099511627776).sign = q1)) (h1 : decide (q1 ≤ 0) = true) (hq2 : Aside0 ((n - -1099511627776).sign = q2)) (w : World) (h : NI w (.agg #[.int .i64 s, .slice A l c]) n) :
  Calls Try.prog 30 #[.agg #[.int .i64 s, .slice A l c]] w fun e w' => e = .returned (.bool (decide (0 ≤ q2))) ∧ Below w.heap.size w w' := by
 have HA := Aside0.mk (fun (W : World) (hb : Below w.heap.size w W) => h.below hb)
 clear h
 go_enter Try.func30, Try.ntmps30
 go_wp2_with fail
 obtain ⟨n0, bw⟩ := one_new w (.cells #[.int .i64 s, .slice A l c] 33)
 generalize (w.alloc (.cells #[.int .i64 s, .slice A l c] 33)) = W at n0 bw ⊢
 have Hb := Aside0.mk bw
 have d0 : W.cell? ⟨w.heap.size, 0, none⟩ = some (.int .i64 s) := (blk_cell n0 0).trans rfl
 have d1 : W.cell? ⟨w.heap.size, 1, none⟩ = some (.slice A l c) := (blk_cell n0 1).trans rfl
 clear n0 bw
 go_region_held3 (fun w' => w'.cell? ⟨w.heap.size, 0, none⟩ = some (.int .i64 s) ∧ w'.cell? ⟨w.heap.size, 1, none⟩ = some (.slice A l c)) (first | exact ⟨d0, d1⟩)
  (first | (go_at_call 31; refine (long_c _ ?hw _).mono ?_; (case hw => decide); rintro e w1 ⟨v, rfl, hN, hb⟩; have HN := Aside0.mk hN; clear hN; obtain ⟨s1, A1, l1, cc1, rfl⟩ := HN.out.shape; have d0 := pw_cell_below hb d0; have d1 := pw_cell_below hb d1; have Hb := Aside0.mk (bthen (w := w) hb (by repeat (first | exact Hb.out | apply below_drew | apply pw_below_drewN))); clear hb) | (go_at_call 18; refine (cmp_c _ _ n 1099511627776 hn (Sm.of (by decide) (by decide)) _ (HA.out _ Hb.out) HN.out).mono ?_; rw [hq1.out]; rintro e w1 ⟨rfl, hb⟩; have d0 := pw_cell_below hb d0; have d1 := pw_cell_below hb d1; have Hb := Aside0.mk (bthen (w := w) hb Hb.out); clear hb) | (go_at_call 18; refine (cmp_c _ _ n (-1099511627776) hn (Sm.of (by decide) (by decide)) _ (HA.out _ Hb.out) HN.out).mono ?_; rw [hq2.out]; rintro e w1 ⟨rfl, hb⟩; have d0 := pw_cell_below hb d0; have d1 := pw_cell_below hb d1; have Hb := Aside0.mk (bthen (w := w) hb Hb.out); clear hb))
 go_wp2
 go_ret
 exact ⟨rfl, Hb.out⟩
theorem in_c (v : Value) (n : Int) (hn : Sm n) (w : World) (h : NI w v n) :
  Calls Try.prog 30 #[v] w fun e w' => e = .returned (.bool (decide (-1099511627776 ≤ n ∧ n ≤ 1099511627776))) ∧ Below w.heap.size w w' := by
 obtain ⟨s, A, l, c, rfl⟩ := h.shape
 by_cases h1 : n ≤ 1099511627776
 ·refine (in_low s A l c n hn _ _ ⟨rfl⟩ (decide_eq_true (by rw [sign_eq]; omega)) ⟨rfl⟩ w h).mono fun e w' ⟨he, hb⟩ => ⟨?_, hb⟩
  rw [he]
  congr 2
  rw [decide_eq_decide, sign_eq]
  omega
 ·refine (in_high s A l c n hn _ ⟨rfl⟩ (decide_eq_false (by rw [sign_eq]; omega)) w h).mono fun e w' ⟨he, hb⟩ => ⟨?_, hb⟩
  rw [he]
  congr 2
  exact (decide_eq_false (by omega)).symm
end Go.Proofs.Ytmeckkckjikjiaa.Whole
end
section
namespace Go.Proofs.Ytmeckkckjikjiaa.Dig
open Go Go.RowKit Go.Proofs.YtmeckkckjikjiaaW.PrintWords Go.Proofs.Ytmeckkckjikjiaa.F
attribute [local irreducible] val P
theorem val_set {l : List Int} {j : Nat} (h : j < l.length) (x : Int) : val (l.set j x) = val l + P j * (x - l.getD j 0) := by
 induction l generalizing j with
 | nil => simp at h
 | cons d l ih =>
  cases j with
  | zero => simp only [List.set_cons_zero, val, P, List.getD_cons_zero]; omega
  | succ j =>
   simp only [List.set_cons_succ, val, P, List.getD_cons_succ]
   rw [ih (by simpa using h)]
   generalize P j = p
   generalize l.getD j 0 = y
   grind
theorem Dg_set {l : List Int} (h : Dg l) {j : Nat} {x : Int} (h0 : 0 ≤ x) (h1 : x < 65536) : Dg (l.set j x) := fun d hd => by
 rcases List.mem_or_eq_of_mem_set hd with hd | rfl
 ·exact h d hd
 ·exact ⟨h0, h1⟩
theorem getD_set_ne {l : List Int} {i j : Nat} (h : i ≠ j) (x : Int) : (l.set i x).getD j 0 = l.getD j 0 := by
 simp [List.getD_eq_getElem?_getD, List.getElem?_set_ne h]
theorem carry {c o a b : Int} (c0 : 0 ≤ c) (c1 : c < 65536) (o0 : 0 ≤ o) (o1 : o < 65536) (a0 : 0 ≤ a) (a1 : a < 65536) (b0 : 0 ≤ b) (b1 : b < 65536) :
  0 ≤ a * b ∧ a * b ≤ 4294836225 ∧ 0 ≤ c + o + a * b ∧ (c + o + a * b) / 65536 < 65536 := by
 have h0 : 0 ≤ a * b := Int.mul_nonneg a0 b0
 have h1 : a * b ≤ 65535 * b := Int.mul_le_mul_of_nonneg_right (by omega) b0
 omega
theorem getD_rep (n j : Nat) : (List.replicate n (0 : Int)).getD j 0 = 0 := by
 simp only [List.getD_eq_getElem?_getD, List.getElem?_replicate]
 split <;> rfl
theorem mul_l1 {a b : List Int} (ha : Dg a) (hb : Dg b) (na : a.length ≤ 10000) (nb : b.length ≤ 10000) {i : Nat} (hi : i < a.length) : ∀ (d k j : Nat) (out : List Int) (c T : Int), b.length - j = d → j ≤ b.length → d + 1 < k →
  out.length = a.length + b.length → Dg out → 0 ≤ c → c < 65536 → (∀ p, i + b.length ≤ p → out.getD p 0 = 0) → Aside0 (val out + P (i + j) * (c + a.getD i 0 * val (b.drop j)) = T) →
  ∃ out', zelligeref03_Mul.l1 k a b out (i : Int) c (j : Int) = zelligeref03_Mul.l0 (k - d - 1) a b out' ((i + 1 : Nat) : Int) ∧ out'.length = a.length + b.length ∧ Dg out' ∧ (∀ p, i + 1 + b.length ≤ p → out'.getD p 0 = 0) ∧ val out' = T := by
 intro d
 induction d with
 | zero =>
  intro k j out c T hd hj hk hl hD c0 c1 hz hT
  obtain ⟨k, rfl⟩ : ∃ m, k = m + 1 := ⟨k - 1, by omega⟩
  obtain rfl : j = b.length := by omega
  have e1 : Aside0 (wrap64 ((i : Int) + (b.length : Int)) = ((i + b.length : Nat) : Int)) := ⟨by rw [w64 (by omega) (by omega)]; omega⟩
  have e2 : Aside0 (wrap64 ((i : Int) + 1) = ((i + 1 : Nat) : Int)) := ⟨by rw [w64 (by omega) (by omega)]; omega⟩
  have hlt : i + b.length < out.length := by omega
  refine ⟨out.set (i + b.length) c, ?_, by rw [List.length_set, hl], Dg_set hD c0 c1, ?_, ?_⟩
  ·rw [zelligeref03_Mul.l1, if_neg (by omega), e1.out, e2.out, if_pos (by omega), if_pos (by omega), show ((i + b.length : Nat) : Int).toNat = i + b.length from by omega, show k + 1 - 0 - 1 = k from by omega]
  ·intro p hp
   rw [getD_set_ne (by omega)]
   exact hz p (by omega)
  ·have hT := hT.out
   rw [val_drop_all (Nat.le_refl _)] at hT
   rw [val_set hlt, hz _ (Nat.le_refl _)]
   generalize P (i + b.length) = p at *
   grind
 | succ d ih =>
  intro k j out c T hd hj hk hl hD c0 c1 hz hT
  obtain ⟨k, rfl⟩ : ∃ m, k = m + 1 := ⟨k - 1, by omega⟩
  have hjl : j < b.length := by omega
  have e1 : Aside0 (wrap64 ((i : Int) + (j : Int)) = ((i + j : Nat) : Int)) := ⟨by rw [w64 (by omega) (by omega)]; omega⟩
  have e2 : Aside0 (wrap64 ((j : Int) + 1) = ((j + 1 : Nat) : Int)) := ⟨by rw [w64 (by omega) (by omega)]; omega⟩
  have hlt : i + j < out.length := by omega
  have gA := Dg_get ha i
  have gB := Dg_get hb j
  have gO := Dg_get hD (i + j)
  have hc := carry c0 c1 gO.1 gO.2 gA.1 gA.2 gB.1 gB.2
  have eB := Aside0.mk (val_drop hjl)
  generalize hs : c + out.getD (i + j) 0 + a.getD i 0 * b.getD j 0 = s at hc
  have es : Aside0 (wrap64 (wrap64 (c + out.getD (i + j) 0) + wrap64 (a.getD i 0 * b.getD j 0)) = s) := ⟨by
   rw [w64 (x := c + out.getD (i + j) 0) (by omega) (by omega), w64 (x := a.getD i 0 * b.getD j 0) (by omega) (by omega), hs, w64 (by omega) (by omega)]⟩
  have g1 : 0 ≤ s % 65536 ∧ s % 65536 < 65536 ∧ 0 ≤ s / 65536 ∧ s / 65536 < 65536 := by omega
  have f1 : b.length - (j + 1) = d := by omega
  have f2 : d + 1 < k := by omega
  obtain ⟨out', h1, h2⟩ := ih k (j + 1) (out.set (i + j) (s % 65536)) (s / 65536) T f1 (by omega) f2 (by rw [List.length_set, hl]) (Dg_set hD g1.1 g1.2.1) g1.2.2.1 g1.2.2.2 (fun p hp => by rw [getD_set_ne (by omega)]; exact hz p hp) ⟨by
   have e : s = s % 65536 + 65536 * (s / 65536) := by omega
   rw [val_set hlt, ← hT.out, eB.out, show i + (j + 1) = (i + j) + 1 from rfl, P]
   clear hT eB
   generalize s % 65536 = m at *
   generalize s / 65536 = q at *
   generalize P (i + j) = p at *
   generalize val (b.drop (j + 1)) = vb at *
   generalize out.getD (i + j) 0 = o at *
   generalize a.getD i 0 = x at *
   generalize b.getD j 0 = y at *
   grind⟩
  refine ⟨out', ?_, h2⟩
  clear eB
  rw [zelligeref03_Mul.l1, if_pos (by omega), e1.out, if_pos (by omega), if_pos (by omega), if_pos (by omega), if_pos (by omega), if_pos (by omega), rd_nat, rd_nat, rd_nat, es.out, e2.out, Int.tmod_eq_emod_of_nonneg (by omega), Int.tdiv_eq_ediv_of_nonneg (by omega), w64 (x := s / 65536) (by omega) (by omega), show ((i + j : Nat) : Int).toNat = i + j from by omega, h1,
   show k + 1 - (d + 1) - 1 = k - d - 1 from by omega]
theorem mul_l0 {a b : List Int} (ha : Dg a) (hb : Dg b) (na : a.length ≤ 10000) (nb : b.length ≤ 10000) : ∀ (d k i : Nat) (out : List Int), a.length - i = d → i ≤ a.length → (d + 1) * (b.length + 2) + a.length + b.length + 4 < k →
  out.length = a.length + b.length → Dg out → (∀ p, i + b.length ≤ p → out.getD p 0 = 0) → Aside0 (val out + P i * (val (a.drop i) * val b) = val a * val b) →
  ∃ r, zelligeref03_Mul.l0 k a b out (i : Int) = some r ∧ Cn r ∧ val r = val a * val b := by
 intro d
 induction d with
 | zero =>
  intro k i out hd hi hk hl hD hz hT
  obtain ⟨k, rfl⟩ : ∃ m, k = m + 1 := ⟨k - 1, by omega⟩
  have hT' := hT.out
  rw [val_drop_all (by omega), Int.zero_mul, Int.mul_zero, Int.add_zero] at hT'
  have hT' := Aside0.mk hT'
  obtain ⟨r, hr, h1, h2⟩ := trim_f (l := out) hD (by omega) (k := k) (by omega)
  refine ⟨r, ?_, h1, h2.trans hT'.out⟩
  rw [zelligeref03_Mul.l0, if_neg (by omega), hr]; rfl
 | succ d ih =>
  intro k i out hd hi hk hl hD hz hT
  obtain ⟨k, rfl⟩ : ∃ m, k = m + 1 := ⟨k - 1, by omega⟩
  have hil : i < a.length := by omega
  have hk' : (d + 1) * (b.length + 2) + (b.length + 2) + a.length + b.length + 4 < k + 1 := by
   have : (d + 1 + 1) * (b.length + 2) = (d + 1) * (b.length + 2) + (b.length + 2) := Nat.succ_mul _ _
   omega
  have eA := Aside0.mk (val_drop hil)
  obtain ⟨out', h1, h2, h3, h4, h5⟩ := mul_l1 ha hb na nb hil b.length k 0 out 0 (val out + P i * (a.getD i 0 * val b)) (by omega) (by omega) (by omega) hl hD (by omega) (by omega) hz ⟨by rw [List.drop_zero, Nat.add_zero, Int.zero_add]⟩
  obtain ⟨r, hr, h6, h7⟩ := ih (k - b.length - 1) (i + 1) out' (by omega) (by omega) (by omega) h2 h3 h4 ⟨by
   rw [h5, P, ← hT.out, eA.out]
   clear hT eA h5
   generalize P i = p at *
   generalize a.getD i 0 = x at *
   generalize val (a.drop (i + 1)) = va at *
   generalize val b = vb at *
   grind⟩
  refine ⟨r, ?_, h6, h7⟩
  rw [zelligeref03_Mul.l0, if_pos (by omega), show zelligeref03_Mul.l1 k a b out (i : Int) 0 0 = _ from h1]
  exact hr
theorem mul_f (a b : Nat) (na : (dig a).length ≤ 3000) (nb : (dig b).length ≤ 3000) {k : Nat} (hk : 20000000 < k) : zelligeref03_Mul.f k (dig a) (dig b) = some (dig (a * b)) := by
 have hb1 : ((dig a).length + 1) * ((dig b).length + 2) ≤ 3001 * 3002 := Nat.mul_le_mul (by omega) (by omega)
 obtain ⟨r, hr, h1, h2⟩ := mul_l0 (dig_Dg a) (dig_Dg b) (by omega) (by omega) (dig a).length k 0 (List.replicate ((dig a).length + (dig b).length) 0) (by omega) (by omega) (by omega) (by simp)
  (fun d hd => by rw [List.eq_of_mem_replicate hd]; omega) (fun p _ => getD_rep _ _) ⟨by
   rw [val_zero_of (fun d hd => List.eq_of_mem_replicate hd), P, List.drop_zero]
   omega⟩
 unfold zelligeref03_Mul.f
 rw [w64 (by omega) (by omega), if_pos (by omega), show ((dig a).length + (dig b).length : Int).toNat = (dig a).length + (dig b).length from by omega, if_pos (by omega)]
 rw [show zelligeref03_Mul.l0 k (dig a) (dig b) (List.replicate ((dig a).length + (dig b).length) 0) 0 = some r from hr]
 congr 1
 refine eq_dig_of h1 ?_
 rw [h2, dig_val, dig_val]
 exact (Int.natCast_mul a b).symm
end Go.Proofs.Ytmeckkckjikjiaa.Dig
end
section
namespace Go.Proofs.Ytmeckkckjikjiaa.Whole
end Go.Proofs.Ytmeckkckjikjiaa.Whole
end
section
namespace Go.Proofs.Ytmeckkckjikjiaa.F
open Go.RowKit Go.Proofs.YtmeckkckjikjiaaW.PrintWords Go.Proofs.YtmeckkckjikjiaaW.PrintLast Go.Proofs.YtmeckkckjikjiaaW.PrintMore
attribute [local go_sem] max2_int min2_int max_two min_two max_three min_three max_four min_four
set_option linter.unusedVariables false
set_option linter.unusedSimpArgs false
def zelligeref04_Add.f (k : Nat) (a0_0 : Int) (l0_1 : List Int) (a1_0 : Int) (l1_1 : List Int) : Option (Int × List Int) := if a0_0 = 0 then (some (a1_0, l1_1)) else (if a1_0 = 0 then (some (a0_0, l0_1)) else (if a0_0 = a1_0 then ((zelligeref03_Add.f k l0_1 l1_1).bind fun t267 => (some (a0_0, t267))) else ((zelligeref03_Cmp.f k l0_1 l1_1).bind fun t270 => (if t270 ≥ 0 then ((zelligeref03_Sub.f k l0_1 l1_1).bind fun t271 => ((zelligeref04_make1.f a0_0 t271).bind fun bt274 => (some (bt274.1, bt274.2)))) else ((zelligeref03_Sub.f k l1_1 l0_1).bind fun t278 => ((zelligeref04_make1.f a1_0 t278).bind fun bt281 => (some (bt281.1, bt281.2))))))))
theorem zelligeref04_Add.mono : ∀ a0 a1 a2 a3 k, LeO (zelligeref04_Add.f k a0 a1 a2 a3) (zelligeref04_Add.f (k + 1) a0 a1 a2 a3) := by
 intro a0 a1 a2 a3 k
 unfold zelligeref04_Add.f
 repeat' first
   | (with_reducible exact zelligeref03_Add.mono _ _ _)
   | (with_reducible exact zelligeref03_Cmp.mono _ _ _)
   | (with_reducible exact zelligeref03_Sub.mono _ _ _)
   | (with_reducible exact LeO.refl _)
   | (with_reducible exact LeO.none _)
   | (with_reducible refine LeO.ite ?_ ?_)
   | (with_reducible refine LeO.bind ?_ (fun _ => ?_))
   | exact zelligeref03_Add.mono _ _ _
   | exact zelligeref03_Cmp.mono _ _ _
   | exact zelligeref03_Sub.mono _ _ _
   | exact LeO.none _
   | refine LeO.ite ?_ ?_
   | refine LeO.bind ?_ (fun _ => ?_)
def zelligeref04_Add.T6 : Bool × List (List Nat × List Nat) := (true, [([], []), ([0], [0]), ([], []), ([2], [2]), ([], []), ([4], [4]), ([3, 5], [3, 5]), ([1, 6], [1, 6]), ([7, 6, 0, 1, 2, 3, 4, 5, 6, 7], [7])])
def zelligeref04_Add.B6 : List Nat := [0, 1, 0, 4, 0, 16, 60, 127, 255]
theorem zelligeref04_Add.tab6 : rtab .any (opsOf Try.f37 6) = zelligeref04_Add.T6 := by kernel_rfl
theorem zelligeref04_Add.bits6 : waitsOk zelligeref04_Add.T6.2 zelligeref04_Add.B6 = true := by kernel_rfl
def zelligeref04_Add.T8 : Bool × List (List Nat × List Nat) := (true, [([], []), ([0], [0]), ([], []), ([2], [2]), ([], []), ([4], [4]), ([3, 5], [3, 5]), ([1, 6, 6], [1, 6]), ([7, 7, 0, 1, 2, 3, 4, 5, 6, 7], [7])])
def zelligeref04_Add.B8 : List Nat := [0, 1, 0, 4, 0, 16, 60, 127, 255]
theorem zelligeref04_Add.tab8 : rtab .any (opsOf Try.f37 8) = zelligeref04_Add.T8 := by kernel_rfl
theorem zelligeref04_Add.bits8 : waitsOk zelligeref04_Add.T8.2 zelligeref04_Add.B8 = true := by kernel_rfl
def zelligeref04_Add.T9 : Bool × List (List Nat × List Nat) := (true, [([], []), ([0], [0]), ([], []), ([2], [2]), ([], []), ([4], [4]), ([3, 5], [3, 5]), ([1, 6, 6], [1, 6]), ([7, 7, 0, 1, 2, 3, 4, 5, 6, 7], [7])])
def zelligeref04_Add.B9 : List Nat := [0, 1, 0, 4, 0, 16, 60, 127, 255]
theorem zelligeref04_Add.tab9 : rtab .any (opsOf Try.f37 9) = zelligeref04_Add.T9 := by kernel_rfl
theorem zelligeref04_Add.bits9 : waitsOk zelligeref04_Add.T9.2 zelligeref04_Add.B9 = true := by kernel_rfl
set_option maxHeartbeats 8000000 in
set_option maxRecDepth 100000 in
theorem zelligeref04_Add.calls (k : Nat) (a0_0 : Int) (P0_1_ : Nat → Prop) (u9000_ : Value) (l0_1 : List Int) (a1_0 : Int) (P1_1_ : Nat → Prop) (u9001_ : Value) (l1_1 : List Int) (r1 : Int) (r2 : List Int) (w0 w : World) (hB : Below w0.heap.size w0 w) (ho0_1 : Kd.R (Kd.int .i64) 3 w w0.heap.size P0_1_ u9000_ l0_1) (hp0_1_1_1 : ∀ k_, P0_1_ k_ → ¬ P1_1_ k_) (ho1_1 : Kd.R (Kd.int .i64) 3 w w0.heap.size P1_1_ u9001_ l1_1) (hp1_1_0_1 : ∀ k_, P1_1_ k_ → ¬ P0_1_ k_) (h : zelligeref04_Add.f k a0_0 l0_1 a1_0 l1_1 = some (r1, r2)) :
  Calls Try.prog 37 #[.agg #[.int .i64 a0_0, u9000_], .agg #[.int .i64 a1_0, u9001_]] w fun e w' => ∃ v1_ : Value, e = .returned (.agg #[.int .i64 r1, v1_]) ∧ Kd.R (Kd.int .i64) 3 w' w0.heap.size (fun k_ => ((P0_1_ k_ ∨ P1_1_ k_) ∨ w.heap.size ≤ k_)) v1_ r2 ∧ Below w0.heap.size w0 w' ∧ Kept w w' (fun k_ => P0_1_ k_ ∨ P1_1_ k_) := by
 have hu33 := Try.underlying33
 have HO0_1 := Aside0.mk (show Kd.R (Kd.int .i64) 3 w w0.heap.size (fun k_ => ((P0_1_ k_ ∨ P1_1_ k_) ∨ w.heap.size ≤ k_) ∧ some k_ ≠ (u9001_ : Value).ownBlock) u9000_ l0_1 from Kd.R_mono ho0_1 (fun k_ hk => ⟨(.inl (.inl hk)), fun e_ => hp0_1_1_1 k_ hk (ho1_1.1 k_ e_.symm)⟩))
 have HO1_1 := Aside0.mk (show Kd.R (Kd.int .i64) 3 w w0.heap.size (fun k_ => ((P0_1_ k_ ∨ P1_1_ k_) ∨ w.heap.size ≤ k_) ∧ some k_ ≠ (u9000_ : Value).ownBlock) u9001_ l1_1 from Kd.R_mono ho1_1 (fun k_ hk => ⟨(.inl (.inr hk)), fun e_ => hp1_1_0_1 k_ hk (ho0_1.1 k_ e_.symm)⟩))
 have HK := Aside0.mk (Kept.refl w (fun k_ => P0_1_ k_ ∨ P1_1_ k_))
 have HW0 := Aside0.mk hB.size
 have HB := Aside0.mk hB
 clear hB
 have H : (if a0_0 = 0 then (some (a1_0, l1_1)) else (if a1_0 = 0 then (some (a0_0, l0_1)) else (if a0_0 = a1_0 then ((zelligeref03_Add.f k l0_1 l1_1).bind fun t267 => (some (a0_0, t267))) else ((zelligeref03_Cmp.f k l0_1 l1_1).bind fun t270 => (if t270 ≥ 0 then ((zelligeref03_Sub.f k l0_1 l1_1).bind fun t271 => ((zelligeref04_make1.f a0_0 t271).bind fun bt274 => (some (bt274.1, bt274.2)))) else ((zelligeref03_Sub.f k l1_1 l0_1).bind fun t278 => ((zelligeref04_make1.f a1_0 t278).bind fun bt281 => (some (bt281.1, bt281.2))))))))) = some (r1, r2) := h
 clear h
 by_cases c3 : a0_0 = 0
 ·rw [if_pos c3] at H
  have c3b0 : (a0_0 == 0) = true := beq_iff_eq.mpr c3
  have c3b1 : (a0_0 != 0) = false := bne_eq_false_iff_eq.mpr c3
  clear c3
  simp only [Option.some.injEq, Prod.mk.injEq] at H
  obtain ⟨rfl, rfl⟩ := H
  obtain ⟨Ao4, co4, eo4⟩ := Kd.R_slice HO0_1.out
  subst eo4
  go_enter Try.func37, Try.ntmps37
  go_wp2_with (first | ((with_reducible refine gate_dst (N := 2) rfl ?_); refine box_event ?hg (N := 2) ?hd (cs := #[.int .i64 a0_0, .slice Ao4 l0_1.length co4]) (t := 33) ?hr ?_; (case hd => rfl); (case hg => rfl); (case hr => first | (go_simp; done) | (go_simp; rfl)); intro gb264 hg w5 hbox hb; have n0_ := Aside0.mk (Kd.R_below (by (with_reducible repeat (first | apply Kd.R_alloc | apply Kd.R_drewN | apply Kd.R_drew)); exact HO0_1.out) hb); have n1_ := Aside0.mk (Kd.R_below (by (with_reducible repeat (first | apply Kd.R_alloc | apply Kd.R_drewN | apply Kd.R_drew)); exact HO1_1.out) hb); have n2_ := Aside0.mk (Kept.below (S := (fun k_ => P0_1_ k_ ∨ P1_1_ k_)) (by repeat (first | (with_reducible first | exact HK.out | apply Kept.alloc | apply Kept.drewN | apply Kept.drew) | exact HK.out)) hb); have n3_ := Aside0.mk (below_step (by repeat (first | (with_reducible first | exact HB.out | apply below_alloc | apply pw_below_drewN | apply below_drew1) | exact HB.out)) hb); have n4_ := Aside0.mk (hbox); have n5_ := Aside0.mk ((by rw [hg]; exact (by first | exact HK.out.1 | exact (show Kept w _ (fun k_ => P0_1_ k_ ∨ P1_1_ k_) from by repeat (first | (with_reducible first | exact HK.out | apply Kept.alloc | apply Kept.drewN | apply Kept.drew) | exact HK.out)).1) : w.heap.size ≤ gb264)); have n6_ := Aside0.mk ((by rw [hg]; exact (below_size (by repeat (first | (with_reducible first | exact HB.out | apply below_alloc | apply pw_below_drewN | apply below_drew1) | exact HB.out))) : w0.heap.size ≤ gb264)); clear HO0_1; clear HO1_1; clear HK; clear HB; have HO0_1 := n0_; have HO1_1 := n1_; have HK := n2_; have HB := n3_; have BK264 := n4_; have GW264 := n5_; have GE264 := n6_; clear n0_ n1_ n2_ n3_ n4_ n5_ n6_; clear hb hbox hg; obtain ⟨Ao6, co6, eo6⟩ := Kd.R_slice HO1_1.out; subst eo6) | ((with_reducible refine gate_dst (N := 3) rfl ?_); refine box_event ?hg (N := 3) ?hd (cs := #[.int .i64 a1_0, .slice Ao6 l1_1.length co6]) (t := 33) ?hr ?_; (case hd => rfl); (case hg => rfl); (case hr => first | (go_simp; done) | (go_simp; rfl)); intro gb265 hg w7 hbox hb; have n0_ := Aside0.mk (Kd.R_below (by (with_reducible repeat (first | apply Kd.R_alloc | apply Kd.R_drewN | apply Kd.R_drew)); exact HO0_1.out) hb); have n1_ := Aside0.mk (Kd.R_below (by (with_reducible repeat (first | apply Kd.R_alloc | apply Kd.R_drewN | apply Kd.R_drew)); exact HO1_1.out) hb); have n2_ := Aside0.mk (blk_below (g := gb264) (o := .cells #[.int .i64 a0_0, .slice Ao4 l0_1.length co4] 33 (0, 0)) (by (with_reducible repeat (first | refine blk_drewN ?_ _ | refine blk_drew ?_ | refine blk_alloc ?_ _)); exact BK264.out) hb); have n3_ := Aside0.mk (Kept.below (S := (fun k_ => P0_1_ k_ ∨ P1_1_ k_)) (by repeat (first | (with_reducible first | exact HK.out | apply Kept.alloc | apply Kept.drewN | apply Kept.drew | refine Kept.setCell ?_ (.inr GW264.out) _) | exact HK.out)) hb); have n4_ := Aside0.mk (below_step (by repeat (first | (with_reducible first | exact HB.out | apply below_alloc | apply pw_below_drewN | apply below_drew1 | refine below_set ?_ GE264.out) | exact HB.out)) hb); have n5_ := Aside0.mk (hbox); have n6_ := Aside0.mk ((by rw [hg]; exact (by first | exact HK.out.1 | exact (show Kept w _ (fun k_ => P0_1_ k_ ∨ P1_1_ k_) from by repeat (first | (with_reducible first | exact HK.out | apply Kept.alloc | apply Kept.drewN | apply Kept.drew | refine Kept.setCell ?_ (.inr GW264.out) _) | exact HK.out)).1) : w.heap.size ≤ gb265)); have n7_ := Aside0.mk ((by rw [hg]; exact (below_size (by repeat (first | (with_reducible first | exact HB.out | apply below_alloc | apply pw_below_drewN | apply below_drew1 | refine below_set ?_ GE264.out) | exact HB.out))) : w0.heap.size ≤ gb265)); have n8_ := Aside0.mk ((by rw [hg]; exact Nat.ne_of_lt (blk_lt (g := gb264) (o := .cells #[.int .i64 a0_0, .slice Ao4 l0_1.length co4] 33 (0, 0)) (by (with_reducible repeat (first | refine blk_drewN ?_ _ | refine blk_drew ?_ | refine blk_alloc ?_ _)); exact BK264.out)) : gb264 ≠ gb265)); have n9_ := Aside0.mk ((by rw [hg]; exact Nat.ne_of_gt (blk_lt (g := gb264) (o := .cells #[.int .i64 a0_0, .slice Ao4 l0_1.length co4] 33 (0, 0)) (by (with_reducible repeat (first | refine blk_drewN ?_ _ | refine blk_drew ?_ | refine blk_alloc ?_ _)); exact BK264.out)) : gb265 ≠ gb264)); clear HO0_1; clear HO1_1; clear BK264; clear HK; clear HB; have HO0_1 := n0_; have HO1_1 := n1_; have BK264 := n2_; have HK := n3_; have HB := n4_; have BK265 := n5_; have GW265 := n6_; have GE265 := n7_; have NB264_265 := n8_; have NB265_264 := n9_; clear n0_ n1_ n2_ n3_ n4_ n5_ n6_ n7_ n8_ n9_; clear hb hbox hg) | ((with_reducible refine gate_dst (N := 4) rfl ?_); refine box_event ?hg (N := 4) ?hd (cs := #[.int .i64 0, .slice none 0 0]) (t := 33) ?hr ?_; (case hd => rfl); (case hg => rfl); (case hr => first | (go_simp; done) | (go_simp; rfl)); intro gb266 hg w8 hbox hb; have n0_ := Aside0.mk (Kd.R_below (by (with_reducible repeat (first | apply Kd.R_alloc | apply Kd.R_drewN | apply Kd.R_drew)); exact HO0_1.out) hb); have n1_ := Aside0.mk (Kd.R_below (by (with_reducible repeat (first | apply Kd.R_alloc | apply Kd.R_drewN | apply Kd.R_drew)); exact HO1_1.out) hb); have n2_ := Aside0.mk (blk_below (g := gb264) (o := .cells #[.int .i64 a0_0, .slice Ao4 l0_1.length co4] 33 (0, 0)) (by (with_reducible repeat (first | refine blk_drewN ?_ _ | refine blk_drew ?_ | refine blk_alloc ?_ _)); exact BK264.out) hb); have n3_ := Aside0.mk (blk_below (g := gb265) (o := .cells #[.int .i64 a1_0, .slice Ao6 l1_1.length co6] 33 (0, 0)) (by (with_reducible repeat (first | refine blk_drewN ?_ _ | refine blk_drew ?_ | refine blk_alloc ?_ _)); exact BK265.out) hb); have n4_ := Aside0.mk (Kept.below (S := (fun k_ => P0_1_ k_ ∨ P1_1_ k_)) (by repeat (first | (with_reducible first | exact HK.out | apply Kept.alloc | apply Kept.drewN | apply Kept.drew | refine Kept.setCell ?_ (.inr GW264.out) _ | refine Kept.setCell ?_ (.inr GW265.out) _) | exact HK.out)) hb); have n5_ := Aside0.mk (below_step (by repeat (first | (with_reducible first | exact HB.out | apply below_alloc | apply pw_below_drewN | apply below_drew1 | refine below_set ?_ GE264.out | refine below_set ?_ GE265.out) | exact HB.out)) hb); have n6_ := Aside0.mk (hbox); have n7_ := Aside0.mk ((by rw [hg]; exact (by first | exact HK.out.1 | exact (show Kept w _ (fun k_ => P0_1_ k_ ∨ P1_1_ k_) from by repeat (first | (with_reducible first | exact HK.out | apply Kept.alloc | apply Kept.drewN | apply Kept.drew | refine Kept.setCell ?_ (.inr GW264.out) _ | refine Kept.setCell ?_ (.inr GW265.out) _) | exact HK.out)).1) : w.heap.size ≤ gb266)); have n8_ := Aside0.mk ((by rw [hg]; exact (below_size (by repeat (first | (with_reducible first | exact HB.out | apply below_alloc | apply pw_below_drewN | apply below_drew1 | refine below_set ?_ GE264.out | refine below_set ?_ GE265.out) | exact HB.out))) : w0.heap.size ≤ gb266)); have n9_ := Aside0.mk ((by rw [hg]; exact Nat.ne_of_lt (blk_lt (g := gb264) (o := .cells #[.int .i64 a0_0, .slice Ao4 l0_1.length co4] 33 (0, 0)) (by (with_reducible repeat (first | refine blk_drewN ?_ _ | refine blk_drew ?_ | refine blk_alloc ?_ _)); exact BK264.out)) : gb264 ≠ gb266)); have n10_ := Aside0.mk ((by rw [hg]; exact Nat.ne_of_gt (blk_lt (g := gb264) (o := .cells #[.int .i64 a0_0, .slice Ao4 l0_1.length co4] 33 (0, 0)) (by (with_reducible repeat (first | refine blk_drewN ?_ _ | refine blk_drew ?_ | refine blk_alloc ?_ _)); exact BK264.out)) : gb266 ≠ gb264)); have n11_ := Aside0.mk ((by rw [hg]; exact Nat.ne_of_lt (blk_lt (g := gb265) (o := .cells #[.int .i64 a1_0, .slice Ao6 l1_1.length co6] 33 (0, 0)) (by (with_reducible repeat (first | refine blk_drewN ?_ _ | refine blk_drew ?_ | refine blk_alloc ?_ _)); exact BK265.out)) : gb265 ≠ gb266)); have n12_ := Aside0.mk ((by rw [hg]; exact Nat.ne_of_gt (blk_lt (g := gb265) (o := .cells #[.int .i64 a1_0, .slice Ao6 l1_1.length co6] 33 (0, 0)) (by (with_reducible repeat (first | refine blk_drewN ?_ _ | refine blk_drew ?_ | refine blk_alloc ?_ _)); exact BK265.out)) : gb266 ≠ gb265)); clear HO0_1; clear HO1_1; clear BK264; clear BK265; clear HK; clear HB; have HO0_1 := n0_; have HO1_1 := n1_; have BK264 := n2_; have BK265 := n3_; have HK := n4_; have HB := n5_; have BK266 := n6_; have GW266 := n7_; have GE266 := n8_; have NB264_266 := n9_; have NB266_264 := n10_; have NB265_266 := n11_; have NB266_265 := n12_; clear n0_ n1_ n2_ n3_ n4_ n5_ n6_ n7_ n8_ n9_ n10_ n11_ n12_; clear hb hbox hg; have hnb9 := NB264_265.out; have hnc9 := NB265_264.out; have hnb10 := NB264_266.out; have hnc10 := NB266_264.out; have hcz11_0 : w8.cell? ⟨gb264, 0, none⟩ = some (.int .i64 a0_0) := (blk_cell BK264.out 0).trans rfl; have hcz11_1 : w8.cell? ⟨gb264, 1, none⟩ = some (.slice Ao4 l0_1.length co4) := (blk_cell BK264.out 1).trans rfl; have hfz11_0 := blk_frozen BK264.out 0; have hfz11_1 := blk_frozen BK264.out 1; have hnb12 := NB265_266.out; have hnc12 := NB266_265.out; have hcz13_0 : w8.cell? ⟨gb265, 0, none⟩ = some (.int .i64 a1_0) := (blk_cell BK265.out 0).trans rfl; have hcz13_1 : w8.cell? ⟨gb265, 1, none⟩ = some (.slice Ao6 l1_1.length co6) := (blk_cell BK265.out 1).trans rfl; have hfz13_0 := blk_frozen BK265.out 0; have hfz13_1 := blk_frozen BK265.out 1; have hcz14_0 : w8.cell? ⟨gb266, 0, none⟩ = some (.int .i64 0) := (blk_cell BK266.out 0).trans rfl; have hcz14_1 : w8.cell? ⟨gb266, 1, none⟩ = some (.slice none 0 0) := (blk_cell BK266.out 1).trans rfl; have hfz14_0 := blk_frozen BK266.out 0; have hfz14_1 := blk_frozen BK266.out 1))
  refine bodyPost_ret (results_cell_row rfl _ _ gb266 33 #[.int .i64 a1_0, .slice Ao6 l1_1.length co6] (0, 0) _ rfl (by (with_reducible repeat (first | refine blk_drewN ?_ _ | refine blk_drew ?_ | refine blk_alloc ?_ _)); refine blk_put (cs := #[.int .i64 a1_0, .slice none 0 0]) ?_ 1 _ rfl; (with_reducible repeat (first | refine blk_drewN ?_ _ | refine blk_drew ?_ | refine blk_alloc ?_ _)); refine blk_put (cs := #[.int .i64 0, .slice none 0 0]) ?_ 0 _ rfl; (with_reducible repeat (first | refine blk_drewN ?_ _ | refine blk_drew ?_ | refine blk_alloc ?_ _)); exact BK266.out) Try.underlying33 rfl (by kernel_rfl)) rfl ?_
  exact ⟨_, by first | rfl | (simp [errW_none, errW_some] <;> rfl) | (simp [*, errW_none, errW_some] <;> rfl), by (with_reducible repeat (first | apply Kd.R_alloc | apply Kd.R_drewN | apply Kd.R_drew)); exact Kd.R_mono (Kd.R_far (p := ⟨gb266, 1, none⟩) (Kd.R_far (p := ⟨gb266, 0, none⟩) (Kd.R_types HO1_1.out BK266.out (by decide)) (fun _ hk => hk.2) (.int .i64 a1_0)) (fun _ hk => hk.2) (.slice Ao6 l1_1.length co6)) (fun _ hk => hk.1.1), by repeat (first | (with_reducible first | exact HB.out | apply below_alloc | apply pw_below_drewN | apply below_drew1 | refine below_set ?_ GE264.out | refine below_set ?_ GE265.out | refine below_set ?_ GE266.out) | exact HB.out), by repeat (first | (with_reducible first | exact HK.out | apply Kept.alloc | apply Kept.drewN | apply Kept.drew | refine Kept.setCell ?_ (.inr GW264.out) _ | refine Kept.setCell ?_ (.inr GW265.out) _ | refine Kept.setCell ?_ (.inr GW266.out) _) | exact HK.out)⟩
 ·rw [if_neg c3] at H
  have c3b0 : (a0_0 == 0) = false := beq_eq_false_iff_ne.mpr c3
  have c3b1 : (a0_0 != 0) = true := bne_iff_ne.mpr c3
  by_cases c15 : a1_0 = 0
  ·rw [if_pos c15] at H
   have c15b0 : (a1_0 == 0) = true := beq_iff_eq.mpr c15
   have c15b1 : (a1_0 != 0) = false := bne_eq_false_iff_eq.mpr c15
   clear c15
   simp only [Option.some.injEq, Prod.mk.injEq] at H
   obtain ⟨rfl, rfl⟩ := H
   obtain ⟨Ao16, co16, eo16⟩ := Kd.R_slice HO0_1.out
   subst eo16
   go_enter Try.func37, Try.ntmps37
   go_wp2_with (first | ((with_reducible refine gate_dst (N := 2) rfl ?_); refine box_event ?hg (N := 2) ?hd (cs := #[.int .i64 a0_0, .slice Ao16 l0_1.length co16]) (t := 33) ?hr ?_; (case hd => rfl); (case hg => rfl); (case hr => first | (go_simp; done) | (go_simp; rfl)); intro gb264 hg w17 hbox hb; have n0_ := Aside0.mk (Kd.R_below (by (with_reducible repeat (first | apply Kd.R_alloc | apply Kd.R_drewN | apply Kd.R_drew)); exact HO0_1.out) hb); have n1_ := Aside0.mk (Kd.R_below (by (with_reducible repeat (first | apply Kd.R_alloc | apply Kd.R_drewN | apply Kd.R_drew)); exact HO1_1.out) hb); have n2_ := Aside0.mk (Kept.below (S := (fun k_ => P0_1_ k_ ∨ P1_1_ k_)) (by repeat (first | (with_reducible first | exact HK.out | apply Kept.alloc | apply Kept.drewN | apply Kept.drew) | exact HK.out)) hb); have n3_ := Aside0.mk (below_step (by repeat (first | (with_reducible first | exact HB.out | apply below_alloc | apply pw_below_drewN | apply below_drew1) | exact HB.out)) hb); have n4_ := Aside0.mk (hbox); have n5_ := Aside0.mk ((by rw [hg]; exact (by first | exact HK.out.1 | exact (show Kept w _ (fun k_ => P0_1_ k_ ∨ P1_1_ k_) from by repeat (first | (with_reducible first | exact HK.out | apply Kept.alloc | apply Kept.drewN | apply Kept.drew) | exact HK.out)).1) : w.heap.size ≤ gb264)); have n6_ := Aside0.mk ((by rw [hg]; exact (below_size (by repeat (first | (with_reducible first | exact HB.out | apply below_alloc | apply pw_below_drewN | apply below_drew1) | exact HB.out))) : w0.heap.size ≤ gb264)); clear HO0_1; clear HO1_1; clear HK; clear HB; have HO0_1 := n0_; have HO1_1 := n1_; have HK := n2_; have HB := n3_; have BK264 := n4_; have GW264 := n5_; have GE264 := n6_; clear n0_ n1_ n2_ n3_ n4_ n5_ n6_; clear hb hbox hg; obtain ⟨Ao18, co18, eo18⟩ := Kd.R_slice HO1_1.out; subst eo18) | ((with_reducible refine gate_dst (N := 3) rfl ?_); refine box_event ?hg (N := 3) ?hd (cs := #[.int .i64 a1_0, .slice Ao18 l1_1.length co18]) (t := 33) ?hr ?_; (case hd => rfl); (case hg => rfl); (case hr => first | (go_simp; done) | (go_simp; rfl)); intro gb265 hg w19 hbox hb; have n0_ := Aside0.mk (Kd.R_below (by (with_reducible repeat (first | apply Kd.R_alloc | apply Kd.R_drewN | apply Kd.R_drew)); exact HO0_1.out) hb); have n1_ := Aside0.mk (Kd.R_below (by (with_reducible repeat (first | apply Kd.R_alloc | apply Kd.R_drewN | apply Kd.R_drew)); exact HO1_1.out) hb); have n2_ := Aside0.mk (blk_below (g := gb264) (o := .cells #[.int .i64 a0_0, .slice Ao16 l0_1.length co16] 33 (0, 0)) (by (with_reducible repeat (first | refine blk_drewN ?_ _ | refine blk_drew ?_ | refine blk_alloc ?_ _)); exact BK264.out) hb); have n3_ := Aside0.mk (Kept.below (S := (fun k_ => P0_1_ k_ ∨ P1_1_ k_)) (by repeat (first | (with_reducible first | exact HK.out | apply Kept.alloc | apply Kept.drewN | apply Kept.drew | refine Kept.setCell ?_ (.inr GW264.out) _) | exact HK.out)) hb); have n4_ := Aside0.mk (below_step (by repeat (first | (with_reducible first | exact HB.out | apply below_alloc | apply pw_below_drewN | apply below_drew1 | refine below_set ?_ GE264.out) | exact HB.out)) hb); have n5_ := Aside0.mk (hbox); have n6_ := Aside0.mk ((by rw [hg]; exact (by first | exact HK.out.1 | exact (show Kept w _ (fun k_ => P0_1_ k_ ∨ P1_1_ k_) from by repeat (first | (with_reducible first | exact HK.out | apply Kept.alloc | apply Kept.drewN | apply Kept.drew | refine Kept.setCell ?_ (.inr GW264.out) _) | exact HK.out)).1) : w.heap.size ≤ gb265)); have n7_ := Aside0.mk ((by rw [hg]; exact (below_size (by repeat (first | (with_reducible first | exact HB.out | apply below_alloc | apply pw_below_drewN | apply below_drew1 | refine below_set ?_ GE264.out) | exact HB.out))) : w0.heap.size ≤ gb265)); have n8_ := Aside0.mk ((by rw [hg]; exact Nat.ne_of_lt (blk_lt (g := gb264) (o := .cells #[.int .i64 a0_0, .slice Ao16 l0_1.length co16] 33 (0, 0)) (by (with_reducible repeat (first | refine blk_drewN ?_ _ | refine blk_drew ?_ | refine blk_alloc ?_ _)); exact BK264.out)) : gb264 ≠ gb265)); have n9_ := Aside0.mk ((by rw [hg]; exact Nat.ne_of_gt (blk_lt (g := gb264) (o := .cells #[.int .i64 a0_0, .slice Ao16 l0_1.length co16] 33 (0, 0)) (by (with_reducible repeat (first | refine blk_drewN ?_ _ | refine blk_drew ?_ | refine blk_alloc ?_ _)); exact BK264.out)) : gb265 ≠ gb264)); clear HO0_1; clear HO1_1; clear BK264; clear HK; clear HB; have HO0_1 := n0_; have HO1_1 := n1_; have BK264 := n2_; have HK := n3_; have HB := n4_; have BK265 := n5_; have GW265 := n6_; have GE265 := n7_; have NB264_265 := n8_; have NB265_264 := n9_; clear n0_ n1_ n2_ n3_ n4_ n5_ n6_ n7_ n8_ n9_; clear hb hbox hg) | ((with_reducible refine gate_dst (N := 4) rfl ?_); refine box_event ?hg (N := 4) ?hd (cs := #[.int .i64 0, .slice none 0 0]) (t := 33) ?hr ?_; (case hd => rfl); (case hg => rfl); (case hr => first | (go_simp; done) | (go_simp; rfl)); intro gb266 hg w20 hbox hb; have n0_ := Aside0.mk (Kd.R_below (by (with_reducible repeat (first | apply Kd.R_alloc | apply Kd.R_drewN | apply Kd.R_drew)); exact HO0_1.out) hb); have n1_ := Aside0.mk (Kd.R_below (by (with_reducible repeat (first | apply Kd.R_alloc | apply Kd.R_drewN | apply Kd.R_drew)); exact HO1_1.out) hb); have n2_ := Aside0.mk (blk_below (g := gb264) (o := .cells #[.int .i64 a0_0, .slice Ao16 l0_1.length co16] 33 (0, 0)) (by (with_reducible repeat (first | refine blk_drewN ?_ _ | refine blk_drew ?_ | refine blk_alloc ?_ _)); exact BK264.out) hb); have n3_ := Aside0.mk (blk_below (g := gb265) (o := .cells #[.int .i64 a1_0, .slice Ao18 l1_1.length co18] 33 (0, 0)) (by (with_reducible repeat (first | refine blk_drewN ?_ _ | refine blk_drew ?_ | refine blk_alloc ?_ _)); exact BK265.out) hb); have n4_ := Aside0.mk (Kept.below (S := (fun k_ => P0_1_ k_ ∨ P1_1_ k_)) (by repeat (first | (with_reducible first | exact HK.out | apply Kept.alloc | apply Kept.drewN | apply Kept.drew | refine Kept.setCell ?_ (.inr GW264.out) _ | refine Kept.setCell ?_ (.inr GW265.out) _) | exact HK.out)) hb); have n5_ := Aside0.mk (below_step (by repeat (first | (with_reducible first | exact HB.out | apply below_alloc | apply pw_below_drewN | apply below_drew1 | refine below_set ?_ GE264.out | refine below_set ?_ GE265.out) | exact HB.out)) hb); have n6_ := Aside0.mk (hbox); have n7_ := Aside0.mk ((by rw [hg]; exact (by first | exact HK.out.1 | exact (show Kept w _ (fun k_ => P0_1_ k_ ∨ P1_1_ k_) from by repeat (first | (with_reducible first | exact HK.out | apply Kept.alloc | apply Kept.drewN | apply Kept.drew | refine Kept.setCell ?_ (.inr GW264.out) _ | refine Kept.setCell ?_ (.inr GW265.out) _) | exact HK.out)).1) : w.heap.size ≤ gb266)); have n8_ := Aside0.mk ((by rw [hg]; exact (below_size (by repeat (first | (with_reducible first | exact HB.out | apply below_alloc | apply pw_below_drewN | apply below_drew1 | refine below_set ?_ GE264.out | refine below_set ?_ GE265.out) | exact HB.out))) : w0.heap.size ≤ gb266)); have n9_ := Aside0.mk ((by rw [hg]; exact Nat.ne_of_lt (blk_lt (g := gb264) (o := .cells #[.int .i64 a0_0, .slice Ao16 l0_1.length co16] 33 (0, 0)) (by (with_reducible repeat (first | refine blk_drewN ?_ _ | refine blk_drew ?_ | refine blk_alloc ?_ _)); exact BK264.out)) : gb264 ≠ gb266)); have n10_ := Aside0.mk ((by rw [hg]; exact Nat.ne_of_gt (blk_lt (g := gb264) (o := .cells #[.int .i64 a0_0, .slice Ao16 l0_1.length co16] 33 (0, 0)) (by (with_reducible repeat (first | refine blk_drewN ?_ _ | refine blk_drew ?_ | refine blk_alloc ?_ _)); exact BK264.out)) : gb266 ≠ gb264)); have n11_ := Aside0.mk ((by rw [hg]; exact Nat.ne_of_lt (blk_lt (g := gb265) (o := .cells #[.int .i64 a1_0, .slice Ao18 l1_1.length co18] 33 (0, 0)) (by (with_reducible repeat (first | refine blk_drewN ?_ _ | refine blk_drew ?_ | refine blk_alloc ?_ _)); exact BK265.out)) : gb265 ≠ gb266)); have n12_ := Aside0.mk ((by rw [hg]; exact Nat.ne_of_gt (blk_lt (g := gb265) (o := .cells #[.int .i64 a1_0, .slice Ao18 l1_1.length co18] 33 (0, 0)) (by (with_reducible repeat (first | refine blk_drewN ?_ _ | refine blk_drew ?_ | refine blk_alloc ?_ _)); exact BK265.out)) : gb266 ≠ gb265)); clear HO0_1; clear HO1_1; clear BK264; clear BK265; clear HK; clear HB; have HO0_1 := n0_; have HO1_1 := n1_; have BK264 := n2_; have BK265 := n3_; have HK := n4_; have HB := n5_; have BK266 := n6_; have GW266 := n7_; have GE266 := n8_; have NB264_266 := n9_; have NB266_264 := n10_; have NB265_266 := n11_; have NB266_265 := n12_; clear n0_ n1_ n2_ n3_ n4_ n5_ n6_ n7_ n8_ n9_ n10_ n11_ n12_; clear hb hbox hg; have hnb21 := NB264_265.out; have hnc21 := NB265_264.out; have hnb22 := NB264_266.out; have hnc22 := NB266_264.out; have hcz23_0 : w20.cell? ⟨gb264, 0, none⟩ = some (.int .i64 a0_0) := (blk_cell BK264.out 0).trans rfl; have hcz23_1 : w20.cell? ⟨gb264, 1, none⟩ = some (.slice Ao16 l0_1.length co16) := (blk_cell BK264.out 1).trans rfl; have hfz23_0 := blk_frozen BK264.out 0; have hfz23_1 := blk_frozen BK264.out 1; have hnb24 := NB265_266.out; have hnc24 := NB266_265.out; have hcz25_0 : w20.cell? ⟨gb265, 0, none⟩ = some (.int .i64 a1_0) := (blk_cell BK265.out 0).trans rfl; have hcz25_1 : w20.cell? ⟨gb265, 1, none⟩ = some (.slice Ao18 l1_1.length co18) := (blk_cell BK265.out 1).trans rfl; have hfz25_0 := blk_frozen BK265.out 0; have hfz25_1 := blk_frozen BK265.out 1; have hcz26_0 : w20.cell? ⟨gb266, 0, none⟩ = some (.int .i64 0) := (blk_cell BK266.out 0).trans rfl; have hcz26_1 : w20.cell? ⟨gb266, 1, none⟩ = some (.slice none 0 0) := (blk_cell BK266.out 1).trans rfl; have hfz26_0 := blk_frozen BK266.out 0; have hfz26_1 := blk_frozen BK266.out 1))
   refine bodyPost_ret (results_cell_row rfl _ _ gb266 33 #[.int .i64 a0_0, .slice Ao16 l0_1.length co16] (0, 0) _ rfl (by (with_reducible repeat (first | refine blk_drewN ?_ _ | refine blk_drew ?_ | refine blk_alloc ?_ _)); refine blk_put (cs := #[.int .i64 a0_0, .slice none 0 0]) ?_ 1 _ rfl; (with_reducible repeat (first | refine blk_drewN ?_ _ | refine blk_drew ?_ | refine blk_alloc ?_ _)); refine blk_put (cs := #[.int .i64 0, .slice none 0 0]) ?_ 0 _ rfl; (with_reducible repeat (first | refine blk_drewN ?_ _ | refine blk_drew ?_ | refine blk_alloc ?_ _)); exact BK266.out) Try.underlying33 rfl (by kernel_rfl)) rfl ?_
   exact ⟨_, by first | rfl | (simp [errW_none, errW_some] <;> rfl) | (simp [*, errW_none, errW_some] <;> rfl), by (with_reducible repeat (first | apply Kd.R_alloc | apply Kd.R_drewN | apply Kd.R_drew)); exact Kd.R_mono (Kd.R_far (p := ⟨gb266, 1, none⟩) (Kd.R_far (p := ⟨gb266, 0, none⟩) (Kd.R_types HO0_1.out BK266.out (by decide)) (fun _ hk => hk.2) (.int .i64 a0_0)) (fun _ hk => hk.2) (.slice Ao16 l0_1.length co16)) (fun _ hk => hk.1.1), by repeat (first | (with_reducible first | exact HB.out | apply below_alloc | apply pw_below_drewN | apply below_drew1 | refine below_set ?_ GE264.out | refine below_set ?_ GE265.out | refine below_set ?_ GE266.out) | exact HB.out), by repeat (first | (with_reducible first | exact HK.out | apply Kept.alloc | apply Kept.drewN | apply Kept.drew | refine Kept.setCell ?_ (.inr GW264.out) _ | refine Kept.setCell ?_ (.inr GW265.out) _ | refine Kept.setCell ?_ (.inr GW266.out) _) | exact HK.out)⟩
  ·rw [if_neg c15] at H
   have c15b0 : (a1_0 == 0) = false := beq_eq_false_iff_ne.mpr c15
   have c15b1 : (a1_0 != 0) = true := bne_iff_ne.mpr c15
   by_cases c27 : a0_0 = a1_0
   ·rw [if_pos c27] at H
    have c27b0 : (a0_0 == a1_0) = true := beq_iff_eq.mpr c27
    have c27b1 : (a0_0 != a1_0) = false := bne_eq_false_iff_eq.mpr c27
    clear c27
    replace H := Option.bind_eq_some_iff.mp H
    obtain ⟨t267, A280, H⟩ := H
    replace H : (some (a0_0, t267)) = some (r1, r2) := H
    have A28 := Aside0.mk A280
    clear A280
    simp only [Option.some.injEq, Prod.mk.injEq] at H
    obtain ⟨rfl, rfl⟩ := H
    obtain ⟨Ao29, co29, eo29⟩ := Kd.R_slice HO0_1.out
    subst eo29
    go_enter Try.func37, Try.ntmps37
    try go_wp2_with (first | ((with_reducible refine gate_dst (N := 2) rfl ?_); refine box_event ?hg (N := 2) ?hd (cs := #[.int .i64 a0_0, .slice Ao29 l0_1.length co29]) (t := 33) ?hr ?_; (case hd => rfl); (case hg => rfl); (case hr => first | (go_simp; done) | (go_simp; rfl)); intro gb264 hg w30 hbox hb; have n0_ := Aside0.mk (Kd.R_below (by (with_reducible repeat (first | apply Kd.R_alloc | apply Kd.R_drewN | apply Kd.R_drew)); exact HO0_1.out) hb); have n1_ := Aside0.mk (Kd.R_below (by (with_reducible repeat (first | apply Kd.R_alloc | apply Kd.R_drewN | apply Kd.R_drew)); exact HO1_1.out) hb); have n2_ := Aside0.mk (Kept.below (S := (fun k_ => P0_1_ k_ ∨ P1_1_ k_)) (by repeat (first | (with_reducible first | exact HK.out | apply Kept.alloc | apply Kept.drewN | apply Kept.drew) | exact HK.out)) hb); have n3_ := Aside0.mk (below_step (by repeat (first | (with_reducible first | exact HB.out | apply below_alloc | apply pw_below_drewN | apply below_drew1) | exact HB.out)) hb); have n4_ := Aside0.mk (hbox); have n5_ := Aside0.mk ((by rw [hg]; exact (by first | exact HK.out.1 | exact (show Kept w _ (fun k_ => P0_1_ k_ ∨ P1_1_ k_) from by repeat (first | (with_reducible first | exact HK.out | apply Kept.alloc | apply Kept.drewN | apply Kept.drew) | exact HK.out)).1) : w.heap.size ≤ gb264)); have n6_ := Aside0.mk ((by rw [hg]; exact (below_size (by repeat (first | (with_reducible first | exact HB.out | apply below_alloc | apply pw_below_drewN | apply below_drew1) | exact HB.out))) : w0.heap.size ≤ gb264)); clear HO0_1; clear HO1_1; clear HK; clear HB; have HO0_1 := n0_; have HO1_1 := n1_; have HK := n2_; have HB := n3_; have BK264 := n4_; have GW264 := n5_; have GE264 := n6_; clear n0_ n1_ n2_ n3_ n4_ n5_ n6_; clear hb hbox hg; obtain ⟨Ao31, co31, eo31⟩ := Kd.R_slice HO1_1.out; subst eo31) | ((with_reducible refine gate_dst (N := 3) rfl ?_); refine box_event ?hg (N := 3) ?hd (cs := #[.int .i64 a1_0, .slice Ao31 l1_1.length co31]) (t := 33) ?hr ?_; (case hd => rfl); (case hg => rfl); (case hr => first | (go_simp; done) | (go_simp; rfl)); intro gb265 hg w32 hbox hb; have n0_ := Aside0.mk (Kd.R_below (by (with_reducible repeat (first | apply Kd.R_alloc | apply Kd.R_drewN | apply Kd.R_drew)); exact HO0_1.out) hb); have n1_ := Aside0.mk (Kd.R_below (by (with_reducible repeat (first | apply Kd.R_alloc | apply Kd.R_drewN | apply Kd.R_drew)); exact HO1_1.out) hb); have n2_ := Aside0.mk (blk_below (g := gb264) (o := .cells #[.int .i64 a0_0, .slice Ao29 l0_1.length co29] 33 (0, 0)) (by (with_reducible repeat (first | refine blk_drewN ?_ _ | refine blk_drew ?_ | refine blk_alloc ?_ _)); exact BK264.out) hb); have n3_ := Aside0.mk (Kept.below (S := (fun k_ => P0_1_ k_ ∨ P1_1_ k_)) (by repeat (first | (with_reducible first | exact HK.out | apply Kept.alloc | apply Kept.drewN | apply Kept.drew | refine Kept.setCell ?_ (.inr GW264.out) _) | exact HK.out)) hb); have n4_ := Aside0.mk (below_step (by repeat (first | (with_reducible first | exact HB.out | apply below_alloc | apply pw_below_drewN | apply below_drew1 | refine below_set ?_ GE264.out) | exact HB.out)) hb); have n5_ := Aside0.mk (hbox); have n6_ := Aside0.mk ((by rw [hg]; exact (by first | exact HK.out.1 | exact (show Kept w _ (fun k_ => P0_1_ k_ ∨ P1_1_ k_) from by repeat (first | (with_reducible first | exact HK.out | apply Kept.alloc | apply Kept.drewN | apply Kept.drew | refine Kept.setCell ?_ (.inr GW264.out) _) | exact HK.out)).1) : w.heap.size ≤ gb265)); have n7_ := Aside0.mk ((by rw [hg]; exact (below_size (by repeat (first | (with_reducible first | exact HB.out | apply below_alloc | apply pw_below_drewN | apply below_drew1 | refine below_set ?_ GE264.out) | exact HB.out))) : w0.heap.size ≤ gb265)); have n8_ := Aside0.mk ((by rw [hg]; exact Nat.ne_of_lt (blk_lt (g := gb264) (o := .cells #[.int .i64 a0_0, .slice Ao29 l0_1.length co29] 33 (0, 0)) (by (with_reducible repeat (first | refine blk_drewN ?_ _ | refine blk_drew ?_ | refine blk_alloc ?_ _)); exact BK264.out)) : gb264 ≠ gb265)); have n9_ := Aside0.mk ((by rw [hg]; exact Nat.ne_of_gt (blk_lt (g := gb264) (o := .cells #[.int .i64 a0_0, .slice Ao29 l0_1.length co29] 33 (0, 0)) (by (with_reducible repeat (first | refine blk_drewN ?_ _ | refine blk_drew ?_ | refine blk_alloc ?_ _)); exact BK264.out)) : gb265 ≠ gb264)); clear HO0_1; clear HO1_1; clear BK264; clear HK; clear HB; have HO0_1 := n0_; have HO1_1 := n1_; have BK264 := n2_; have HK := n3_; have HB := n4_; have BK265 := n5_; have GW265 := n6_; have GE265 := n7_; have NB264_265 := n8_; have NB265_264 := n9_; clear n0_ n1_ n2_ n3_ n4_ n5_ n6_ n7_ n8_ n9_; clear hb hbox hg) | ((with_reducible refine gate_dst (N := 4) rfl ?_); refine box_event ?hg (N := 4) ?hd (cs := #[.int .i64 0, .slice none 0 0]) (t := 33) ?hr ?_; (case hd => rfl); (case hg => rfl); (case hr => first | (go_simp; done) | (go_simp; rfl)); intro gb266 hg w33 hbox hb; have n0_ := Aside0.mk (Kd.R_below (by (with_reducible repeat (first | apply Kd.R_alloc | apply Kd.R_drewN | apply Kd.R_drew)); exact HO0_1.out) hb); have n1_ := Aside0.mk (Kd.R_below (by (with_reducible repeat (first | apply Kd.R_alloc | apply Kd.R_drewN | apply Kd.R_drew)); exact HO1_1.out) hb); have n2_ := Aside0.mk (blk_below (g := gb264) (o := .cells #[.int .i64 a0_0, .slice Ao29 l0_1.length co29] 33 (0, 0)) (by (with_reducible repeat (first | refine blk_drewN ?_ _ | refine blk_drew ?_ | refine blk_alloc ?_ _)); exact BK264.out) hb); have n3_ := Aside0.mk (blk_below (g := gb265) (o := .cells #[.int .i64 a1_0, .slice Ao31 l1_1.length co31] 33 (0, 0)) (by (with_reducible repeat (first | refine blk_drewN ?_ _ | refine blk_drew ?_ | refine blk_alloc ?_ _)); exact BK265.out) hb); have n4_ := Aside0.mk (Kept.below (S := (fun k_ => P0_1_ k_ ∨ P1_1_ k_)) (by repeat (first | (with_reducible first | exact HK.out | apply Kept.alloc | apply Kept.drewN | apply Kept.drew | refine Kept.setCell ?_ (.inr GW264.out) _ | refine Kept.setCell ?_ (.inr GW265.out) _) | exact HK.out)) hb); have n5_ := Aside0.mk (below_step (by repeat (first | (with_reducible first | exact HB.out | apply below_alloc | apply pw_below_drewN | apply below_drew1 | refine below_set ?_ GE264.out | refine below_set ?_ GE265.out) | exact HB.out)) hb); have n6_ := Aside0.mk (hbox); have n7_ := Aside0.mk ((by rw [hg]; exact (by first | exact HK.out.1 | exact (show Kept w _ (fun k_ => P0_1_ k_ ∨ P1_1_ k_) from by repeat (first | (with_reducible first | exact HK.out | apply Kept.alloc | apply Kept.drewN | apply Kept.drew | refine Kept.setCell ?_ (.inr GW264.out) _ | refine Kept.setCell ?_ (.inr GW265.out) _) | exact HK.out)).1) : w.heap.size ≤ gb266)); have n8_ := Aside0.mk ((by rw [hg]; exact (below_size (by repeat (first | (with_reducible first | exact HB.out | apply below_alloc | apply pw_below_drewN | apply below_drew1 | refine below_set ?_ GE264.out | refine below_set ?_ GE265.out) | exact HB.out))) : w0.heap.size ≤ gb266)); have n9_ := Aside0.mk ((by rw [hg]; exact Nat.ne_of_lt (blk_lt (g := gb264) (o := .cells #[.int .i64 a0_0, .slice Ao29 l0_1.length co29] 33 (0, 0)) (by (with_reducible repeat (first | refine blk_drewN ?_ _ | refine blk_drew ?_ | refine blk_alloc ?_ _)); exact BK264.out)) : gb264 ≠ gb266)); have n10_ := Aside0.mk ((by rw [hg]; exact Nat.ne_of_gt (blk_lt (g := gb264) (o := .cells #[.int .i64 a0_0, .slice Ao29 l0_1.length co29] 33 (0, 0)) (by (with_reducible repeat (first | refine blk_drewN ?_ _ | refine blk_drew ?_ | refine blk_alloc ?_ _)); exact BK264.out)) : gb266 ≠ gb264)); have n11_ := Aside0.mk ((by rw [hg]; exact Nat.ne_of_lt (blk_lt (g := gb265) (o := .cells #[.int .i64 a1_0, .slice Ao31 l1_1.length co31] 33 (0, 0)) (by (with_reducible repeat (first | refine blk_drewN ?_ _ | refine blk_drew ?_ | refine blk_alloc ?_ _)); exact BK265.out)) : gb265 ≠ gb266)); have n12_ := Aside0.mk ((by rw [hg]; exact Nat.ne_of_gt (blk_lt (g := gb265) (o := .cells #[.int .i64 a1_0, .slice Ao31 l1_1.length co31] 33 (0, 0)) (by (with_reducible repeat (first | refine blk_drewN ?_ _ | refine blk_drew ?_ | refine blk_alloc ?_ _)); exact BK265.out)) : gb266 ≠ gb265)); clear HO0_1; clear HO1_1; clear BK264; clear BK265; clear HK; clear HB; have HO0_1 := n0_; have HO1_1 := n1_; have BK264 := n2_; have BK265 := n3_; have HK := n4_; have HB := n5_; have BK266 := n6_; have GW266 := n7_; have GE266 := n8_; have NB264_266 := n9_; have NB266_264 := n10_; have NB265_266 := n11_; have NB266_265 := n12_; clear n0_ n1_ n2_ n3_ n4_ n5_ n6_ n7_ n8_ n9_ n10_ n11_ n12_; clear hb hbox hg; have hnb34 := NB264_265.out; have hnc34 := NB265_264.out; have hnb35 := NB264_266.out; have hnc35 := NB266_264.out; have hcz36_0 : w33.cell? ⟨gb264, 0, none⟩ = some (.int .i64 a0_0) := (blk_cell BK264.out 0).trans rfl; have hcz36_1 : w33.cell? ⟨gb264, 1, none⟩ = some (.slice Ao29 l0_1.length co29) := (blk_cell BK264.out 1).trans rfl; have hfz36_0 := blk_frozen BK264.out 0; have hfz36_1 := blk_frozen BK264.out 1; have hnb37 := NB265_266.out; have hnc37 := NB266_265.out; have hcz38_0 : w33.cell? ⟨gb265, 0, none⟩ = some (.int .i64 a1_0) := (blk_cell BK265.out 0).trans rfl; have hcz38_1 : w33.cell? ⟨gb265, 1, none⟩ = some (.slice Ao31 l1_1.length co31) := (blk_cell BK265.out 1).trans rfl; have hfz38_0 := blk_frozen BK265.out 0; have hfz38_1 := blk_frozen BK265.out 1))
    have n0_ := Aside0.mk (Kd.R_drew HO0_1.out)
    have n1_ := Aside0.mk (Kd.R_drew HO1_1.out)
    have n2_ := Aside0.mk (blk_drew BK264.out)
    have n3_ := Aside0.mk (blk_drew BK265.out)
    have n4_ := Aside0.mk (blk_drew BK266.out)
    have n5_ := Aside0.mk (Kept.drew HK.out)
    have n6_ := Aside0.mk (below_drew1 HB.out)
    clear HO0_1
    clear HO1_1
    clear BK264
    clear BK265
    clear BK266
    clear HK
    clear HB
    have HO0_1 := n0_
    have HO1_1 := n1_
    have BK264 := n2_
    have BK265 := n3_
    have BK266 := n4_
    have HK := n5_
    have HB := n6_
    clear n0_ n1_ n2_ n3_ n4_ n5_ n6_
    refine start_ (n := 9) (S := fun w' => w'.cell? ⟨gb264, 0, none⟩ = some (.int .i64 a0_0) ∧ w'.cell? ⟨gb264, 1, none⟩ = some (.slice Ao29 l0_1.length co29) ∧ w'.cell? ⟨gb265, 0, none⟩ = some (.int .i64 a1_0) ∧ w'.cell? ⟨gb265, 1, none⟩ = some (.slice Ao31 l1_1.length co31)) (ds := []) #[false, false, false, false, false, false, false, false, false] (by kernel_rfl) rfl rfl ⟨(blk_cell BK264.out 0).trans rfl, (blk_cell BK264.out 1).trans rfl, (blk_cell BK265.out 0).trans rfl, (blk_cell BK265.out 1).trans rfl⟩ (fun hHeld => ?_); refine with_tabW zelligeref04_Add.tab6 zelligeref04_Add.bits6 (fun HT_ HW_ => ?_)
    generalize w33.drew = w39 at HO0_1 HO1_1 BK264 BK265 BK266 HK HB hHeld ⊢
    refine pure_ (i := 0) (N := some 18) (v := ?_) (a' := ?_) #[true, false, false, false, false, false, false, false, false] rfl rfl (any_of HT_.out (by kernel_rfl)) (fun _ _ _ h => h) (Or.inl ⟨by rfl, ?_⟩) ?_ ?_
    rotate_left
    ·intro w'
     go_simp
     with_reducible rfl
    rotate_left
    ·simp only [Act.put, List.setIfInBounds_toArray, List.set_cons_zero, List.set_cons_succ, i64_w, i32_w]
     rfl
    refine pure_ (i := 2) (N := some 20) (v := ?_) (a' := ?_) #[true, false, true, false, false, false, false, false, false] rfl rfl (any_of HT_.out (by kernel_rfl)) (fun _ _ _ h => h) (Or.inl ⟨by rfl, ?_⟩) ?_ ?_
    rotate_left
    ·intro w'
     go_simp
     with_reducible rfl
    rotate_left
    ·simp only [Act.put, List.setIfInBounds_toArray, List.set_cons_zero, List.set_cons_succ, i64_w, i32_w]
     rfl
    refine pure_ (i := 4) (N := some 22) (v := ?_) (a' := ?_) #[true, false, true, false, true, false, false, false, false] rfl rfl (any_of HT_.out (by kernel_rfl)) (fun _ _ _ h => h) (Or.inl ⟨by rfl, ?_⟩) ?_ ?_
    rotate_left
    ·intro w'
     go_simp
     with_reducible rfl
    rotate_left
    ·simp only [Act.put, List.setIfInBounds_toArray, List.set_cons_zero, List.set_cons_succ, i64_w, i32_w]
     rfl
    refine take_ (i := 1) (N := some 19) (v := ?_) (a' := ?_) #[true, true, true, false, true, false, false, false, false] rfl rfl (take_ofW HT_.out HW_.out (by kernel_rfl)) (fun _ _ _ h => h) (Or.inl ⟨by rfl, ?_⟩) hHeld ?_ ?_
    rotate_left
    ·rintro w' ⟨s0, s1, s2, s3⟩
     go_simp
     with_reducible rfl
    rotate_left
    ·simp only [Act.put, List.setIfInBounds_toArray, List.set_cons_zero, List.set_cons_succ, i64_w, i32_w]
     rfl
    refine take_ (i := 3) (N := some 21) (v := ?_) (a' := ?_) #[true, true, true, true, true, false, false, false, false] rfl rfl (take_ofW HT_.out HW_.out (by kernel_rfl)) (fun _ _ _ h => h) (Or.inl ⟨by rfl, ?_⟩) hHeld ?_ ?_
    rotate_left
    ·rintro w' ⟨s0, s1, s2, s3⟩
     go_simp
     with_reducible rfl
    rotate_left
    ·simp only [Act.put, List.setIfInBounds_toArray, List.set_cons_zero, List.set_cons_succ, i64_w, i32_w]
     rfl
    refine take_ (i := 5) (N := some 23) (v := ?_) (a' := ?_) #[true, true, true, true, true, true, false, false, false] rfl rfl (take_ofW HT_.out HW_.out (by kernel_rfl)) (fun _ _ _ h => h) (Or.inl ⟨by rfl, ?_⟩) hHeld ?_ ?_
    rotate_left
    ·rintro w' ⟨s0, s1, s2, s3⟩
     go_simp
     with_reducible rfl
    rotate_left
    ·simp only [Act.put, List.setIfInBounds_toArray, List.set_cons_zero, List.set_cons_succ, i64_w, i32_w]
     rfl
    refine one_ (i := 6) (N := some 24) #[true, true, true, true, true, true, true, false, false] rfl rfl (one_of HT_.out (by kernel_rfl)) (by decide) (fun K hK => ?_)
    refine goes_ Try.func57 (by kernel_rfl) rfl #[.slice Ao29 l0_1.length co29, .slice Ao31 l1_1.length co31] (by rfl) rfl rfl (by (try simp only [List.map_toArray, List.map_cons, List.map_nil]); first | done | rfl | (simp only [List.length_drop, List.length_take]; rfl)) ?_
    with_reducible refine (zelligeref03_Add.calls k _ _ l0_1 _ _ l1_1 t267 _ ?side1 ?side2 ?side3 ?side4 A28.out).mono ?_
    (case side1 => repeat (first | exact (Kd.R_reads' HO0_1.out).2.2 | (with_reducible refine Kd.C_alloc ?_ _) | (with_reducible refine Kd.C_drewN ?_ _) | (with_reducible refine Kd.C_drew ?_)))
    (case side2 => exact (Kd.R_reads' HO0_1.out).2.1)
    (case side3 => repeat (first | exact (Kd.R_reads' HO1_1.out).2.2 | (with_reducible refine Kd.C_alloc ?_ _) | (with_reducible refine Kd.C_drewN ?_ _) | (with_reducible refine Kd.C_drew ?_)))
    (case side4 => exact (Kd.R_reads' HO1_1.out).2.1)
    rintro e w40 ⟨v268, rfl, ho0, hb⟩
    refine ⟨_, rfl, ?_⟩
    have n0_ := Aside0.mk (Kd.R_elder' (by (with_reducible repeat (first | apply Kd.R_alloc | apply Kd.R_drewN | apply Kd.R_drew)); exact HO0_1.out) (Kd.R_base ho0) hb)
    have n1_ := Aside0.mk (Kd.R_elder' (by (with_reducible repeat (first | apply Kd.R_alloc | apply Kd.R_drewN | apply Kd.R_drew)); exact HO1_1.out) (Kd.R_base ho0) hb)
    have n2_ := Aside0.mk (Kd.R_lower (Kd.R_new' (Kd.R_new' (Kd.R_newM (M := fun k_ => ((P0_1_ k_ ∨ P1_1_ k_) ∨ w.heap.size ≤ k_)) ho0 (by first | exact HK.out.1 | exact (show Kept w _ (fun k_ => P0_1_ k_ ∨ P1_1_ k_) from by repeat (first | (with_reducible first | exact HK.out | apply Kept.alloc | apply Kept.drewN | apply Kept.drew | refine Kept.setCell ?_ (.inr GW264.out) _ | refine Kept.setCell ?_ (.inr GW265.out) _ | refine Kept.setCell ?_ (.inr GW266.out) _) | exact HK.out)).1) (fun k_ h_ => .inr h_)) (Kd.R_lt (by (with_reducible repeat (first | apply Kd.R_alloc | apply Kd.R_drewN | apply Kd.R_drew)); exact HO0_1.out))) (Kd.R_lt (by (with_reducible repeat (first | apply Kd.R_alloc | apply Kd.R_drewN | apply Kd.R_drew)); exact HO1_1.out))) (below_size (by repeat (first | (with_reducible first | exact HB.out | apply below_alloc | apply pw_below_drewN | apply below_drew1 | refine below_set ?_ GE264.out | refine below_set ?_ GE265.out | refine below_set ?_ GE266.out) | exact HB.out))))
    have n3_ := Aside0.mk (blk_below (g := gb264) (o := .cells #[.int .i64 a0_0, .slice Ao29 l0_1.length co29] 33 (0, 0)) (by (with_reducible repeat (first | refine blk_drewN ?_ _ | refine blk_drew ?_ | refine blk_alloc ?_ _)); exact BK264.out) hb)
    have n4_ := Aside0.mk (blk_below (g := gb265) (o := .cells #[.int .i64 a1_0, .slice Ao31 l1_1.length co31] 33 (0, 0)) (by (with_reducible repeat (first | refine blk_drewN ?_ _ | refine blk_drew ?_ | refine blk_alloc ?_ _)); exact BK265.out) hb)
    have n5_ := Aside0.mk (blk_below (g := gb266) (o := .cells #[.int .i64 0, .slice none 0 0] 33 (0, 0)) (by (with_reducible repeat (first | refine blk_drewN ?_ _ | refine blk_drew ?_ | refine blk_alloc ?_ _)); exact BK266.out) hb)
    have n6_ := Aside0.mk (Kept.below (S := (fun k_ => P0_1_ k_ ∨ P1_1_ k_)) (by repeat (first | (with_reducible first | exact HK.out | apply Kept.alloc | apply Kept.drewN | apply Kept.drew | refine Kept.setCell ?_ (.inr GW264.out) _ | refine Kept.setCell ?_ (.inr GW265.out) _ | refine Kept.setCell ?_ (.inr GW266.out) _) | exact HK.out)) hb)
    have n7_ := Aside0.mk (below_step (by repeat (first | (with_reducible first | exact HB.out | apply below_alloc | apply pw_below_drewN | apply below_drew1 | refine below_set ?_ GE264.out | refine below_set ?_ GE265.out | refine below_set ?_ GE266.out) | exact HB.out)) hb)
    clear HO0_1
    clear HO1_1
    clear BK264
    clear BK265
    clear BK266
    clear HK
    clear HB
    have HO0_1 := n0_
    have HO1_1 := n1_
    have HO269 := n2_
    have BK264 := n3_
    have BK265 := n4_
    have BK266 := n5_
    have HK := n6_
    have HB := n7_
    clear n0_ n1_ n2_ n3_ n4_ n5_ n6_ n7_
    (try clear hb)
    (try clear hb2)
    (try clear hk)
    (try clear hi)
    (try clear ho0)
    obtain ⟨Ao41, co41, eo41⟩ := Kd.R_slice HO269.out
    (first | subst eo41 | (injection eo41 with f1_ f2_ f3_; have f4_ := f1_.symm; have f5_ := f3_.symm; clear f1_ f2_ f3_; subst f4_; subst f5_))
    refine hK.out _ _ ⟨(blk_cell BK264.out 0).trans rfl, (blk_cell BK264.out 1).trans rfl, (blk_cell BK265.out 0).trans rfl, (blk_cell BK265.out 1).trans rfl⟩ (fun hHeld => ?_)
    clear hK K
    refine norm_ (a' := ?_) ?_ ?_
    rotate_left
    ·show Act.put _ (some 24) _ = _
     simp only [Act.put, List.setIfInBounds_toArray, List.set_cons_zero, List.set_cons_succ, i64_w, i32_w]
     rfl
    refine pure_ (i := 7) (N := some 25) (v := ?_) (a' := ?_) #[true, true, true, true, true, true, true, true, false] rfl rfl (any_of HT_.out (by kernel_rfl)) (fun _ _ _ h => h) (Or.inl ⟨by rfl, ?_⟩) ?_ ?_
    rotate_left
    ·intro w'
     go_simp
     with_reducible rfl
    rotate_left
    ·simp only [Act.put, List.setIfInBounds_toArray, List.set_cons_zero, List.set_cons_succ, i64_w, i32_w]
     rfl
    refine one_ (i := 8) (N := none) #[true, true, true, true, true, true, true, true, true] rfl rfl (one_of HT_.out (by kernel_rfl)) (by decide) (fun K hK => ?_)
    have hs42 : w40.cell? ⟨gb266, 0, none⟩ = some (.int .i64 0) := (blk_cell BK266.out 0).trans rfl
    have hfs42 := blk_frozen BK266.out 0
    have hns42_0 := NB264_266.out
    have hns42_1 := NB265_266.out
    have hms42_0 := NB266_264.out
    have hms42_1 := NB266_265.out
    have hs43 : w40.cell? ⟨gb266, 1, none⟩ = some (.slice none 0 0) := (blk_cell BK266.out 1).trans rfl
    have hfs43 := blk_frozen BK266.out 1
    have hns43_0 := NB264_266.out
    have hns43_1 := NB265_266.out
    have hms43_0 := NB266_264.out
    have hms43_1 := NB266_265.out
    refine skip_ (w1 := ?_) (by rfl) rfl ?_ ?_
    rotate_left
    ·go_simp
     rfl
    refine hK.out _ _ ⟨((cell_far (p := ⟨gb266, _, none⟩) NB264_266.out _).trans (((cell_far (p := ⟨gb266, _, none⟩) NB264_266.out _).trans (hHeld.1)))), ((cell_far (p := ⟨gb266, _, none⟩) NB264_266.out _).trans (((cell_far (p := ⟨gb266, _, none⟩) NB264_266.out _).trans (hHeld.2.1)))), ((cell_far (p := ⟨gb266, _, none⟩) NB265_266.out _).trans (((cell_far (p := ⟨gb266, _, none⟩) NB265_266.out _).trans (hHeld.2.2.1)))), ((cell_far (p := ⟨gb266, _, none⟩) NB265_266.out _).trans (((cell_far (p := ⟨gb266, _, none⟩) NB265_266.out _).trans (hHeld.2.2.2))))⟩ (fun hHeld => ?_)
    clear hK K
    refine done_ (done_of HT_.out (by kernel_rfl)) ?_
    try go_wp2
    refine bodyPost_ret (results_cell_row rfl _ _ gb266 33 #[.int .i64 a0_0, .slice Ao41 t267.length co41] (0, 0) _ rfl (by (with_reducible repeat (first | refine blk_drewN ?_ _ | refine blk_drew ?_ | refine blk_alloc ?_ _)); refine blk_put (cs := #[.int .i64 a0_0, .slice none 0 0]) ?_ 1 _ rfl; (with_reducible repeat (first | refine blk_drewN ?_ _ | refine blk_drew ?_ | refine blk_alloc ?_ _)); refine blk_put (cs := #[.int .i64 0, .slice none 0 0]) ?_ 0 _ rfl; (with_reducible repeat (first | refine blk_drewN ?_ _ | refine blk_drew ?_ | refine blk_alloc ?_ _)); exact BK266.out) Try.underlying33 rfl (by kernel_rfl)) rfl ?_
    exact ⟨_, by first | rfl | (simp [errW_none, errW_some] <;> rfl) | (simp [*, errW_none, errW_some] <;> rfl), by (with_reducible repeat (first | apply Kd.R_alloc | apply Kd.R_drewN | apply Kd.R_drew)); exact Kd.R_mono (Kd.R_far (p := ⟨gb266, 1, none⟩) (Kd.R_far (p := ⟨gb266, 0, none⟩) (Kd.R_types HO269.out BK266.out (by decide)) (fun _ hk => hk.2) (.int .i64 a0_0)) (fun _ hk => hk.2) (.slice Ao41 t267.length co41)) (fun _ hk => hk.1.1.1.1), by repeat (first | (with_reducible first | exact HB.out | apply below_alloc | apply pw_below_drewN | apply below_drew1 | refine below_set ?_ GE264.out | refine below_set ?_ GE265.out | refine below_set ?_ GE266.out) | exact HB.out), by repeat (first | (with_reducible first | exact HK.out | apply Kept.alloc | apply Kept.drewN | apply Kept.drew | refine Kept.setCell ?_ (.inr GW264.out) _ | refine Kept.setCell ?_ (.inr GW265.out) _ | refine Kept.setCell ?_ (.inr GW266.out) _) | exact HK.out)⟩
   ·rw [if_neg c27] at H
    have c27b0 : (a0_0 == a1_0) = false := beq_eq_false_iff_ne.mpr c27
    have c27b1 : (a0_0 != a1_0) = true := bne_iff_ne.mpr c27
    replace H := Option.bind_eq_some_iff.mp H
    obtain ⟨t270, A440, H⟩ := H
    replace H : (if t270 ≥ 0 then ((zelligeref03_Sub.f k l0_1 l1_1).bind fun t271 => ((zelligeref04_make1.f a0_0 t271).bind fun bt274 => (some (bt274.1, bt274.2)))) else ((zelligeref03_Sub.f k l1_1 l0_1).bind fun t278 => ((zelligeref04_make1.f a1_0 t278).bind fun bt281 => (some (bt281.1, bt281.2))))) = some (r1, r2) := H
    have A44 := Aside0.mk A440
    clear A440
    by_cases c45 : t270 ≥ 0
    ·rw [if_pos c45] at H
     have c45b0 : decide (0 ≤ t270) = true := decide_eq_true c45
     clear c45
     replace H := Option.bind_eq_some_iff.mp H
     obtain ⟨t271, A460, H⟩ := H
     replace H : ((zelligeref04_make1.f a0_0 t271).bind fun bt274 => (some (bt274.1, bt274.2))) = some (r1, r2) := H
     have A46 := Aside0.mk A460
     clear A460
     replace H := Option.bind_eq_some_iff.mp H
     obtain ⟨⟨t274, t275⟩, A470, H⟩ := H
     replace H : (some (t274, t275)) = some (r1, r2) := H
     have A47 := Aside0.mk A470
     clear A470
     simp only [Option.some.injEq, Prod.mk.injEq] at H
     obtain ⟨rfl, rfl⟩ := H
     obtain ⟨Ao48, co48, eo48⟩ := Kd.R_slice HO0_1.out
     subst eo48
     go_enter Try.func37, Try.ntmps37
     try go_wp2_with (first | ((with_reducible refine gate_dst (N := 2) rfl ?_); refine box_event ?hg (N := 2) ?hd (cs := #[.int .i64 a0_0, .slice Ao48 l0_1.length co48]) (t := 33) ?hr ?_; (case hd => rfl); (case hg => rfl); (case hr => first | (go_simp; done) | (go_simp; rfl)); intro gb264 hg w49 hbox hb; have n0_ := Aside0.mk (Kd.R_below (by (with_reducible repeat (first | apply Kd.R_alloc | apply Kd.R_drewN | apply Kd.R_drew)); exact HO0_1.out) hb); have n1_ := Aside0.mk (Kd.R_below (by (with_reducible repeat (first | apply Kd.R_alloc | apply Kd.R_drewN | apply Kd.R_drew)); exact HO1_1.out) hb); have n2_ := Aside0.mk (Kept.below (S := (fun k_ => P0_1_ k_ ∨ P1_1_ k_)) (by repeat (first | (with_reducible first | exact HK.out | apply Kept.alloc | apply Kept.drewN | apply Kept.drew) | exact HK.out)) hb); have n3_ := Aside0.mk (below_step (by repeat (first | (with_reducible first | exact HB.out | apply below_alloc | apply pw_below_drewN | apply below_drew1) | exact HB.out)) hb); have n4_ := Aside0.mk (hbox); have n5_ := Aside0.mk ((by rw [hg]; exact (by first | exact HK.out.1 | exact (show Kept w _ (fun k_ => P0_1_ k_ ∨ P1_1_ k_) from by repeat (first | (with_reducible first | exact HK.out | apply Kept.alloc | apply Kept.drewN | apply Kept.drew) | exact HK.out)).1) : w.heap.size ≤ gb264)); have n6_ := Aside0.mk ((by rw [hg]; exact (below_size (by repeat (first | (with_reducible first | exact HB.out | apply below_alloc | apply pw_below_drewN | apply below_drew1) | exact HB.out))) : w0.heap.size ≤ gb264)); clear HO0_1; clear HO1_1; clear HK; clear HB; have HO0_1 := n0_; have HO1_1 := n1_; have HK := n2_; have HB := n3_; have BK264 := n4_; have GW264 := n5_; have GE264 := n6_; clear n0_ n1_ n2_ n3_ n4_ n5_ n6_; clear hb hbox hg; obtain ⟨Ao50, co50, eo50⟩ := Kd.R_slice HO1_1.out; subst eo50) | ((with_reducible refine gate_dst (N := 3) rfl ?_); refine box_event ?hg (N := 3) ?hd (cs := #[.int .i64 a1_0, .slice Ao50 l1_1.length co50]) (t := 33) ?hr ?_; (case hd => rfl); (case hg => rfl); (case hr => first | (go_simp; done) | (go_simp; rfl)); intro gb265 hg w51 hbox hb; have n0_ := Aside0.mk (Kd.R_below (by (with_reducible repeat (first | apply Kd.R_alloc | apply Kd.R_drewN | apply Kd.R_drew)); exact HO0_1.out) hb); have n1_ := Aside0.mk (Kd.R_below (by (with_reducible repeat (first | apply Kd.R_alloc | apply Kd.R_drewN | apply Kd.R_drew)); exact HO1_1.out) hb); have n2_ := Aside0.mk (blk_below (g := gb264) (o := .cells #[.int .i64 a0_0, .slice Ao48 l0_1.length co48] 33 (0, 0)) (by (with_reducible repeat (first | refine blk_drewN ?_ _ | refine blk_drew ?_ | refine blk_alloc ?_ _)); exact BK264.out) hb); have n3_ := Aside0.mk (Kept.below (S := (fun k_ => P0_1_ k_ ∨ P1_1_ k_)) (by repeat (first | (with_reducible first | exact HK.out | apply Kept.alloc | apply Kept.drewN | apply Kept.drew | refine Kept.setCell ?_ (.inr GW264.out) _) | exact HK.out)) hb); have n4_ := Aside0.mk (below_step (by repeat (first | (with_reducible first | exact HB.out | apply below_alloc | apply pw_below_drewN | apply below_drew1 | refine below_set ?_ GE264.out) | exact HB.out)) hb); have n5_ := Aside0.mk (hbox); have n6_ := Aside0.mk ((by rw [hg]; exact (by first | exact HK.out.1 | exact (show Kept w _ (fun k_ => P0_1_ k_ ∨ P1_1_ k_) from by repeat (first | (with_reducible first | exact HK.out | apply Kept.alloc | apply Kept.drewN | apply Kept.drew | refine Kept.setCell ?_ (.inr GW264.out) _) | exact HK.out)).1) : w.heap.size ≤ gb265)); have n7_ := Aside0.mk ((by rw [hg]; exact (below_size (by repeat (first | (with_reducible first | exact HB.out | apply below_alloc | apply pw_below_drewN | apply below_drew1 | refine below_set ?_ GE264.out) | exact HB.out))) : w0.heap.size ≤ gb265)); have n8_ := Aside0.mk ((by rw [hg]; exact Nat.ne_of_lt (blk_lt (g := gb264) (o := .cells #[.int .i64 a0_0, .slice Ao48 l0_1.length co48] 33 (0, 0)) (by (with_reducible repeat (first | refine blk_drewN ?_ _ | refine blk_drew ?_ | refine blk_alloc ?_ _)); exact BK264.out)) : gb264 ≠ gb265)); have n9_ := Aside0.mk ((by rw [hg]; exact Nat.ne_of_gt (blk_lt (g := gb264) (o := .cells #[.int .i64 a0_0, .slice Ao48 l0_1.length co48] 33 (0, 0)) (by (with_reducible repeat (first | refine blk_drewN ?_ _ | refine blk_drew ?_ | refine blk_alloc ?_ _)); exact BK264.out)) : gb265 ≠ gb264)); clear HO0_1; clear HO1_1; clear BK264; clear HK; clear HB; have HO0_1 := n0_; have HO1_1 := n1_; have BK264 := n2_; have HK := n3_; have HB := n4_; have BK265 := n5_; have GW265 := n6_; have GE265 := n7_; have NB264_265 := n8_; have NB265_264 := n9_; clear n0_ n1_ n2_ n3_ n4_ n5_ n6_ n7_ n8_ n9_; clear hb hbox hg) | ((with_reducible refine gate_dst (N := 4) rfl ?_); refine box_event ?hg (N := 4) ?hd (cs := #[.int .i64 0, .slice none 0 0]) (t := 33) ?hr ?_; (case hd => rfl); (case hg => rfl); (case hr => first | (go_simp; done) | (go_simp; rfl)); intro gb266 hg w52 hbox hb; have n0_ := Aside0.mk (Kd.R_below (by (with_reducible repeat (first | apply Kd.R_alloc | apply Kd.R_drewN | apply Kd.R_drew)); exact HO0_1.out) hb); have n1_ := Aside0.mk (Kd.R_below (by (with_reducible repeat (first | apply Kd.R_alloc | apply Kd.R_drewN | apply Kd.R_drew)); exact HO1_1.out) hb); have n2_ := Aside0.mk (blk_below (g := gb264) (o := .cells #[.int .i64 a0_0, .slice Ao48 l0_1.length co48] 33 (0, 0)) (by (with_reducible repeat (first | refine blk_drewN ?_ _ | refine blk_drew ?_ | refine blk_alloc ?_ _)); exact BK264.out) hb); have n3_ := Aside0.mk (blk_below (g := gb265) (o := .cells #[.int .i64 a1_0, .slice Ao50 l1_1.length co50] 33 (0, 0)) (by (with_reducible repeat (first | refine blk_drewN ?_ _ | refine blk_drew ?_ | refine blk_alloc ?_ _)); exact BK265.out) hb); have n4_ := Aside0.mk (Kept.below (S := (fun k_ => P0_1_ k_ ∨ P1_1_ k_)) (by repeat (first | (with_reducible first | exact HK.out | apply Kept.alloc | apply Kept.drewN | apply Kept.drew | refine Kept.setCell ?_ (.inr GW264.out) _ | refine Kept.setCell ?_ (.inr GW265.out) _) | exact HK.out)) hb); have n5_ := Aside0.mk (below_step (by repeat (first | (with_reducible first | exact HB.out | apply below_alloc | apply pw_below_drewN | apply below_drew1 | refine below_set ?_ GE264.out | refine below_set ?_ GE265.out) | exact HB.out)) hb); have n6_ := Aside0.mk (hbox); have n7_ := Aside0.mk ((by rw [hg]; exact (by first | exact HK.out.1 | exact (show Kept w _ (fun k_ => P0_1_ k_ ∨ P1_1_ k_) from by repeat (first | (with_reducible first | exact HK.out | apply Kept.alloc | apply Kept.drewN | apply Kept.drew | refine Kept.setCell ?_ (.inr GW264.out) _ | refine Kept.setCell ?_ (.inr GW265.out) _) | exact HK.out)).1) : w.heap.size ≤ gb266)); have n8_ := Aside0.mk ((by rw [hg]; exact (below_size (by repeat (first | (with_reducible first | exact HB.out | apply below_alloc | apply pw_below_drewN | apply below_drew1 | refine below_set ?_ GE264.out | refine below_set ?_ GE265.out) | exact HB.out))) : w0.heap.size ≤ gb266)); have n9_ := Aside0.mk ((by rw [hg]; exact Nat.ne_of_lt (blk_lt (g := gb264) (o := .cells #[.int .i64 a0_0, .slice Ao48 l0_1.length co48] 33 (0, 0)) (by (with_reducible repeat (first | refine blk_drewN ?_ _ | refine blk_drew ?_ | refine blk_alloc ?_ _)); exact BK264.out)) : gb264 ≠ gb266)); have n10_ := Aside0.mk ((by rw [hg]; exact Nat.ne_of_gt (blk_lt (g := gb264) (o := .cells #[.int .i64 a0_0, .slice Ao48 l0_1.length co48] 33 (0, 0)) (by (with_reducible repeat (first | refine blk_drewN ?_ _ | refine blk_drew ?_ | refine blk_alloc ?_ _)); exact BK264.out)) : gb266 ≠ gb264)); have n11_ := Aside0.mk ((by rw [hg]; exact Nat.ne_of_lt (blk_lt (g := gb265) (o := .cells #[.int .i64 a1_0, .slice Ao50 l1_1.length co50] 33 (0, 0)) (by (with_reducible repeat (first | refine blk_drewN ?_ _ | refine blk_drew ?_ | refine blk_alloc ?_ _)); exact BK265.out)) : gb265 ≠ gb266)); have n12_ := Aside0.mk ((by rw [hg]; exact Nat.ne_of_gt (blk_lt (g := gb265) (o := .cells #[.int .i64 a1_0, .slice Ao50 l1_1.length co50] 33 (0, 0)) (by (with_reducible repeat (first | refine blk_drewN ?_ _ | refine blk_drew ?_ | refine blk_alloc ?_ _)); exact BK265.out)) : gb266 ≠ gb265)); clear HO0_1; clear HO1_1; clear BK264; clear BK265; clear HK; clear HB; have HO0_1 := n0_; have HO1_1 := n1_; have BK264 := n2_; have BK265 := n3_; have HK := n4_; have HB := n5_; have BK266 := n6_; have GW266 := n7_; have GE266 := n8_; have NB264_266 := n9_; have NB266_264 := n10_; have NB265_266 := n11_; have NB266_265 := n12_; clear n0_ n1_ n2_ n3_ n4_ n5_ n6_ n7_ n8_ n9_ n10_ n11_ n12_; clear hb hbox hg; have hnb53 := NB264_265.out; have hnc53 := NB265_264.out; have hnb54 := NB264_266.out; have hnc54 := NB266_264.out; have hcz55_0 : w52.cell? ⟨gb264, 0, none⟩ = some (.int .i64 a0_0) := (blk_cell BK264.out 0).trans rfl; have hcz55_1 : w52.cell? ⟨gb264, 1, none⟩ = some (.slice Ao48 l0_1.length co48) := (blk_cell BK264.out 1).trans rfl; have hfz55_0 := blk_frozen BK264.out 0; have hfz55_1 := blk_frozen BK264.out 1; have hnb56 := NB265_266.out; have hnc56 := NB266_265.out; have hcz57_0 : w52.cell? ⟨gb265, 0, none⟩ = some (.int .i64 a1_0) := (blk_cell BK265.out 0).trans rfl; have hcz57_1 : w52.cell? ⟨gb265, 1, none⟩ = some (.slice Ao50 l1_1.length co50) := (blk_cell BK265.out 1).trans rfl; have hfz57_0 := blk_frozen BK265.out 0; have hfz57_1 := blk_frozen BK265.out 1) | ((with_reducible refine gate_callee (f := 58) rfl ?_); refine goesL_ (some 30) rfl rfl Try.func58 (by kernel_rfl) rfl #[.slice Ao48 l0_1.length co48, .slice Ao50 l1_1.length co50] rfl (by (try simp only [List.map_toArray, List.map_cons, List.map_nil]); first | done | rfl | (simp only [List.length_drop, List.length_take]; rfl)) ?_; (with_reducible refine (zelligeref03_Cmp.calls k _ _ l0_1 _ _ l1_1 t270 _ ?side1 ?side2 ?side3 ?side4 A44.out).mono ?_); (case side1 => repeat (first | exact (Kd.R_reads' HO0_1.out).2.2 | (with_reducible refine Kd.C_alloc ?_ _) | (with_reducible refine Kd.C_drewN ?_ _) | (with_reducible refine Kd.C_drew ?_))); (case side2 => exact (Kd.R_reads' HO0_1.out).2.1); (case side3 => repeat (first | exact (Kd.R_reads' HO1_1.out).2.2 | (with_reducible refine Kd.C_alloc ?_ _) | (with_reducible refine Kd.C_drewN ?_ _) | (with_reducible refine Kd.C_drew ?_))); (case side4 => exact (Kd.R_reads' HO1_1.out).2.1); rintro e w' ⟨rfl, ⟨nd, rfl⟩⟩; refine ⟨_, rfl, ?_⟩; (try (rw [drewN_self w52]; generalize hq_ : World.drewN w52 _ = w52; have n0_ : Aside0 (Kd.R (Kd.int .i64) 3 w52 w0.heap.size (fun k_ => ((P0_1_ k_ ∨ P1_1_ k_) ∨ w.heap.size ≤ k_) ∧ some k_ ≠ (.slice Ao50 l1_1.length co50 : Value).ownBlock) (.slice Ao48 l0_1.length co48) l0_1) := ⟨by rw [← hq_]; exact (by (with_reducible repeat (first | apply Kd.R_alloc | apply Kd.R_drewN | apply Kd.R_drew)); exact HO0_1.out)⟩; have n1_ : Aside0 (Kd.R (Kd.int .i64) 3 w52 w0.heap.size (fun k_ => ((P0_1_ k_ ∨ P1_1_ k_) ∨ w.heap.size ≤ k_) ∧ some k_ ≠ (.slice Ao48 l0_1.length co48 : Value).ownBlock) (.slice Ao50 l1_1.length co50) l1_1) := ⟨by rw [← hq_]; exact (by (with_reducible repeat (first | apply Kd.R_alloc | apply Kd.R_drewN | apply Kd.R_drew)); exact HO1_1.out)⟩; have n2_ : Aside0 (w52.heap[gb264]? = some (.cells #[.int .i64 a0_0, .slice Ao48 l0_1.length co48] 33 (0, 0))) := ⟨by rw [← hq_]; exact (by (with_reducible repeat (first | refine blk_drewN ?_ _ | refine blk_drew ?_ | refine blk_alloc ?_ _)); exact BK264.out)⟩; have n3_ : Aside0 (w52.heap[gb265]? = some (.cells #[.int .i64 a1_0, .slice Ao50 l1_1.length co50] 33 (0, 0))) := ⟨by rw [← hq_]; exact (by (with_reducible repeat (first | refine blk_drewN ?_ _ | refine blk_drew ?_ | refine blk_alloc ?_ _)); exact BK265.out)⟩; have n4_ : Aside0 (w52.heap[gb266]? = some (.cells #[.int .i64 0, .slice none 0 0] 33 (0, 0))) := ⟨by rw [← hq_]; exact (by (with_reducible repeat (first | refine blk_drewN ?_ _ | refine blk_drew ?_ | refine blk_alloc ?_ _)); exact BK266.out)⟩; have n5_ : Aside0 (Kept w w52 (fun k_ => P0_1_ k_ ∨ P1_1_ k_)) := ⟨by rw [← hq_]; exact (by repeat (first | (with_reducible first | exact HK.out | apply Kept.alloc | apply Kept.drewN | apply Kept.drew | refine Kept.setCell ?_ (.inr GW264.out) _ | refine Kept.setCell ?_ (.inr GW265.out) _ | refine Kept.setCell ?_ (.inr GW266.out) _) | exact HK.out))⟩; have n6_ : Aside0 (Below w0.heap.size w0 w52) := ⟨by rw [← hq_]; exact (by repeat (first | (with_reducible first | exact HB.out | apply below_alloc | apply pw_below_drewN | apply below_drew1 | refine below_set ?_ GE264.out | refine below_set ?_ GE265.out | refine below_set ?_ GE266.out) | exact HB.out))⟩; clear HO0_1 HO1_1 BK264 BK265 BK266 HK HB hq_; have HO0_1 := n0_; have HO1_1 := n1_; have BK264 := n2_; have BK265 := n3_; have BK266 := n4_; have HK := n5_; have HB := n6_; clear n0_ n1_ n2_ n3_ n4_ n5_ n6_))))
     have n0_ := Aside0.mk (Kd.R_drew HO0_1.out)
     have n1_ := Aside0.mk (Kd.R_drew HO1_1.out)
     have n2_ := Aside0.mk (blk_drew BK264.out)
     have n3_ := Aside0.mk (blk_drew BK265.out)
     have n4_ := Aside0.mk (blk_drew BK266.out)
     have n5_ := Aside0.mk (Kept.drew HK.out)
     have n6_ := Aside0.mk (below_drew1 HB.out)
     clear HO0_1
     clear HO1_1
     clear BK264
     clear BK265
     clear BK266
     clear HK
     clear HB
     have HO0_1 := n0_
     have HO1_1 := n1_
     have BK264 := n2_
     have BK265 := n3_
     have BK266 := n4_
     have HK := n5_
     have HB := n6_
     clear n0_ n1_ n2_ n3_ n4_ n5_ n6_
     refine start_ (n := 9) (S := fun w' => w'.cell? ⟨gb264, 0, none⟩ = some (.int .i64 a0_0) ∧ w'.cell? ⟨gb264, 1, none⟩ = some (.slice Ao48 l0_1.length co48) ∧ w'.cell? ⟨gb265, 0, none⟩ = some (.int .i64 a1_0) ∧ w'.cell? ⟨gb265, 1, none⟩ = some (.slice Ao50 l1_1.length co50)) (ds := []) #[false, false, false, false, false, false, false, false, false] (by kernel_rfl) rfl rfl ⟨(blk_cell BK264.out 0).trans rfl, (blk_cell BK264.out 1).trans rfl, (blk_cell BK265.out 0).trans rfl, (blk_cell BK265.out 1).trans rfl⟩ (fun hHeld => ?_); refine with_tabW zelligeref04_Add.tab8 zelligeref04_Add.bits8 (fun HT_ HW_ => ?_)
     generalize w52.drew = w58 at HO0_1 HO1_1 BK264 BK265 BK266 HK HB hHeld ⊢
     refine pure_ (i := 0) (N := some 32) (v := ?_) (a' := ?_) #[true, false, false, false, false, false, false, false, false] rfl rfl (any_of HT_.out (by kernel_rfl)) (fun _ _ _ h => h) (Or.inl ⟨by rfl, ?_⟩) ?_ ?_
     rotate_left
     ·intro w'
      go_simp
      with_reducible rfl
     rotate_left
     ·simp only [Act.put, List.setIfInBounds_toArray, List.set_cons_zero, List.set_cons_succ, i64_w, i32_w]
      rfl
     refine pure_ (i := 2) (N := some 34) (v := ?_) (a' := ?_) #[true, false, true, false, false, false, false, false, false] rfl rfl (any_of HT_.out (by kernel_rfl)) (fun _ _ _ h => h) (Or.inl ⟨by rfl, ?_⟩) ?_ ?_
     rotate_left
     ·intro w'
      go_simp
      with_reducible rfl
     rotate_left
     ·simp only [Act.put, List.setIfInBounds_toArray, List.set_cons_zero, List.set_cons_succ, i64_w, i32_w]
      rfl
     refine pure_ (i := 4) (N := some 36) (v := ?_) (a' := ?_) #[true, false, true, false, true, false, false, false, false] rfl rfl (any_of HT_.out (by kernel_rfl)) (fun _ _ _ h => h) (Or.inl ⟨by rfl, ?_⟩) ?_ ?_
     rotate_left
     ·intro w'
      go_simp
      with_reducible rfl
     rotate_left
     ·simp only [Act.put, List.setIfInBounds_toArray, List.set_cons_zero, List.set_cons_succ, i64_w, i32_w]
      rfl
     refine take_ (i := 1) (N := some 33) (v := ?_) (a' := ?_) #[true, true, true, false, true, false, false, false, false] rfl rfl (take_ofW HT_.out HW_.out (by kernel_rfl)) (fun _ _ _ h => h) (Or.inl ⟨by rfl, ?_⟩) hHeld ?_ ?_
     rotate_left
     ·rintro w' ⟨s0, s1, s2, s3⟩
      go_simp
      with_reducible rfl
     rotate_left
     ·simp only [Act.put, List.setIfInBounds_toArray, List.set_cons_zero, List.set_cons_succ, i64_w, i32_w]
      rfl
     refine take_ (i := 3) (N := some 35) (v := ?_) (a' := ?_) #[true, true, true, true, true, false, false, false, false] rfl rfl (take_ofW HT_.out HW_.out (by kernel_rfl)) (fun _ _ _ h => h) (Or.inl ⟨by rfl, ?_⟩) hHeld ?_ ?_
     rotate_left
     ·rintro w' ⟨s0, s1, s2, s3⟩
      go_simp
      with_reducible rfl
     rotate_left
     ·simp only [Act.put, List.setIfInBounds_toArray, List.set_cons_zero, List.set_cons_succ, i64_w, i32_w]
      rfl
     refine take_ (i := 5) (N := some 37) (v := ?_) (a' := ?_) #[true, true, true, true, true, true, false, false, false] rfl rfl (take_ofW HT_.out HW_.out (by kernel_rfl)) (fun _ _ _ h => h) (Or.inl ⟨by rfl, ?_⟩) hHeld ?_ ?_
     rotate_left
     ·rintro w' ⟨s0, s1, s2, s3⟩
      go_simp
      with_reducible rfl
     rotate_left
     ·simp only [Act.put, List.setIfInBounds_toArray, List.set_cons_zero, List.set_cons_succ, i64_w, i32_w]
      rfl
     refine one_ (i := 6) (N := some 38) #[true, true, true, true, true, true, true, false, false] rfl rfl (one_of HT_.out (by kernel_rfl)) (by decide) (fun K hK => ?_)
     refine goes_ Try.func59 (by kernel_rfl) rfl #[.slice Ao48 l0_1.length co48, .slice Ao50 l1_1.length co50] (by rfl) rfl rfl (by (try simp only [List.map_toArray, List.map_cons, List.map_nil]); first | done | rfl | (simp only [List.length_drop, List.length_take]; rfl)) ?_
     with_reducible refine (zelligeref03_Sub.calls k _ _ l0_1 _ _ l1_1 t271 _ ?side1 ?side2 ?side3 ?side4 A46.out).mono ?_
     (case side1 => repeat (first | exact (Kd.R_reads' HO0_1.out).2.2 | (with_reducible refine Kd.C_alloc ?_ _) | (with_reducible refine Kd.C_drewN ?_ _) | (with_reducible refine Kd.C_drew ?_)))
     (case side2 => exact (Kd.R_reads' HO0_1.out).2.1)
     (case side3 => repeat (first | exact (Kd.R_reads' HO1_1.out).2.2 | (with_reducible refine Kd.C_alloc ?_ _) | (with_reducible refine Kd.C_drewN ?_ _) | (with_reducible refine Kd.C_drew ?_)))
     (case side4 => exact (Kd.R_reads' HO1_1.out).2.1)
     rintro e w59 ⟨v272, rfl, ho0, hb⟩
     refine ⟨_, rfl, ?_⟩
     have n0_ := Aside0.mk (Kd.R_elder' (by (with_reducible repeat (first | apply Kd.R_alloc | apply Kd.R_drewN | apply Kd.R_drew)); exact HO0_1.out) (Kd.R_base ho0) hb)
     have n1_ := Aside0.mk (Kd.R_elder' (by (with_reducible repeat (first | apply Kd.R_alloc | apply Kd.R_drewN | apply Kd.R_drew)); exact HO1_1.out) (Kd.R_base ho0) hb)
     have n2_ := Aside0.mk (Kd.R_lower (Kd.R_new' (Kd.R_new' (Kd.R_newM (M := fun k_ => ((P0_1_ k_ ∨ P1_1_ k_) ∨ w.heap.size ≤ k_)) ho0 (by first | exact HK.out.1 | exact (show Kept w _ (fun k_ => P0_1_ k_ ∨ P1_1_ k_) from by repeat (first | (with_reducible first | exact HK.out | apply Kept.alloc | apply Kept.drewN | apply Kept.drew | refine Kept.setCell ?_ (.inr GW264.out) _ | refine Kept.setCell ?_ (.inr GW265.out) _ | refine Kept.setCell ?_ (.inr GW266.out) _) | exact HK.out)).1) (fun k_ h_ => .inr h_)) (Kd.R_lt (by (with_reducible repeat (first | apply Kd.R_alloc | apply Kd.R_drewN | apply Kd.R_drew)); exact HO0_1.out))) (Kd.R_lt (by (with_reducible repeat (first | apply Kd.R_alloc | apply Kd.R_drewN | apply Kd.R_drew)); exact HO1_1.out))) (below_size (by repeat (first | (with_reducible first | exact HB.out | apply below_alloc | apply pw_below_drewN | apply below_drew1 | refine below_set ?_ GE264.out | refine below_set ?_ GE265.out | refine below_set ?_ GE266.out) | exact HB.out))))
     have n3_ := Aside0.mk (blk_below (g := gb264) (o := .cells #[.int .i64 a0_0, .slice Ao48 l0_1.length co48] 33 (0, 0)) (by (with_reducible repeat (first | refine blk_drewN ?_ _ | refine blk_drew ?_ | refine blk_alloc ?_ _)); exact BK264.out) hb)
     have n4_ := Aside0.mk (blk_below (g := gb265) (o := .cells #[.int .i64 a1_0, .slice Ao50 l1_1.length co50] 33 (0, 0)) (by (with_reducible repeat (first | refine blk_drewN ?_ _ | refine blk_drew ?_ | refine blk_alloc ?_ _)); exact BK265.out) hb)
     have n5_ := Aside0.mk (blk_below (g := gb266) (o := .cells #[.int .i64 0, .slice none 0 0] 33 (0, 0)) (by (with_reducible repeat (first | refine blk_drewN ?_ _ | refine blk_drew ?_ | refine blk_alloc ?_ _)); exact BK266.out) hb)
     have n6_ := Aside0.mk (Kept.below (S := (fun k_ => P0_1_ k_ ∨ P1_1_ k_)) (by repeat (first | (with_reducible first | exact HK.out | apply Kept.alloc | apply Kept.drewN | apply Kept.drew | refine Kept.setCell ?_ (.inr GW264.out) _ | refine Kept.setCell ?_ (.inr GW265.out) _ | refine Kept.setCell ?_ (.inr GW266.out) _) | exact HK.out)) hb)
     have n7_ := Aside0.mk (below_step (by repeat (first | (with_reducible first | exact HB.out | apply below_alloc | apply pw_below_drewN | apply below_drew1 | refine below_set ?_ GE264.out | refine below_set ?_ GE265.out | refine below_set ?_ GE266.out) | exact HB.out)) hb)
     clear HO0_1
     clear HO1_1
     clear BK264
     clear BK265
     clear BK266
     clear HK
     clear HB
     have HO0_1 := n0_
     have HO1_1 := n1_
     have HO273 := n2_
     have BK264 := n3_
     have BK265 := n4_
     have BK266 := n5_
     have HK := n6_
     have HB := n7_
     clear n0_ n1_ n2_ n3_ n4_ n5_ n6_ n7_
     (try clear hb)
     (try clear hb2)
     (try clear hk)
     (try clear hi)
     (try clear ho0)
     obtain ⟨Ao60, co60, eo60⟩ := Kd.R_slice HO273.out
     (first | subst eo60 | (injection eo60 with f1_ f2_ f3_; have f4_ := f1_.symm; have f5_ := f3_.symm; clear f1_ f2_ f3_; subst f4_; subst f5_))
     refine hK.out _ _ ⟨(blk_cell BK264.out 0).trans rfl, (blk_cell BK264.out 1).trans rfl, (blk_cell BK265.out 0).trans rfl, (blk_cell BK265.out 1).trans rfl⟩ (fun hHeld => ?_)
     clear hK K
     refine norm_ (a' := ?_) ?_ ?_
     rotate_left
     ·show Act.put _ (some 38) _ = _
      simp only [Act.put, List.setIfInBounds_toArray, List.set_cons_zero, List.set_cons_succ, i64_w, i32_w]
      rfl
     refine one_ (i := 7) (N := some 39) #[true, true, true, true, true, true, true, true, false] rfl rfl (one_of HT_.out (by kernel_rfl)) (by decide) (fun K hK => ?_)
     refine goes_ Try.func54 (by kernel_rfl) rfl #[.int .i64 a0_0, .slice Ao60 t271.length co60] (by rfl) rfl rfl (by (try simp only [List.map_toArray, List.map_cons, List.map_nil]); first | done | rfl | (simp only [List.length_drop, List.length_take]; rfl)) ?_
     with_reducible refine (zelligeref04_make1.calls a0_0 (fun k_ => some k_ = (.slice Ao60 t271.length co60 : Value).ownBlock) (.slice Ao60 t271.length co60) t271 t274 t275 w0 _ ?side1 ?side2 A47.out).mono ?_
     (case side1 => repeat (first | (with_reducible first | exact HB.out | apply below_alloc | apply pw_below_drewN | apply below_drew1 | refine below_set ?_ GE264.out | refine below_set ?_ GE265.out | refine below_set ?_ GE266.out) | exact HB.out))
     (case side2 => exact Kd.R_tight rfl HO273.out)
     rintro e w61 ⟨v276, rfl, ho0, hb, hkp⟩
     refine ⟨_, rfl, ?_⟩
     have n0_ := Aside0.mk (Kd.R_mono (ok' := fun k_ => ((P0_1_ k_ ∨ P1_1_ k_) ∨ w.heap.size ≤ k_) ∧ some k_ ≠ (.slice Ao50 l1_1.length co50 : Value).ownBlock ∧ some k_ ≠ (v276 : Value).ownBlock) (Kd.R_keptB (HO0_1.out) hkp (fun k_ hk_ hs_ => (hk_.2) hs_)) (fun k_ hk_ => ⟨hk_.1.1.1, hk_.1.1.2, fun e_ => Or.elim (ho0.1 k_ e_.symm) (fun hs_ => hk_.2.1 hs_) (fun hn_ => Nat.not_le.2 hk_.2.2 hn_)⟩))
     have n1_ := Aside0.mk (Kd.R_mono (ok' := fun k_ => ((P0_1_ k_ ∨ P1_1_ k_) ∨ w.heap.size ≤ k_) ∧ some k_ ≠ (.slice Ao48 l0_1.length co48 : Value).ownBlock ∧ some k_ ≠ (v276 : Value).ownBlock) (Kd.R_keptB (HO1_1.out) hkp (fun k_ hk_ hs_ => (hk_.2) hs_)) (fun k_ hk_ => ⟨hk_.1.1.1, hk_.1.1.2, fun e_ => Or.elim (ho0.1 k_ e_.symm) (fun hs_ => hk_.2.1 hs_) (fun hn_ => Nat.not_le.2 hk_.2.2 hn_)⟩))
     have n2_ := Aside0.mk (blk_kept (by (with_reducible repeat (first | refine blk_drewN ?_ _ | refine blk_drew ?_ | refine blk_alloc ?_ _)); exact BK264.out) hkp (fun hs_ => (fun e_ => (Kd.R_ne HO273.out BK264.out (by decide)) e_) hs_))
     have n3_ := Aside0.mk (blk_kept (by (with_reducible repeat (first | refine blk_drewN ?_ _ | refine blk_drew ?_ | refine blk_alloc ?_ _)); exact BK265.out) hkp (fun hs_ => (fun e_ => (Kd.R_ne HO273.out BK265.out (by decide)) e_) hs_))
     have n4_ := Aside0.mk (blk_kept (by (with_reducible repeat (first | refine blk_drewN ?_ _ | refine blk_drew ?_ | refine blk_alloc ?_ _)); exact BK266.out) hkp (fun hs_ => (fun e_ => (Kd.R_ne HO273.out BK266.out (by decide)) e_) hs_))
     have n5_ := Aside0.mk (Kd.R_mono (ok' := fun k_ => ((P0_1_ k_ ∨ P1_1_ k_) ∨ w.heap.size ≤ k_) ∧ some k_ ≠ (.slice Ao48 l0_1.length co48 : Value).ownBlock ∧ some k_ ≠ (.slice Ao50 l1_1.length co50 : Value).ownBlock) ho0 (fun k_ hk_ => ⟨Or.elim hk_ (fun hs_ => (HO273.out.1 k_ (hs_).symm).1.1.1) (fun hn_ => (.inr (Nat.le_trans (by first | exact HK.out.1 | exact (show Kept w _ (fun k_ => P0_1_ k_ ∨ P1_1_ k_) from by repeat (first | (with_reducible first | exact HK.out | apply Kept.alloc | apply Kept.drewN | apply Kept.drew | refine Kept.setCell ?_ (.inr GW264.out) _ | refine Kept.setCell ?_ (.inr GW265.out) _ | refine Kept.setCell ?_ (.inr GW266.out) _) | exact HK.out)).1) hn_))), Or.elim hk_ (fun hs_ => fun e_ => (((HO0_1.out).1 k_ e_.symm).2) hs_) (fun hn_ => (Kd.fresh' (Kd.R_lt (by (with_reducible repeat (first | apply Kd.R_alloc | apply Kd.R_drewN | apply Kd.R_drew)); exact HO0_1.out)) k_ hn_)), Or.elim hk_ (fun hs_ => fun e_ => (((HO1_1.out).1 k_ e_.symm).2) hs_) (fun hn_ => (Kd.fresh' (Kd.R_lt (by (with_reducible repeat (first | apply Kd.R_alloc | apply Kd.R_drewN | apply Kd.R_drew)); exact HO1_1.out)) k_ hn_))⟩))
     have n6_ := Aside0.mk (Kept.then_ (S := (fun k_ => P0_1_ k_ ∨ P1_1_ k_)) (by repeat (first | (with_reducible first | exact HK.out | apply Kept.alloc | apply Kept.drewN | apply Kept.drew | refine Kept.setCell ?_ (.inr GW264.out) _ | refine Kept.setCell ?_ (.inr GW265.out) _ | refine Kept.setCell ?_ (.inr GW266.out) _) | exact HK.out)) hkp (fun k_ hs_ => (fun e_ => (HO273.out.1 k_ e_.symm).1.1.1) hs_))
     have n7_ := Aside0.mk (hb)
     clear HO0_1
     clear HO1_1
     clear BK264
     clear BK265
     clear BK266
     clear HK
     clear HB
     clear HO273
     have HO0_1 := n0_
     have HO1_1 := n1_
     have BK264 := n2_
     have BK265 := n3_
     have BK266 := n4_
     have HO277 := n5_
     have HK := n6_
     have HB := n7_
     clear n0_ n1_ n2_ n3_ n4_ n5_ n6_ n7_
     (try clear hb)
     (try clear hkp)
     (try clear ho0)
     obtain ⟨Ao63, co63, eo63⟩ := Kd.R_slice HO277.out
     (first | subst eo63 | (injection eo63 with f1_ f2_ f3_; have f4_ := f1_.symm; have f5_ := f3_.symm; clear f1_ f2_ f3_; subst f4_; subst f5_))
     refine hK.out _ _ ⟨(blk_cell BK264.out 0).trans rfl, (blk_cell BK264.out 1).trans rfl, (blk_cell BK265.out 0).trans rfl, (blk_cell BK265.out 1).trans rfl⟩ (fun hHeld => ?_)
     clear hK K
     refine norm_ (a' := ?_) ?_ ?_
     rotate_left
     ·show Act.put _ (some 39) _ = _
      simp only [Act.put, List.setIfInBounds_toArray, List.set_cons_zero, List.set_cons_succ, i64_w, i32_w]
      rfl
     refine one_ (i := 8) (N := none) #[true, true, true, true, true, true, true, true, true] rfl rfl (one_of HT_.out (by kernel_rfl)) (by decide) (fun K hK => ?_)
     have hs62 : w61.cell? ⟨gb266, 0, none⟩ = some (.int .i64 0) := (blk_cell BK266.out 0).trans rfl
     have hfs62 := blk_frozen BK266.out 0
     have hns62_0 := NB264_266.out
     have hns62_1 := NB265_266.out
     have hms62_0 := NB266_264.out
     have hms62_1 := NB266_265.out
     have hs64 : w61.cell? ⟨gb266, 1, none⟩ = some (.slice none 0 0) := (blk_cell BK266.out 1).trans rfl
     have hfs64 := blk_frozen BK266.out 1
     have hns64_0 := NB264_266.out
     have hns64_1 := NB265_266.out
     have hms64_0 := NB266_264.out
     have hms64_1 := NB266_265.out
     refine skip_ (w1 := ?_) (by rfl) rfl ?_ ?_
     rotate_left
     ·go_simp
      rfl
     refine hK.out _ _ ⟨((cell_far (p := ⟨gb266, _, none⟩) NB264_266.out _).trans (((cell_far (p := ⟨gb266, _, none⟩) NB264_266.out _).trans (hHeld.1)))), ((cell_far (p := ⟨gb266, _, none⟩) NB264_266.out _).trans (((cell_far (p := ⟨gb266, _, none⟩) NB264_266.out _).trans (hHeld.2.1)))), ((cell_far (p := ⟨gb266, _, none⟩) NB265_266.out _).trans (((cell_far (p := ⟨gb266, _, none⟩) NB265_266.out _).trans (hHeld.2.2.1)))), ((cell_far (p := ⟨gb266, _, none⟩) NB265_266.out _).trans (((cell_far (p := ⟨gb266, _, none⟩) NB265_266.out _).trans (hHeld.2.2.2))))⟩ (fun hHeld => ?_)
     clear hK K
     refine done_ (done_of HT_.out (by kernel_rfl)) ?_
     try go_wp2
     refine bodyPost_ret (results_cell_row rfl _ _ gb266 33 #[.int .i64 t274, .slice Ao63 t275.length co63] (0, 0) _ rfl (by (with_reducible repeat (first | refine blk_drewN ?_ _ | refine blk_drew ?_ | refine blk_alloc ?_ _)); refine blk_put (cs := #[.int .i64 t274, .slice none 0 0]) ?_ 1 _ rfl; (with_reducible repeat (first | refine blk_drewN ?_ _ | refine blk_drew ?_ | refine blk_alloc ?_ _)); refine blk_put (cs := #[.int .i64 0, .slice none 0 0]) ?_ 0 _ rfl; (with_reducible repeat (first | refine blk_drewN ?_ _ | refine blk_drew ?_ | refine blk_alloc ?_ _)); exact BK266.out) Try.underlying33 rfl (by kernel_rfl)) rfl ?_
     exact ⟨_, by first | rfl | (simp [errW_none, errW_some] <;> rfl) | (simp [*, errW_none, errW_some] <;> rfl), by (with_reducible repeat (first | apply Kd.R_alloc | apply Kd.R_drewN | apply Kd.R_drew)); exact Kd.R_mono (Kd.R_far (p := ⟨gb266, 1, none⟩) (Kd.R_far (p := ⟨gb266, 0, none⟩) (Kd.R_types HO277.out BK266.out (by decide)) (fun _ hk => hk.2) (.int .i64 t274)) (fun _ hk => hk.2) (.slice Ao63 t275.length co63)) (fun _ hk => hk.1.1), by repeat (first | (with_reducible first | exact HB.out | apply below_alloc | apply pw_below_drewN | apply below_drew1 | refine below_set ?_ GE264.out | refine below_set ?_ GE265.out | refine below_set ?_ GE266.out) | exact HB.out), by repeat (first | (with_reducible first | exact HK.out | apply Kept.alloc | apply Kept.drewN | apply Kept.drew | refine Kept.setCell ?_ (.inr GW264.out) _ | refine Kept.setCell ?_ (.inr GW265.out) _ | refine Kept.setCell ?_ (.inr GW266.out) _) | exact HK.out)⟩
    ·rw [if_neg c45] at H
     have c45b0 : decide (0 ≤ t270) = false := decide_eq_false c45
     clear c45
     replace H := Option.bind_eq_some_iff.mp H
     obtain ⟨t278, A650, H⟩ := H
     replace H : ((zelligeref04_make1.f a1_0 t278).bind fun bt281 => (some (bt281.1, bt281.2))) = some (r1, r2) := H
     have A65 := Aside0.mk A650
     clear A650
     replace H := Option.bind_eq_some_iff.mp H
     obtain ⟨⟨t281, t282⟩, A660, H⟩ := H
     replace H : (some (t281, t282)) = some (r1, r2) := H
     have A66 := Aside0.mk A660
     clear A660
     simp only [Option.some.injEq, Prod.mk.injEq] at H
     obtain ⟨rfl, rfl⟩ := H
     obtain ⟨Ao67, co67, eo67⟩ := Kd.R_slice HO0_1.out
     subst eo67
     go_enter Try.func37, Try.ntmps37
     try go_wp2_with (first | ((with_reducible refine gate_dst (N := 2) rfl ?_); refine box_event ?hg (N := 2) ?hd (cs := #[.int .i64 a0_0, .slice Ao67 l0_1.length co67]) (t := 33) ?hr ?_; (case hd => rfl); (case hg => rfl); (case hr => first | (go_simp; done) | (go_simp; rfl)); intro gb264 hg w68 hbox hb; have n0_ := Aside0.mk (Kd.R_below (by (with_reducible repeat (first | apply Kd.R_alloc | apply Kd.R_drewN | apply Kd.R_drew)); exact HO0_1.out) hb); have n1_ := Aside0.mk (Kd.R_below (by (with_reducible repeat (first | apply Kd.R_alloc | apply Kd.R_drewN | apply Kd.R_drew)); exact HO1_1.out) hb); have n2_ := Aside0.mk (Kept.below (S := (fun k_ => P0_1_ k_ ∨ P1_1_ k_)) (by repeat (first | (with_reducible first | exact HK.out | apply Kept.alloc | apply Kept.drewN | apply Kept.drew) | exact HK.out)) hb); have n3_ := Aside0.mk (below_step (by repeat (first | (with_reducible first | exact HB.out | apply below_alloc | apply pw_below_drewN | apply below_drew1) | exact HB.out)) hb); have n4_ := Aside0.mk (hbox); have n5_ := Aside0.mk ((by rw [hg]; exact (by first | exact HK.out.1 | exact (show Kept w _ (fun k_ => P0_1_ k_ ∨ P1_1_ k_) from by repeat (first | (with_reducible first | exact HK.out | apply Kept.alloc | apply Kept.drewN | apply Kept.drew) | exact HK.out)).1) : w.heap.size ≤ gb264)); have n6_ := Aside0.mk ((by rw [hg]; exact (below_size (by repeat (first | (with_reducible first | exact HB.out | apply below_alloc | apply pw_below_drewN | apply below_drew1) | exact HB.out))) : w0.heap.size ≤ gb264)); clear HO0_1; clear HO1_1; clear HK; clear HB; have HO0_1 := n0_; have HO1_1 := n1_; have HK := n2_; have HB := n3_; have BK264 := n4_; have GW264 := n5_; have GE264 := n6_; clear n0_ n1_ n2_ n3_ n4_ n5_ n6_; clear hb hbox hg; obtain ⟨Ao69, co69, eo69⟩ := Kd.R_slice HO1_1.out; subst eo69) | ((with_reducible refine gate_dst (N := 3) rfl ?_); refine box_event ?hg (N := 3) ?hd (cs := #[.int .i64 a1_0, .slice Ao69 l1_1.length co69]) (t := 33) ?hr ?_; (case hd => rfl); (case hg => rfl); (case hr => first | (go_simp; done) | (go_simp; rfl)); intro gb265 hg w70 hbox hb; have n0_ := Aside0.mk (Kd.R_below (by (with_reducible repeat (first | apply Kd.R_alloc | apply Kd.R_drewN | apply Kd.R_drew)); exact HO0_1.out) hb); have n1_ := Aside0.mk (Kd.R_below (by (with_reducible repeat (first | apply Kd.R_alloc | apply Kd.R_drewN | apply Kd.R_drew)); exact HO1_1.out) hb); have n2_ := Aside0.mk (blk_below (g := gb264) (o := .cells #[.int .i64 a0_0, .slice Ao67 l0_1.length co67] 33 (0, 0)) (by (with_reducible repeat (first | refine blk_drewN ?_ _ | refine blk_drew ?_ | refine blk_alloc ?_ _)); exact BK264.out) hb); have n3_ := Aside0.mk (Kept.below (S := (fun k_ => P0_1_ k_ ∨ P1_1_ k_)) (by repeat (first | (with_reducible first | exact HK.out | apply Kept.alloc | apply Kept.drewN | apply Kept.drew | refine Kept.setCell ?_ (.inr GW264.out) _) | exact HK.out)) hb); have n4_ := Aside0.mk (below_step (by repeat (first | (with_reducible first | exact HB.out | apply below_alloc | apply pw_below_drewN | apply below_drew1 | refine below_set ?_ GE264.out) | exact HB.out)) hb); have n5_ := Aside0.mk (hbox); have n6_ := Aside0.mk ((by rw [hg]; exact (by first | exact HK.out.1 | exact (show Kept w _ (fun k_ => P0_1_ k_ ∨ P1_1_ k_) from by repeat (first | (with_reducible first | exact HK.out | apply Kept.alloc | apply Kept.drewN | apply Kept.drew | refine Kept.setCell ?_ (.inr GW264.out) _) | exact HK.out)).1) : w.heap.size ≤ gb265)); have n7_ := Aside0.mk ((by rw [hg]; exact (below_size (by repeat (first | (with_reducible first | exact HB.out | apply below_alloc | apply pw_below_drewN | apply below_drew1 | refine below_set ?_ GE264.out) | exact HB.out))) : w0.heap.size ≤ gb265)); have n8_ := Aside0.mk ((by rw [hg]; exact Nat.ne_of_lt (blk_lt (g := gb264) (o := .cells #[.int .i64 a0_0, .slice Ao67 l0_1.length co67] 33 (0, 0)) (by (with_reducible repeat (first | refine blk_drewN ?_ _ | refine blk_drew ?_ | refine blk_alloc ?_ _)); exact BK264.out)) : gb264 ≠ gb265)); have n9_ := Aside0.mk ((by rw [hg]; exact Nat.ne_of_gt (blk_lt (g := gb264) (o := .cells #[.int .i64 a0_0, .slice Ao67 l0_1.length co67] 33 (0, 0)) (by (with_reducible repeat (first | refine blk_drewN ?_ _ | refine blk_drew ?_ | refine blk_alloc ?_ _)); exact BK264.out)) : gb265 ≠ gb264)); clear HO0_1; clear HO1_1; clear BK264; clear HK; clear HB; have HO0_1 := n0_; have HO1_1 := n1_; have BK264 := n2_; have HK := n3_; have HB := n4_; have BK265 := n5_; have GW265 := n6_; have GE265 := n7_; have NB264_265 := n8_; have NB265_264 := n9_; clear n0_ n1_ n2_ n3_ n4_ n5_ n6_ n7_ n8_ n9_; clear hb hbox hg) | ((with_reducible refine gate_dst (N := 4) rfl ?_); refine box_event ?hg (N := 4) ?hd (cs := #[.int .i64 0, .slice none 0 0]) (t := 33) ?hr ?_; (case hd => rfl); (case hg => rfl); (case hr => first | (go_simp; done) | (go_simp; rfl)); intro gb266 hg w71 hbox hb; have n0_ := Aside0.mk (Kd.R_below (by (with_reducible repeat (first | apply Kd.R_alloc | apply Kd.R_drewN | apply Kd.R_drew)); exact HO0_1.out) hb); have n1_ := Aside0.mk (Kd.R_below (by (with_reducible repeat (first | apply Kd.R_alloc | apply Kd.R_drewN | apply Kd.R_drew)); exact HO1_1.out) hb); have n2_ := Aside0.mk (blk_below (g := gb264) (o := .cells #[.int .i64 a0_0, .slice Ao67 l0_1.length co67] 33 (0, 0)) (by (with_reducible repeat (first | refine blk_drewN ?_ _ | refine blk_drew ?_ | refine blk_alloc ?_ _)); exact BK264.out) hb); have n3_ := Aside0.mk (blk_below (g := gb265) (o := .cells #[.int .i64 a1_0, .slice Ao69 l1_1.length co69] 33 (0, 0)) (by (with_reducible repeat (first | refine blk_drewN ?_ _ | refine blk_drew ?_ | refine blk_alloc ?_ _)); exact BK265.out) hb); have n4_ := Aside0.mk (Kept.below (S := (fun k_ => P0_1_ k_ ∨ P1_1_ k_)) (by repeat (first | (with_reducible first | exact HK.out | apply Kept.alloc | apply Kept.drewN | apply Kept.drew | refine Kept.setCell ?_ (.inr GW264.out) _ | refine Kept.setCell ?_ (.inr GW265.out) _) | exact HK.out)) hb); have n5_ := Aside0.mk (below_step (by repeat (first | (with_reducible first | exact HB.out | apply below_alloc | apply pw_below_drewN | apply below_drew1 | refine below_set ?_ GE264.out | refine below_set ?_ GE265.out) | exact HB.out)) hb); have n6_ := Aside0.mk (hbox); have n7_ := Aside0.mk ((by rw [hg]; exact (by first | exact HK.out.1 | exact (show Kept w _ (fun k_ => P0_1_ k_ ∨ P1_1_ k_) from by repeat (first | (with_reducible first | exact HK.out | apply Kept.alloc | apply Kept.drewN | apply Kept.drew | refine Kept.setCell ?_ (.inr GW264.out) _ | refine Kept.setCell ?_ (.inr GW265.out) _) | exact HK.out)).1) : w.heap.size ≤ gb266)); have n8_ := Aside0.mk ((by rw [hg]; exact (below_size (by repeat (first | (with_reducible first | exact HB.out | apply below_alloc | apply pw_below_drewN | apply below_drew1 | refine below_set ?_ GE264.out | refine below_set ?_ GE265.out) | exact HB.out))) : w0.heap.size ≤ gb266)); have n9_ := Aside0.mk ((by rw [hg]; exact Nat.ne_of_lt (blk_lt (g := gb264) (o := .cells #[.int .i64 a0_0, .slice Ao67 l0_1.length co67] 33 (0, 0)) (by (with_reducible repeat (first | refine blk_drewN ?_ _ | refine blk_drew ?_ | refine blk_alloc ?_ _)); exact BK264.out)) : gb264 ≠ gb266)); have n10_ := Aside0.mk ((by rw [hg]; exact Nat.ne_of_gt (blk_lt (g := gb264) (o := .cells #[.int .i64 a0_0, .slice Ao67 l0_1.length co67] 33 (0, 0)) (by (with_reducible repeat (first | refine blk_drewN ?_ _ | refine blk_drew ?_ | refine blk_alloc ?_ _)); exact BK264.out)) : gb266 ≠ gb264)); have n11_ := Aside0.mk ((by rw [hg]; exact Nat.ne_of_lt (blk_lt (g := gb265) (o := .cells #[.int .i64 a1_0, .slice Ao69 l1_1.length co69] 33 (0, 0)) (by (with_reducible repeat (first | refine blk_drewN ?_ _ | refine blk_drew ?_ | refine blk_alloc ?_ _)); exact BK265.out)) : gb265 ≠ gb266)); have n12_ := Aside0.mk ((by rw [hg]; exact Nat.ne_of_gt (blk_lt (g := gb265) (o := .cells #[.int .i64 a1_0, .slice Ao69 l1_1.length co69] 33 (0, 0)) (by (with_reducible repeat (first | refine blk_drewN ?_ _ | refine blk_drew ?_ | refine blk_alloc ?_ _)); exact BK265.out)) : gb266 ≠ gb265)); clear HO0_1; clear HO1_1; clear BK264; clear BK265; clear HK; clear HB; have HO0_1 := n0_; have HO1_1 := n1_; have BK264 := n2_; have BK265 := n3_; have HK := n4_; have HB := n5_; have BK266 := n6_; have GW266 := n7_; have GE266 := n8_; have NB264_266 := n9_; have NB266_264 := n10_; have NB265_266 := n11_; have NB266_265 := n12_; clear n0_ n1_ n2_ n3_ n4_ n5_ n6_ n7_ n8_ n9_ n10_ n11_ n12_; clear hb hbox hg; have hnb72 := NB264_265.out; have hnc72 := NB265_264.out; have hnb73 := NB264_266.out; have hnc73 := NB266_264.out; have hcz74_0 : w71.cell? ⟨gb264, 0, none⟩ = some (.int .i64 a0_0) := (blk_cell BK264.out 0).trans rfl; have hcz74_1 : w71.cell? ⟨gb264, 1, none⟩ = some (.slice Ao67 l0_1.length co67) := (blk_cell BK264.out 1).trans rfl; have hfz74_0 := blk_frozen BK264.out 0; have hfz74_1 := blk_frozen BK264.out 1; have hnb75 := NB265_266.out; have hnc75 := NB266_265.out; have hcz76_0 : w71.cell? ⟨gb265, 0, none⟩ = some (.int .i64 a1_0) := (blk_cell BK265.out 0).trans rfl; have hcz76_1 : w71.cell? ⟨gb265, 1, none⟩ = some (.slice Ao69 l1_1.length co69) := (blk_cell BK265.out 1).trans rfl; have hfz76_0 := blk_frozen BK265.out 0; have hfz76_1 := blk_frozen BK265.out 1) | ((with_reducible refine gate_callee (f := 58) rfl ?_); refine goesL_ (some 30) rfl rfl Try.func58 (by kernel_rfl) rfl #[.slice Ao67 l0_1.length co67, .slice Ao69 l1_1.length co69] rfl (by (try simp only [List.map_toArray, List.map_cons, List.map_nil]); first | done | rfl | (simp only [List.length_drop, List.length_take]; rfl)) ?_; (with_reducible refine (zelligeref03_Cmp.calls k _ _ l0_1 _ _ l1_1 t270 _ ?side1 ?side2 ?side3 ?side4 A44.out).mono ?_); (case side1 => repeat (first | exact (Kd.R_reads' HO0_1.out).2.2 | (with_reducible refine Kd.C_alloc ?_ _) | (with_reducible refine Kd.C_drewN ?_ _) | (with_reducible refine Kd.C_drew ?_))); (case side2 => exact (Kd.R_reads' HO0_1.out).2.1); (case side3 => repeat (first | exact (Kd.R_reads' HO1_1.out).2.2 | (with_reducible refine Kd.C_alloc ?_ _) | (with_reducible refine Kd.C_drewN ?_ _) | (with_reducible refine Kd.C_drew ?_))); (case side4 => exact (Kd.R_reads' HO1_1.out).2.1); rintro e w' ⟨rfl, ⟨nd, rfl⟩⟩; refine ⟨_, rfl, ?_⟩; (try (rw [drewN_self w71]; generalize hq_ : World.drewN w71 _ = w71; have n0_ : Aside0 (Kd.R (Kd.int .i64) 3 w71 w0.heap.size (fun k_ => ((P0_1_ k_ ∨ P1_1_ k_) ∨ w.heap.size ≤ k_) ∧ some k_ ≠ (.slice Ao69 l1_1.length co69 : Value).ownBlock) (.slice Ao67 l0_1.length co67) l0_1) := ⟨by rw [← hq_]; exact (by (with_reducible repeat (first | apply Kd.R_alloc | apply Kd.R_drewN | apply Kd.R_drew)); exact HO0_1.out)⟩; have n1_ : Aside0 (Kd.R (Kd.int .i64) 3 w71 w0.heap.size (fun k_ => ((P0_1_ k_ ∨ P1_1_ k_) ∨ w.heap.size ≤ k_) ∧ some k_ ≠ (.slice Ao67 l0_1.length co67 : Value).ownBlock) (.slice Ao69 l1_1.length co69) l1_1) := ⟨by rw [← hq_]; exact (by (with_reducible repeat (first | apply Kd.R_alloc | apply Kd.R_drewN | apply Kd.R_drew)); exact HO1_1.out)⟩; have n2_ : Aside0 (w71.heap[gb264]? = some (.cells #[.int .i64 a0_0, .slice Ao67 l0_1.length co67] 33 (0, 0))) := ⟨by rw [← hq_]; exact (by (with_reducible repeat (first | refine blk_drewN ?_ _ | refine blk_drew ?_ | refine blk_alloc ?_ _)); exact BK264.out)⟩; have n3_ : Aside0 (w71.heap[gb265]? = some (.cells #[.int .i64 a1_0, .slice Ao69 l1_1.length co69] 33 (0, 0))) := ⟨by rw [← hq_]; exact (by (with_reducible repeat (first | refine blk_drewN ?_ _ | refine blk_drew ?_ | refine blk_alloc ?_ _)); exact BK265.out)⟩; have n4_ : Aside0 (w71.heap[gb266]? = some (.cells #[.int .i64 0, .slice none 0 0] 33 (0, 0))) := ⟨by rw [← hq_]; exact (by (with_reducible repeat (first | refine blk_drewN ?_ _ | refine blk_drew ?_ | refine blk_alloc ?_ _)); exact BK266.out)⟩; have n5_ : Aside0 (Kept w w71 (fun k_ => P0_1_ k_ ∨ P1_1_ k_)) := ⟨by rw [← hq_]; exact (by repeat (first | (with_reducible first | exact HK.out | apply Kept.alloc | apply Kept.drewN | apply Kept.drew | refine Kept.setCell ?_ (.inr GW264.out) _ | refine Kept.setCell ?_ (.inr GW265.out) _ | refine Kept.setCell ?_ (.inr GW266.out) _) | exact HK.out))⟩; have n6_ : Aside0 (Below w0.heap.size w0 w71) := ⟨by rw [← hq_]; exact (by repeat (first | (with_reducible first | exact HB.out | apply below_alloc | apply pw_below_drewN | apply below_drew1 | refine below_set ?_ GE264.out | refine below_set ?_ GE265.out | refine below_set ?_ GE266.out) | exact HB.out))⟩; clear HO0_1 HO1_1 BK264 BK265 BK266 HK HB hq_; have HO0_1 := n0_; have HO1_1 := n1_; have BK264 := n2_; have BK265 := n3_; have BK266 := n4_; have HK := n5_; have HB := n6_; clear n0_ n1_ n2_ n3_ n4_ n5_ n6_))))
     have n0_ := Aside0.mk (Kd.R_drew HO0_1.out)
     have n1_ := Aside0.mk (Kd.R_drew HO1_1.out)
     have n2_ := Aside0.mk (blk_drew BK264.out)
     have n3_ := Aside0.mk (blk_drew BK265.out)
     have n4_ := Aside0.mk (blk_drew BK266.out)
     have n5_ := Aside0.mk (Kept.drew HK.out)
     have n6_ := Aside0.mk (below_drew1 HB.out)
     clear HO0_1
     clear HO1_1
     clear BK264
     clear BK265
     clear BK266
     clear HK
     clear HB
     have HO0_1 := n0_
     have HO1_1 := n1_
     have BK264 := n2_
     have BK265 := n3_
     have BK266 := n4_
     have HK := n5_
     have HB := n6_
     clear n0_ n1_ n2_ n3_ n4_ n5_ n6_
     refine start_ (n := 9) (S := fun w' => w'.cell? ⟨gb265, 0, none⟩ = some (.int .i64 a1_0) ∧ w'.cell? ⟨gb265, 1, none⟩ = some (.slice Ao69 l1_1.length co69) ∧ w'.cell? ⟨gb264, 0, none⟩ = some (.int .i64 a0_0) ∧ w'.cell? ⟨gb264, 1, none⟩ = some (.slice Ao67 l0_1.length co67)) (ds := []) #[false, false, false, false, false, false, false, false, false] (by kernel_rfl) rfl rfl ⟨(blk_cell BK265.out 0).trans rfl, (blk_cell BK265.out 1).trans rfl, (blk_cell BK264.out 0).trans rfl, (blk_cell BK264.out 1).trans rfl⟩ (fun hHeld => ?_); refine with_tabW zelligeref04_Add.tab9 zelligeref04_Add.bits9 (fun HT_ HW_ => ?_)
     generalize w71.drew = w77 at HO0_1 HO1_1 BK264 BK265 BK266 HK HB hHeld ⊢
     refine pure_ (i := 0) (N := some 40) (v := ?_) (a' := ?_) #[true, false, false, false, false, false, false, false, false] rfl rfl (any_of HT_.out (by kernel_rfl)) (fun _ _ _ h => h) (Or.inl ⟨by rfl, ?_⟩) ?_ ?_
     rotate_left
     ·intro w'
      go_simp
      with_reducible rfl
     rotate_left
     ·simp only [Act.put, List.setIfInBounds_toArray, List.set_cons_zero, List.set_cons_succ, i64_w, i32_w]
      rfl
     refine pure_ (i := 2) (N := some 42) (v := ?_) (a' := ?_) #[true, false, true, false, false, false, false, false, false] rfl rfl (any_of HT_.out (by kernel_rfl)) (fun _ _ _ h => h) (Or.inl ⟨by rfl, ?_⟩) ?_ ?_
     rotate_left
     ·intro w'
      go_simp
      with_reducible rfl
     rotate_left
     ·simp only [Act.put, List.setIfInBounds_toArray, List.set_cons_zero, List.set_cons_succ, i64_w, i32_w]
      rfl
     refine pure_ (i := 4) (N := some 44) (v := ?_) (a' := ?_) #[true, false, true, false, true, false, false, false, false] rfl rfl (any_of HT_.out (by kernel_rfl)) (fun _ _ _ h => h) (Or.inl ⟨by rfl, ?_⟩) ?_ ?_
     rotate_left
     ·intro w'
      go_simp
      with_reducible rfl
     rotate_left
     ·simp only [Act.put, List.setIfInBounds_toArray, List.set_cons_zero, List.set_cons_succ, i64_w, i32_w]
      rfl
     refine take_ (i := 1) (N := some 41) (v := ?_) (a' := ?_) #[true, true, true, false, true, false, false, false, false] rfl rfl (take_ofW HT_.out HW_.out (by kernel_rfl)) (fun _ _ _ h => h) (Or.inl ⟨by rfl, ?_⟩) hHeld ?_ ?_
     rotate_left
     ·rintro w' ⟨s0, s1, s2, s3⟩
      go_simp
      with_reducible rfl
     rotate_left
     ·simp only [Act.put, List.setIfInBounds_toArray, List.set_cons_zero, List.set_cons_succ, i64_w, i32_w]
      rfl
     refine take_ (i := 3) (N := some 43) (v := ?_) (a' := ?_) #[true, true, true, true, true, false, false, false, false] rfl rfl (take_ofW HT_.out HW_.out (by kernel_rfl)) (fun _ _ _ h => h) (Or.inl ⟨by rfl, ?_⟩) hHeld ?_ ?_
     rotate_left
     ·rintro w' ⟨s0, s1, s2, s3⟩
      go_simp
      with_reducible rfl
     rotate_left
     ·simp only [Act.put, List.setIfInBounds_toArray, List.set_cons_zero, List.set_cons_succ, i64_w, i32_w]
      rfl
     refine take_ (i := 5) (N := some 45) (v := ?_) (a' := ?_) #[true, true, true, true, true, true, false, false, false] rfl rfl (take_ofW HT_.out HW_.out (by kernel_rfl)) (fun _ _ _ h => h) (Or.inl ⟨by rfl, ?_⟩) hHeld ?_ ?_
     rotate_left
     ·rintro w' ⟨s0, s1, s2, s3⟩
      go_simp
      with_reducible rfl
     rotate_left
     ·simp only [Act.put, List.setIfInBounds_toArray, List.set_cons_zero, List.set_cons_succ, i64_w, i32_w]
      rfl
     refine one_ (i := 6) (N := some 46) #[true, true, true, true, true, true, true, false, false] rfl rfl (one_of HT_.out (by kernel_rfl)) (by decide) (fun K hK => ?_)
     refine goes_ Try.func59 (by kernel_rfl) rfl #[.slice Ao69 l1_1.length co69, .slice Ao67 l0_1.length co67] (by rfl) rfl rfl (by (try simp only [List.map_toArray, List.map_cons, List.map_nil]); first | done | rfl | (simp only [List.length_drop, List.length_take]; rfl)) ?_
     with_reducible refine (zelligeref03_Sub.calls k _ _ l1_1 _ _ l0_1 t278 _ ?side1 ?side2 ?side3 ?side4 A65.out).mono ?_
     (case side1 => repeat (first | exact (Kd.R_reads' HO1_1.out).2.2 | (with_reducible refine Kd.C_alloc ?_ _) | (with_reducible refine Kd.C_drewN ?_ _) | (with_reducible refine Kd.C_drew ?_)))
     (case side2 => exact (Kd.R_reads' HO1_1.out).2.1)
     (case side3 => repeat (first | exact (Kd.R_reads' HO0_1.out).2.2 | (with_reducible refine Kd.C_alloc ?_ _) | (with_reducible refine Kd.C_drewN ?_ _) | (with_reducible refine Kd.C_drew ?_)))
     (case side4 => exact (Kd.R_reads' HO0_1.out).2.1)
     rintro e w78 ⟨v279, rfl, ho0, hb⟩
     refine ⟨_, rfl, ?_⟩
     have n0_ := Aside0.mk (Kd.R_elder' (by (with_reducible repeat (first | apply Kd.R_alloc | apply Kd.R_drewN | apply Kd.R_drew)); exact HO0_1.out) (Kd.R_base ho0) hb)
     have n1_ := Aside0.mk (Kd.R_elder' (by (with_reducible repeat (first | apply Kd.R_alloc | apply Kd.R_drewN | apply Kd.R_drew)); exact HO1_1.out) (Kd.R_base ho0) hb)
     have n2_ := Aside0.mk (Kd.R_lower (Kd.R_new' (Kd.R_new' (Kd.R_newM (M := fun k_ => ((P0_1_ k_ ∨ P1_1_ k_) ∨ w.heap.size ≤ k_)) ho0 (by first | exact HK.out.1 | exact (show Kept w _ (fun k_ => P0_1_ k_ ∨ P1_1_ k_) from by repeat (first | (with_reducible first | exact HK.out | apply Kept.alloc | apply Kept.drewN | apply Kept.drew | refine Kept.setCell ?_ (.inr GW264.out) _ | refine Kept.setCell ?_ (.inr GW265.out) _ | refine Kept.setCell ?_ (.inr GW266.out) _) | exact HK.out)).1) (fun k_ h_ => .inr h_)) (Kd.R_lt (by (with_reducible repeat (first | apply Kd.R_alloc | apply Kd.R_drewN | apply Kd.R_drew)); exact HO0_1.out))) (Kd.R_lt (by (with_reducible repeat (first | apply Kd.R_alloc | apply Kd.R_drewN | apply Kd.R_drew)); exact HO1_1.out))) (below_size (by repeat (first | (with_reducible first | exact HB.out | apply below_alloc | apply pw_below_drewN | apply below_drew1 | refine below_set ?_ GE264.out | refine below_set ?_ GE265.out | refine below_set ?_ GE266.out) | exact HB.out))))
     have n3_ := Aside0.mk (blk_below (g := gb264) (o := .cells #[.int .i64 a0_0, .slice Ao67 l0_1.length co67] 33 (0, 0)) (by (with_reducible repeat (first | refine blk_drewN ?_ _ | refine blk_drew ?_ | refine blk_alloc ?_ _)); exact BK264.out) hb)
     have n4_ := Aside0.mk (blk_below (g := gb265) (o := .cells #[.int .i64 a1_0, .slice Ao69 l1_1.length co69] 33 (0, 0)) (by (with_reducible repeat (first | refine blk_drewN ?_ _ | refine blk_drew ?_ | refine blk_alloc ?_ _)); exact BK265.out) hb)
     have n5_ := Aside0.mk (blk_below (g := gb266) (o := .cells #[.int .i64 0, .slice none 0 0] 33 (0, 0)) (by (with_reducible repeat (first | refine blk_drewN ?_ _ | refine blk_drew ?_ | refine blk_alloc ?_ _)); exact BK266.out) hb)
     have n6_ := Aside0.mk (Kept.below (S := (fun k_ => P0_1_ k_ ∨ P1_1_ k_)) (by repeat (first | (with_reducible first | exact HK.out | apply Kept.alloc | apply Kept.drewN | apply Kept.drew | refine Kept.setCell ?_ (.inr GW264.out) _ | refine Kept.setCell ?_ (.inr GW265.out) _ | refine Kept.setCell ?_ (.inr GW266.out) _) | exact HK.out)) hb)
     have n7_ := Aside0.mk (below_step (by repeat (first | (with_reducible first | exact HB.out | apply below_alloc | apply pw_below_drewN | apply below_drew1 | refine below_set ?_ GE264.out | refine below_set ?_ GE265.out | refine below_set ?_ GE266.out) | exact HB.out)) hb)
     clear HO0_1
     clear HO1_1
     clear BK264
     clear BK265
     clear BK266
     clear HK
     clear HB
     have HO0_1 := n0_
     have HO1_1 := n1_
     have HO280 := n2_
     have BK264 := n3_
     have BK265 := n4_
     have BK266 := n5_
     have HK := n6_
     have HB := n7_
     clear n0_ n1_ n2_ n3_ n4_ n5_ n6_ n7_
     (try clear hb)
     (try clear hb2)
     (try clear hk)
     (try clear hi)
     (try clear ho0)
     obtain ⟨Ao79, co79, eo79⟩ := Kd.R_slice HO280.out
     (first | subst eo79 | (injection eo79 with f1_ f2_ f3_; have f4_ := f1_.symm; have f5_ := f3_.symm; clear f1_ f2_ f3_; subst f4_; subst f5_))
     refine hK.out _ _ ⟨(blk_cell BK265.out 0).trans rfl, (blk_cell BK265.out 1).trans rfl, (blk_cell BK264.out 0).trans rfl, (blk_cell BK264.out 1).trans rfl⟩ (fun hHeld => ?_)
     clear hK K
     refine norm_ (a' := ?_) ?_ ?_
     rotate_left
     ·show Act.put _ (some 46) _ = _
      simp only [Act.put, List.setIfInBounds_toArray, List.set_cons_zero, List.set_cons_succ, i64_w, i32_w]
      rfl
     refine one_ (i := 7) (N := some 47) #[true, true, true, true, true, true, true, true, false] rfl rfl (one_of HT_.out (by kernel_rfl)) (by decide) (fun K hK => ?_)
     refine goes_ Try.func54 (by kernel_rfl) rfl #[.int .i64 a1_0, .slice Ao79 t278.length co79] (by rfl) rfl rfl (by (try simp only [List.map_toArray, List.map_cons, List.map_nil]); first | done | rfl | (simp only [List.length_drop, List.length_take]; rfl)) ?_
     with_reducible refine (zelligeref04_make1.calls a1_0 (fun k_ => some k_ = (.slice Ao79 t278.length co79 : Value).ownBlock) (.slice Ao79 t278.length co79) t278 t281 t282 w0 _ ?side1 ?side2 A66.out).mono ?_
     (case side1 => repeat (first | (with_reducible first | exact HB.out | apply below_alloc | apply pw_below_drewN | apply below_drew1 | refine below_set ?_ GE264.out | refine below_set ?_ GE265.out | refine below_set ?_ GE266.out) | exact HB.out))
     (case side2 => exact Kd.R_tight rfl HO280.out)
     rintro e w80 ⟨v283, rfl, ho0, hb, hkp⟩
     refine ⟨_, rfl, ?_⟩
     have n0_ := Aside0.mk (Kd.R_mono (ok' := fun k_ => ((P0_1_ k_ ∨ P1_1_ k_) ∨ w.heap.size ≤ k_) ∧ some k_ ≠ (.slice Ao69 l1_1.length co69 : Value).ownBlock ∧ some k_ ≠ (v283 : Value).ownBlock) (Kd.R_keptB (HO0_1.out) hkp (fun k_ hk_ hs_ => (hk_.2) hs_)) (fun k_ hk_ => ⟨hk_.1.1.1, hk_.1.1.2, fun e_ => Or.elim (ho0.1 k_ e_.symm) (fun hs_ => hk_.2.1 hs_) (fun hn_ => Nat.not_le.2 hk_.2.2 hn_)⟩))
     have n1_ := Aside0.mk (Kd.R_mono (ok' := fun k_ => ((P0_1_ k_ ∨ P1_1_ k_) ∨ w.heap.size ≤ k_) ∧ some k_ ≠ (.slice Ao67 l0_1.length co67 : Value).ownBlock ∧ some k_ ≠ (v283 : Value).ownBlock) (Kd.R_keptB (HO1_1.out) hkp (fun k_ hk_ hs_ => (hk_.2) hs_)) (fun k_ hk_ => ⟨hk_.1.1.1, hk_.1.1.2, fun e_ => Or.elim (ho0.1 k_ e_.symm) (fun hs_ => hk_.2.1 hs_) (fun hn_ => Nat.not_le.2 hk_.2.2 hn_)⟩))
     have n2_ := Aside0.mk (blk_kept (by (with_reducible repeat (first | refine blk_drewN ?_ _ | refine blk_drew ?_ | refine blk_alloc ?_ _)); exact BK264.out) hkp (fun hs_ => (fun e_ => (Kd.R_ne HO280.out BK264.out (by decide)) e_) hs_))
     have n3_ := Aside0.mk (blk_kept (by (with_reducible repeat (first | refine blk_drewN ?_ _ | refine blk_drew ?_ | refine blk_alloc ?_ _)); exact BK265.out) hkp (fun hs_ => (fun e_ => (Kd.R_ne HO280.out BK265.out (by decide)) e_) hs_))
     have n4_ := Aside0.mk (blk_kept (by (with_reducible repeat (first | refine blk_drewN ?_ _ | refine blk_drew ?_ | refine blk_alloc ?_ _)); exact BK266.out) hkp (fun hs_ => (fun e_ => (Kd.R_ne HO280.out BK266.out (by decide)) e_) hs_))
     have n5_ := Aside0.mk (Kd.R_mono (ok' := fun k_ => ((P0_1_ k_ ∨ P1_1_ k_) ∨ w.heap.size ≤ k_) ∧ some k_ ≠ (.slice Ao67 l0_1.length co67 : Value).ownBlock ∧ some k_ ≠ (.slice Ao69 l1_1.length co69 : Value).ownBlock) ho0 (fun k_ hk_ => ⟨Or.elim hk_ (fun hs_ => (HO280.out.1 k_ (hs_).symm).1.1.1) (fun hn_ => (.inr (Nat.le_trans (by first | exact HK.out.1 | exact (show Kept w _ (fun k_ => P0_1_ k_ ∨ P1_1_ k_) from by repeat (first | (with_reducible first | exact HK.out | apply Kept.alloc | apply Kept.drewN | apply Kept.drew | refine Kept.setCell ?_ (.inr GW264.out) _ | refine Kept.setCell ?_ (.inr GW265.out) _ | refine Kept.setCell ?_ (.inr GW266.out) _) | exact HK.out)).1) hn_))), Or.elim hk_ (fun hs_ => fun e_ => (((HO0_1.out).1 k_ e_.symm).2) hs_) (fun hn_ => (Kd.fresh' (Kd.R_lt (by (with_reducible repeat (first | apply Kd.R_alloc | apply Kd.R_drewN | apply Kd.R_drew)); exact HO0_1.out)) k_ hn_)), Or.elim hk_ (fun hs_ => fun e_ => (((HO1_1.out).1 k_ e_.symm).2) hs_) (fun hn_ => (Kd.fresh' (Kd.R_lt (by (with_reducible repeat (first | apply Kd.R_alloc | apply Kd.R_drewN | apply Kd.R_drew)); exact HO1_1.out)) k_ hn_))⟩))
     have n6_ := Aside0.mk (Kept.then_ (S := (fun k_ => P0_1_ k_ ∨ P1_1_ k_)) (by repeat (first | (with_reducible first | exact HK.out | apply Kept.alloc | apply Kept.drewN | apply Kept.drew | refine Kept.setCell ?_ (.inr GW264.out) _ | refine Kept.setCell ?_ (.inr GW265.out) _ | refine Kept.setCell ?_ (.inr GW266.out) _) | exact HK.out)) hkp (fun k_ hs_ => (fun e_ => (HO280.out.1 k_ e_.symm).1.1.1) hs_))
     have n7_ := Aside0.mk (hb)
     clear HO0_1
     clear HO1_1
     clear BK264
     clear BK265
     clear BK266
     clear HK
     clear HB
     clear HO280
     have HO0_1 := n0_
     have HO1_1 := n1_
     have BK264 := n2_
     have BK265 := n3_
     have BK266 := n4_
     have HO284 := n5_
     have HK := n6_
     have HB := n7_
     clear n0_ n1_ n2_ n3_ n4_ n5_ n6_ n7_
     (try clear hb)
     (try clear hkp)
     (try clear ho0)
     obtain ⟨Ao82, co82, eo82⟩ := Kd.R_slice HO284.out
     (first | subst eo82 | (injection eo82 with f1_ f2_ f3_; have f4_ := f1_.symm; have f5_ := f3_.symm; clear f1_ f2_ f3_; subst f4_; subst f5_))
     refine hK.out _ _ ⟨(blk_cell BK265.out 0).trans rfl, (blk_cell BK265.out 1).trans rfl, (blk_cell BK264.out 0).trans rfl, (blk_cell BK264.out 1).trans rfl⟩ (fun hHeld => ?_)
     clear hK K
     refine norm_ (a' := ?_) ?_ ?_
     rotate_left
     ·show Act.put _ (some 47) _ = _
      simp only [Act.put, List.setIfInBounds_toArray, List.set_cons_zero, List.set_cons_succ, i64_w, i32_w]
      rfl
     refine one_ (i := 8) (N := none) #[true, true, true, true, true, true, true, true, true] rfl rfl (one_of HT_.out (by kernel_rfl)) (by decide) (fun K hK => ?_)
     have hs81 : w80.cell? ⟨gb266, 0, none⟩ = some (.int .i64 0) := (blk_cell BK266.out 0).trans rfl
     have hfs81 := blk_frozen BK266.out 0
     have hns81_0 := NB264_266.out
     have hns81_1 := NB265_266.out
     have hms81_0 := NB266_264.out
     have hms81_1 := NB266_265.out
     have hs83 : w80.cell? ⟨gb266, 1, none⟩ = some (.slice none 0 0) := (blk_cell BK266.out 1).trans rfl
     have hfs83 := blk_frozen BK266.out 1
     have hns83_0 := NB264_266.out
     have hns83_1 := NB265_266.out
     have hms83_0 := NB266_264.out
     have hms83_1 := NB266_265.out
     refine skip_ (w1 := ?_) (by rfl) rfl ?_ ?_
     rotate_left
     ·go_simp
      rfl
     refine hK.out _ _ ⟨((cell_far (p := ⟨gb266, _, none⟩) NB265_266.out _).trans (((cell_far (p := ⟨gb266, _, none⟩) NB265_266.out _).trans (hHeld.1)))), ((cell_far (p := ⟨gb266, _, none⟩) NB265_266.out _).trans (((cell_far (p := ⟨gb266, _, none⟩) NB265_266.out _).trans (hHeld.2.1)))), ((cell_far (p := ⟨gb266, _, none⟩) NB264_266.out _).trans (((cell_far (p := ⟨gb266, _, none⟩) NB264_266.out _).trans (hHeld.2.2.1)))), ((cell_far (p := ⟨gb266, _, none⟩) NB264_266.out _).trans (((cell_far (p := ⟨gb266, _, none⟩) NB264_266.out _).trans (hHeld.2.2.2))))⟩ (fun hHeld => ?_)
     clear hK K
     refine done_ (done_of HT_.out (by kernel_rfl)) ?_
     try go_wp2
     refine bodyPost_ret (results_cell_row rfl _ _ gb266 33 #[.int .i64 t281, .slice Ao82 t282.length co82] (0, 0) _ rfl (by (with_reducible repeat (first | refine blk_drewN ?_ _ | refine blk_drew ?_ | refine blk_alloc ?_ _)); refine blk_put (cs := #[.int .i64 t281, .slice none 0 0]) ?_ 1 _ rfl; (with_reducible repeat (first | refine blk_drewN ?_ _ | refine blk_drew ?_ | refine blk_alloc ?_ _)); refine blk_put (cs := #[.int .i64 0, .slice none 0 0]) ?_ 0 _ rfl; (with_reducible repeat (first | refine blk_drewN ?_ _ | refine blk_drew ?_ | refine blk_alloc ?_ _)); exact BK266.out) Try.underlying33 rfl (by kernel_rfl)) rfl ?_
     exact ⟨_, by first | rfl | (simp [errW_none, errW_some] <;> rfl) | (simp [*, errW_none, errW_some] <;> rfl), by (with_reducible repeat (first | apply Kd.R_alloc | apply Kd.R_drewN | apply Kd.R_drew)); exact Kd.R_mono (Kd.R_far (p := ⟨gb266, 1, none⟩) (Kd.R_far (p := ⟨gb266, 0, none⟩) (Kd.R_types HO284.out BK266.out (by decide)) (fun _ hk => hk.2) (.int .i64 t281)) (fun _ hk => hk.2) (.slice Ao82 t282.length co82)) (fun _ hk => hk.1.1), by repeat (first | (with_reducible first | exact HB.out | apply below_alloc | apply pw_below_drewN | apply below_drew1 | refine below_set ?_ GE264.out | refine below_set ?_ GE265.out | refine below_set ?_ GE266.out) | exact HB.out), by repeat (first | (with_reducible first | exact HK.out | apply Kept.alloc | apply Kept.drewN | apply Kept.drew | refine Kept.setCell ?_ (.inr GW264.out) _ | refine Kept.setCell ?_ (.inr GW265.out) _ | refine Kept.setCell ?_ (.inr GW266.out) _) | exact HK.out)⟩
end Go.Proofs.Ytmeckkckjikjiaa.F
end
section
namespace Go.Proofs.Ytmeckkckjikjiaa.F
open Go.RowKit Go.Proofs.YtmeckkckjikjiaaW.PrintWords Go.Proofs.YtmeckkckjikjiaaW.PrintLast Go.Proofs.YtmeckkckjikjiaaW.PrintMore
attribute [local go_sem] max2_int min2_int max_two min_two max_three min_three max_four min_four
set_option linter.unusedVariables false
set_option linter.unusedSimpArgs false
def zelligeref04_Neg.f (a0_0 : Int) (l0_1 : List Int) : Option (Int × List Int) := some (wrap64 (-a0_0), l0_1)
set_option maxHeartbeats 8000000 in
set_option maxRecDepth 100000 in
theorem zelligeref04_Neg.calls (a0_0 : Int) (P0_1_ : Nat → Prop) (u9000_ : Value) (l0_1 : List Int) (r1 : Int) (r2 : List Int) (w0 w : World) (hB : Below w0.heap.size w0 w) (ho0_1 : Kd.R (Kd.int .i64) 3 w w0.heap.size P0_1_ u9000_ l0_1) (h : zelligeref04_Neg.f a0_0 l0_1 = some (r1, r2)) :
  Calls Try.prog 56 #[.agg #[.int .i64 a0_0, u9000_]] w fun e w' => ∃ v1_ : Value, e = .returned (.agg #[.int .i64 r1, v1_]) ∧ Kd.R (Kd.int .i64) 3 w' w0.heap.size (fun k_ => (P0_1_ k_ ∨ w.heap.size ≤ k_)) v1_ r2 ∧ Below w0.heap.size w0 w' ∧ Kept w w' (fun k_ => P0_1_ k_) := by
 have hu33 := Try.underlying33
 have HO0_1 := Aside0.mk (show Kd.R (Kd.int .i64) 3 w w0.heap.size (fun k_ => (P0_1_ k_ ∨ w.heap.size ≤ k_)) u9000_ l0_1 from Kd.R_mono ho0_1 (fun k_ hk => (.inl hk)))
 have HK := Aside0.mk (Kept.refl w (fun k_ => P0_1_ k_))
 have HW0 := Aside0.mk hB.size
 have HB := Aside0.mk hB
 clear hB
 have H : (some (wrap64 (-a0_0), l0_1)) = some (r1, r2) := h
 clear h
 simp only [Option.some.injEq, Prod.mk.injEq] at H
 obtain ⟨rfl, rfl⟩ := H
 obtain ⟨Ao2, co2, eo2⟩ := Kd.R_slice HO0_1.out
 subst eo2
 go_enter Try.func56, Try.ntmps56
 go_wp2_with (first | ((with_reducible refine gate_dst (N := 1) rfl ?_); refine box_event ?hg (N := 1) ?hd (cs := #[.int .i64 a0_0, .slice Ao2 l0_1.length co2]) (t := 33) ?hr ?_; (case hd => rfl); (case hg => rfl); (case hr => first | (go_simp; done) | (go_simp; rfl)); intro gb285 hg w3 hbox hb; have n0_ := Aside0.mk (Kd.R_below (by (with_reducible repeat (first | apply Kd.R_alloc | apply Kd.R_drewN | apply Kd.R_drew)); exact HO0_1.out) hb); have n1_ := Aside0.mk (Kept.below (S := (fun k_ => P0_1_ k_)) (by repeat (first | (with_reducible first | exact HK.out | apply Kept.alloc | apply Kept.drewN | apply Kept.drew) | exact HK.out)) hb); have n2_ := Aside0.mk (below_step (by repeat (first | (with_reducible first | exact HB.out | apply below_alloc | apply pw_below_drewN | apply below_drew1) | exact HB.out)) hb); have n3_ := Aside0.mk (hbox); have n4_ := Aside0.mk ((by rw [hg]; exact (by first | exact HK.out.1 | exact (show Kept w _ (fun k_ => P0_1_ k_) from by repeat (first | (with_reducible first | exact HK.out | apply Kept.alloc | apply Kept.drewN | apply Kept.drew) | exact HK.out)).1) : w.heap.size ≤ gb285)); have n5_ := Aside0.mk ((by rw [hg]; exact (below_size (by repeat (first | (with_reducible first | exact HB.out | apply below_alloc | apply pw_below_drewN | apply below_drew1) | exact HB.out))) : w0.heap.size ≤ gb285)); clear HO0_1; clear HK; clear HB; have HO0_1 := n0_; have HK := n1_; have HB := n2_; have BK285 := n3_; have GW285 := n4_; have GE285 := n5_; clear n0_ n1_ n2_ n3_ n4_ n5_; clear hb hbox hg) | ((with_reducible refine gate_dst (N := 2) rfl ?_); refine box_event ?hg (N := 2) ?hd (cs := #[.int .i64 0, .slice none 0 0]) (t := 33) ?hr ?_; (case hd => rfl); (case hg => rfl); (case hr => first | (go_simp; done) | (go_simp; rfl)); intro gb286 hg w4 hbox hb; have n0_ := Aside0.mk (Kd.R_below (by (with_reducible repeat (first | apply Kd.R_alloc | apply Kd.R_drewN | apply Kd.R_drew)); exact HO0_1.out) hb); have n1_ := Aside0.mk (blk_below (g := gb285) (o := .cells #[.int .i64 a0_0, .slice Ao2 l0_1.length co2] 33 (0, 0)) (by (with_reducible repeat (first | refine blk_drewN ?_ _ | refine blk_drew ?_ | refine blk_alloc ?_ _)); exact BK285.out) hb); have n2_ := Aside0.mk (Kept.below (S := (fun k_ => P0_1_ k_)) (by repeat (first | (with_reducible first | exact HK.out | apply Kept.alloc | apply Kept.drewN | apply Kept.drew | refine Kept.setCell ?_ (.inr GW285.out) _) | exact HK.out)) hb); have n3_ := Aside0.mk (below_step (by repeat (first | (with_reducible first | exact HB.out | apply below_alloc | apply pw_below_drewN | apply below_drew1 | refine below_set ?_ GE285.out) | exact HB.out)) hb); have n4_ := Aside0.mk (hbox); have n5_ := Aside0.mk ((by rw [hg]; exact (by first | exact HK.out.1 | exact (show Kept w _ (fun k_ => P0_1_ k_) from by repeat (first | (with_reducible first | exact HK.out | apply Kept.alloc | apply Kept.drewN | apply Kept.drew | refine Kept.setCell ?_ (.inr GW285.out) _) | exact HK.out)).1) : w.heap.size ≤ gb286)); have n6_ := Aside0.mk ((by rw [hg]; exact (below_size (by repeat (first | (with_reducible first | exact HB.out | apply below_alloc | apply pw_below_drewN | apply below_drew1 | refine below_set ?_ GE285.out) | exact HB.out))) : w0.heap.size ≤ gb286)); have n7_ := Aside0.mk ((by rw [hg]; exact Nat.ne_of_lt (blk_lt (g := gb285) (o := .cells #[.int .i64 a0_0, .slice Ao2 l0_1.length co2] 33 (0, 0)) (by (with_reducible repeat (first | refine blk_drewN ?_ _ | refine blk_drew ?_ | refine blk_alloc ?_ _)); exact BK285.out)) : gb285 ≠ gb286)); have n8_ := Aside0.mk ((by rw [hg]; exact Nat.ne_of_gt (blk_lt (g := gb285) (o := .cells #[.int .i64 a0_0, .slice Ao2 l0_1.length co2] 33 (0, 0)) (by (with_reducible repeat (first | refine blk_drewN ?_ _ | refine blk_drew ?_ | refine blk_alloc ?_ _)); exact BK285.out)) : gb286 ≠ gb285)); clear HO0_1; clear BK285; clear HK; clear HB; have HO0_1 := n0_; have BK285 := n1_; have HK := n2_; have HB := n3_; have BK286 := n4_; have GW286 := n5_; have GE286 := n6_; have NB285_286 := n7_; have NB286_285 := n8_; clear n0_ n1_ n2_ n3_ n4_ n5_ n6_ n7_ n8_; clear hb hbox hg; have hnb5 := NB285_286.out; have hnc5 := NB286_285.out; have hcz6_0 : w4.cell? ⟨gb285, 0, none⟩ = some (.int .i64 a0_0) := (blk_cell BK285.out 0).trans rfl; have hcz6_1 : w4.cell? ⟨gb285, 1, none⟩ = some (.slice Ao2 l0_1.length co2) := (blk_cell BK285.out 1).trans rfl; have hfz6_0 := blk_frozen BK285.out 0; have hfz6_1 := blk_frozen BK285.out 1; have hcz7_0 : w4.cell? ⟨gb286, 0, none⟩ = some (.int .i64 0) := (blk_cell BK286.out 0).trans rfl; have hcz7_1 : w4.cell? ⟨gb286, 1, none⟩ = some (.slice none 0 0) := (blk_cell BK286.out 1).trans rfl; have hfz7_0 := blk_frozen BK286.out 0; have hfz7_1 := blk_frozen BK286.out 1))
 refine bodyPost_ret (results_cell_row rfl _ _ gb286 33 #[.int .i64 (wrap64 (-a0_0)), .slice Ao2 l0_1.length co2] (0, 0) _ rfl (by (with_reducible repeat (first | refine blk_drewN ?_ _ | refine blk_drew ?_ | refine blk_alloc ?_ _)); refine blk_put (cs := #[.int .i64 (wrap64 (-a0_0)), .slice none 0 0]) ?_ 1 _ rfl; (with_reducible repeat (first | refine blk_drewN ?_ _ | refine blk_drew ?_ | refine blk_alloc ?_ _)); refine blk_put (cs := #[.int .i64 0, .slice none 0 0]) ?_ 0 _ rfl; (with_reducible repeat (first | refine blk_drewN ?_ _ | refine blk_drew ?_ | refine blk_alloc ?_ _)); exact BK286.out) Try.underlying33 rfl (by kernel_rfl)) rfl ?_
 exact ⟨_, by first | rfl | (simp [errW_none, errW_some] <;> rfl) | (simp [*, errW_none, errW_some] <;> rfl), by (with_reducible repeat (first | apply Kd.R_alloc | apply Kd.R_drewN | apply Kd.R_drew)); exact Kd.R_mono (Kd.R_far (p := ⟨gb286, 1, none⟩) (Kd.R_far (p := ⟨gb286, 0, none⟩) (Kd.R_types HO0_1.out BK286.out (by decide)) (fun _ hk => hk.2) (.int .i64 (wrap64 (-a0_0)))) (fun _ hk => hk.2) (.slice Ao2 l0_1.length co2)) (fun _ hk => hk.1), by repeat (first | (with_reducible first | exact HB.out | apply below_alloc | apply pw_below_drewN | apply below_drew1 | refine below_set ?_ GE285.out | refine below_set ?_ GE286.out) | exact HB.out), by repeat (first | (with_reducible first | exact HK.out | apply Kept.alloc | apply Kept.drewN | apply Kept.drew | refine Kept.setCell ?_ (.inr GW285.out) _ | refine Kept.setCell ?_ (.inr GW286.out) _) | exact HK.out)⟩
end Go.Proofs.Ytmeckkckjikjiaa.F
end
section
namespace Go.Proofs.Ytmeckkckjikjiaa.F
open Go.RowKit Go.Proofs.YtmeckkckjikjiaaW.PrintWords Go.Proofs.YtmeckkckjikjiaaW.PrintLast Go.Proofs.YtmeckkckjikjiaaW.PrintMore
attribute [local go_sem] max2_int min2_int max_two min_two max_three min_three max_four min_four
set_option linter.unusedVariables false
set_option linter.unusedSimpArgs false
def zelligeref04_Sub.f (k : Nat) (a0_0 : Int) (l0_1 : List Int) (a1_0 : Int) (l1_1 : List Int) : Option (Int × List Int) := (zelligeref04_Neg.f a1_0 l1_1).bind fun bt290 => ((zelligeref04_Add.f k a0_0 l0_1 bt290.1 bt290.2).bind fun bt294 => (some (bt294.1, bt294.2)))
theorem zelligeref04_Sub.mono : ∀ a0 a1 a2 a3 k, LeO (zelligeref04_Sub.f k a0 a1 a2 a3) (zelligeref04_Sub.f (k + 1) a0 a1 a2 a3) := by
 intro a0 a1 a2 a3 k
 unfold zelligeref04_Sub.f
 repeat' first
   | (with_reducible exact zelligeref04_Add.mono _ _ _ _ _)
   | (with_reducible exact LeO.refl _)
   | (with_reducible exact LeO.none _)
   | (with_reducible refine LeO.ite ?_ ?_)
   | (with_reducible refine LeO.bind ?_ (fun _ => ?_))
   | exact zelligeref04_Add.mono _ _ _ _ _
   | exact LeO.none _
   | refine LeO.ite ?_ ?_
   | refine LeO.bind ?_ (fun _ => ?_)
set_option maxHeartbeats 8000000 in
set_option maxRecDepth 100000 in
theorem zelligeref04_Sub.calls (k : Nat) (a0_0 : Int) (P0_1_ : Nat → Prop) (u9000_ : Value) (l0_1 : List Int) (a1_0 : Int) (P1_1_ : Nat → Prop) (u9001_ : Value) (l1_1 : List Int) (r1 : Int) (r2 : List Int) (w0 w : World) (hB : Below w0.heap.size w0 w) (ho0_1 : Kd.R (Kd.int .i64) 3 w w0.heap.size P0_1_ u9000_ l0_1) (hp0_1_1_1 : ∀ k_, P0_1_ k_ → ¬ P1_1_ k_) (ho1_1 : Kd.R (Kd.int .i64) 3 w w0.heap.size P1_1_ u9001_ l1_1) (hp1_1_0_1 : ∀ k_, P1_1_ k_ → ¬ P0_1_ k_) (h : zelligeref04_Sub.f k a0_0 l0_1 a1_0 l1_1 = some (r1, r2)) :
  Calls Try.prog 36 #[.agg #[.int .i64 a0_0, u9000_], .agg #[.int .i64 a1_0, u9001_]] w fun e w' => ∃ v1_ : Value, e = .returned (.agg #[.int .i64 r1, v1_]) ∧ Kd.R (Kd.int .i64) 3 w' w0.heap.size (fun k_ => ((P0_1_ k_ ∨ P1_1_ k_) ∨ w.heap.size ≤ k_)) v1_ r2 ∧ Below w0.heap.size w0 w' ∧ Kept w w' (fun k_ => P0_1_ k_ ∨ P1_1_ k_) := by
 have hu33 := Try.underlying33
 have HO0_1 := Aside0.mk (show Kd.R (Kd.int .i64) 3 w w0.heap.size (fun k_ => ((P0_1_ k_ ∨ P1_1_ k_) ∨ w.heap.size ≤ k_) ∧ some k_ ≠ (u9001_ : Value).ownBlock) u9000_ l0_1 from Kd.R_mono ho0_1 (fun k_ hk => ⟨(.inl (.inl hk)), fun e_ => hp0_1_1_1 k_ hk (ho1_1.1 k_ e_.symm)⟩))
 have HO1_1 := Aside0.mk (show Kd.R (Kd.int .i64) 3 w w0.heap.size (fun k_ => ((P0_1_ k_ ∨ P1_1_ k_) ∨ w.heap.size ≤ k_) ∧ some k_ ≠ (u9000_ : Value).ownBlock) u9001_ l1_1 from Kd.R_mono ho1_1 (fun k_ hk => ⟨(.inl (.inr hk)), fun e_ => hp1_1_0_1 k_ hk (ho0_1.1 k_ e_.symm)⟩))
 have HK := Aside0.mk (Kept.refl w (fun k_ => P0_1_ k_ ∨ P1_1_ k_))
 have HW0 := Aside0.mk hB.size
 have HB := Aside0.mk hB
 clear hB
 have H : ((zelligeref04_Neg.f a1_0 l1_1).bind fun bt290 => ((zelligeref04_Add.f k a0_0 l0_1 bt290.1 bt290.2).bind fun bt294 => (some (bt294.1, bt294.2)))) = some (r1, r2) := h
 clear h
 replace H := Option.bind_eq_some_iff.mp H
 obtain ⟨⟨t290, t291⟩, A30, H⟩ := H
 replace H : ((zelligeref04_Add.f k a0_0 l0_1 t290 t291).bind fun bt294 => (some (bt294.1, bt294.2))) = some (r1, r2) := H
 have A3 := Aside0.mk A30
 clear A30
 replace H := Option.bind_eq_some_iff.mp H
 obtain ⟨⟨t294, t295⟩, A40, H⟩ := H
 replace H : (some (t294, t295)) = some (r1, r2) := H
 have A4 := Aside0.mk A40
 clear A40
 simp only [Option.some.injEq, Prod.mk.injEq] at H
 obtain ⟨rfl, rfl⟩ := H
 obtain ⟨Ao5, co5, eo5⟩ := Kd.R_slice HO0_1.out
 subst eo5
 go_enter Try.func36, Try.ntmps36
 try go_wp2_with (first | ((with_reducible refine gate_dst (N := 2) rfl ?_); refine box_event ?hg (N := 2) ?hd (cs := #[.int .i64 a0_0, .slice Ao5 l0_1.length co5]) (t := 33) ?hr ?_; (case hd => rfl); (case hg => rfl); (case hr => first | (go_simp; done) | (go_simp; rfl)); intro gb287 hg w6 hbox hb; have n0_ := Aside0.mk (Kd.R_below (by (with_reducible repeat (first | apply Kd.R_alloc | apply Kd.R_drewN | apply Kd.R_drew)); exact HO0_1.out) hb); have n1_ := Aside0.mk (Kd.R_below (by (with_reducible repeat (first | apply Kd.R_alloc | apply Kd.R_drewN | apply Kd.R_drew)); exact HO1_1.out) hb); have n2_ := Aside0.mk (Kept.below (S := (fun k_ => P0_1_ k_ ∨ P1_1_ k_)) (by repeat (first | (with_reducible first | exact HK.out | apply Kept.alloc | apply Kept.drewN | apply Kept.drew) | exact HK.out)) hb); have n3_ := Aside0.mk (below_step (by repeat (first | (with_reducible first | exact HB.out | apply below_alloc | apply pw_below_drewN | apply below_drew1) | exact HB.out)) hb); have n4_ := Aside0.mk (hbox); have n5_ := Aside0.mk ((by rw [hg]; exact (by first | exact HK.out.1 | exact (show Kept w _ (fun k_ => P0_1_ k_ ∨ P1_1_ k_) from by repeat (first | (with_reducible first | exact HK.out | apply Kept.alloc | apply Kept.drewN | apply Kept.drew) | exact HK.out)).1) : w.heap.size ≤ gb287)); have n6_ := Aside0.mk ((by rw [hg]; exact (below_size (by repeat (first | (with_reducible first | exact HB.out | apply below_alloc | apply pw_below_drewN | apply below_drew1) | exact HB.out))) : w0.heap.size ≤ gb287)); clear HO0_1; clear HO1_1; clear HK; clear HB; have HO0_1 := n0_; have HO1_1 := n1_; have HK := n2_; have HB := n3_; have BK287 := n4_; have GW287 := n5_; have GE287 := n6_; clear n0_ n1_ n2_ n3_ n4_ n5_ n6_; clear hb hbox hg; obtain ⟨Ao7, co7, eo7⟩ := Kd.R_slice HO1_1.out; subst eo7) | ((with_reducible refine gate_dst (N := 3) rfl ?_); refine box_event ?hg (N := 3) ?hd (cs := #[.int .i64 a1_0, .slice Ao7 l1_1.length co7]) (t := 33) ?hr ?_; (case hd => rfl); (case hg => rfl); (case hr => first | (go_simp; done) | (go_simp; rfl)); intro gb288 hg w8 hbox hb; have n0_ := Aside0.mk (Kd.R_below (by (with_reducible repeat (first | apply Kd.R_alloc | apply Kd.R_drewN | apply Kd.R_drew)); exact HO0_1.out) hb); have n1_ := Aside0.mk (Kd.R_below (by (with_reducible repeat (first | apply Kd.R_alloc | apply Kd.R_drewN | apply Kd.R_drew)); exact HO1_1.out) hb); have n2_ := Aside0.mk (blk_below (g := gb287) (o := .cells #[.int .i64 a0_0, .slice Ao5 l0_1.length co5] 33 (0, 0)) (by (with_reducible repeat (first | refine blk_drewN ?_ _ | refine blk_drew ?_ | refine blk_alloc ?_ _)); exact BK287.out) hb); have n3_ := Aside0.mk (Kept.below (S := (fun k_ => P0_1_ k_ ∨ P1_1_ k_)) (by repeat (first | (with_reducible first | exact HK.out | apply Kept.alloc | apply Kept.drewN | apply Kept.drew | refine Kept.setCell ?_ (.inr GW287.out) _) | exact HK.out)) hb); have n4_ := Aside0.mk (below_step (by repeat (first | (with_reducible first | exact HB.out | apply below_alloc | apply pw_below_drewN | apply below_drew1 | refine below_set ?_ GE287.out) | exact HB.out)) hb); have n5_ := Aside0.mk (hbox); have n6_ := Aside0.mk ((by rw [hg]; exact (by first | exact HK.out.1 | exact (show Kept w _ (fun k_ => P0_1_ k_ ∨ P1_1_ k_) from by repeat (first | (with_reducible first | exact HK.out | apply Kept.alloc | apply Kept.drewN | apply Kept.drew | refine Kept.setCell ?_ (.inr GW287.out) _) | exact HK.out)).1) : w.heap.size ≤ gb288)); have n7_ := Aside0.mk ((by rw [hg]; exact (below_size (by repeat (first | (with_reducible first | exact HB.out | apply below_alloc | apply pw_below_drewN | apply below_drew1 | refine below_set ?_ GE287.out) | exact HB.out))) : w0.heap.size ≤ gb288)); have n8_ := Aside0.mk ((by rw [hg]; exact Nat.ne_of_lt (blk_lt (g := gb287) (o := .cells #[.int .i64 a0_0, .slice Ao5 l0_1.length co5] 33 (0, 0)) (by (with_reducible repeat (first | refine blk_drewN ?_ _ | refine blk_drew ?_ | refine blk_alloc ?_ _)); exact BK287.out)) : gb287 ≠ gb288)); have n9_ := Aside0.mk ((by rw [hg]; exact Nat.ne_of_gt (blk_lt (g := gb287) (o := .cells #[.int .i64 a0_0, .slice Ao5 l0_1.length co5] 33 (0, 0)) (by (with_reducible repeat (first | refine blk_drewN ?_ _ | refine blk_drew ?_ | refine blk_alloc ?_ _)); exact BK287.out)) : gb288 ≠ gb287)); clear HO0_1; clear HO1_1; clear BK287; clear HK; clear HB; have HO0_1 := n0_; have HO1_1 := n1_; have BK287 := n2_; have HK := n3_; have HB := n4_; have BK288 := n5_; have GW288 := n6_; have GE288 := n7_; have NB287_288 := n8_; have NB288_287 := n9_; clear n0_ n1_ n2_ n3_ n4_ n5_ n6_ n7_ n8_ n9_; clear hb hbox hg) | ((with_reducible refine gate_dst (N := 4) rfl ?_); refine box_event ?hg (N := 4) ?hd (cs := #[.int .i64 0, .slice none 0 0]) (t := 33) ?hr ?_; (case hd => rfl); (case hg => rfl); (case hr => first | (go_simp; done) | (go_simp; rfl)); intro gb289 hg w9 hbox hb; have n0_ := Aside0.mk (Kd.R_below (by (with_reducible repeat (first | apply Kd.R_alloc | apply Kd.R_drewN | apply Kd.R_drew)); exact HO0_1.out) hb); have n1_ := Aside0.mk (Kd.R_below (by (with_reducible repeat (first | apply Kd.R_alloc | apply Kd.R_drewN | apply Kd.R_drew)); exact HO1_1.out) hb); have n2_ := Aside0.mk (blk_below (g := gb287) (o := .cells #[.int .i64 a0_0, .slice Ao5 l0_1.length co5] 33 (0, 0)) (by (with_reducible repeat (first | refine blk_drewN ?_ _ | refine blk_drew ?_ | refine blk_alloc ?_ _)); exact BK287.out) hb); have n3_ := Aside0.mk (blk_below (g := gb288) (o := .cells #[.int .i64 a1_0, .slice Ao7 l1_1.length co7] 33 (0, 0)) (by (with_reducible repeat (first | refine blk_drewN ?_ _ | refine blk_drew ?_ | refine blk_alloc ?_ _)); exact BK288.out) hb); have n4_ := Aside0.mk (Kept.below (S := (fun k_ => P0_1_ k_ ∨ P1_1_ k_)) (by repeat (first | (with_reducible first | exact HK.out | apply Kept.alloc | apply Kept.drewN | apply Kept.drew | refine Kept.setCell ?_ (.inr GW287.out) _ | refine Kept.setCell ?_ (.inr GW288.out) _) | exact HK.out)) hb); have n5_ := Aside0.mk (below_step (by repeat (first | (with_reducible first | exact HB.out | apply below_alloc | apply pw_below_drewN | apply below_drew1 | refine below_set ?_ GE287.out | refine below_set ?_ GE288.out) | exact HB.out)) hb); have n6_ := Aside0.mk (hbox); have n7_ := Aside0.mk ((by rw [hg]; exact (by first | exact HK.out.1 | exact (show Kept w _ (fun k_ => P0_1_ k_ ∨ P1_1_ k_) from by repeat (first | (with_reducible first | exact HK.out | apply Kept.alloc | apply Kept.drewN | apply Kept.drew | refine Kept.setCell ?_ (.inr GW287.out) _ | refine Kept.setCell ?_ (.inr GW288.out) _) | exact HK.out)).1) : w.heap.size ≤ gb289)); have n8_ := Aside0.mk ((by rw [hg]; exact (below_size (by repeat (first | (with_reducible first | exact HB.out | apply below_alloc | apply pw_below_drewN | apply below_drew1 | refine below_set ?_ GE287.out | refine below_set ?_ GE288.out) | exact HB.out))) : w0.heap.size ≤ gb289)); have n9_ := Aside0.mk ((by rw [hg]; exact Nat.ne_of_lt (blk_lt (g := gb287) (o := .cells #[.int .i64 a0_0, .slice Ao5 l0_1.length co5] 33 (0, 0)) (by (with_reducible repeat (first | refine blk_drewN ?_ _ | refine blk_drew ?_ | refine blk_alloc ?_ _)); exact BK287.out)) : gb287 ≠ gb289)); have n10_ := Aside0.mk ((by rw [hg]; exact Nat.ne_of_gt (blk_lt (g := gb287) (o := .cells #[.int .i64 a0_0, .slice Ao5 l0_1.length co5] 33 (0, 0)) (by (with_reducible repeat (first | refine blk_drewN ?_ _ | refine blk_drew ?_ | refine blk_alloc ?_ _)); exact BK287.out)) : gb289 ≠ gb287)); have n11_ := Aside0.mk ((by rw [hg]; exact Nat.ne_of_lt (blk_lt (g := gb288) (o := .cells #[.int .i64 a1_0, .slice Ao7 l1_1.length co7] 33 (0, 0)) (by (with_reducible repeat (first | refine blk_drewN ?_ _ | refine blk_drew ?_ | refine blk_alloc ?_ _)); exact BK288.out)) : gb288 ≠ gb289)); have n12_ := Aside0.mk ((by rw [hg]; exact Nat.ne_of_gt (blk_lt (g := gb288) (o := .cells #[.int .i64 a1_0, .slice Ao7 l1_1.length co7] 33 (0, 0)) (by (with_reducible repeat (first | refine blk_drewN ?_ _ | refine blk_drew ?_ | refine blk_alloc ?_ _)); exact BK288.out)) : gb289 ≠ gb288)); clear HO0_1; clear HO1_1; clear BK287; clear BK288; clear HK; clear HB; have HO0_1 := n0_; have HO1_1 := n1_; have BK287 := n2_; have BK288 := n3_; have HK := n4_; have HB := n5_; have BK289 := n6_; have GW289 := n7_; have GE289 := n8_; have NB287_289 := n9_; have NB289_287 := n10_; have NB288_289 := n11_; have NB289_288 := n12_; clear n0_ n1_ n2_ n3_ n4_ n5_ n6_ n7_ n8_ n9_ n10_ n11_ n12_; clear hb hbox hg))
 have n0_ := Aside0.mk (Kd.R_drew HO0_1.out)
 have n1_ := Aside0.mk (Kd.R_drew HO1_1.out)
 have n2_ := Aside0.mk (blk_drew BK287.out)
 have n3_ := Aside0.mk (blk_drew BK288.out)
 have n4_ := Aside0.mk (blk_drew BK289.out)
 have n5_ := Aside0.mk (Kept.drew HK.out)
 have n6_ := Aside0.mk (below_drew1 HB.out)
 clear HO0_1
 clear HO1_1
 clear BK287
 clear BK288
 clear BK289
 clear HK
 clear HB
 have HO0_1 := n0_
 have HO1_1 := n1_
 have BK287 := n2_
 have BK288 := n3_
 have BK289 := n4_
 have HK := n5_
 have HB := n6_
 clear n0_ n1_ n2_ n3_ n4_ n5_ n6_
 refine start_ (n := 5) (S := fun w' => w'.cell? ⟨gb287, 0, none⟩ = some (.int .i64 a0_0) ∧ w'.cell? ⟨gb287, 1, none⟩ = some (.slice Ao5 l0_1.length co5) ∧ w'.cell? ⟨gb288, 0, none⟩ = some (.int .i64 a1_0) ∧ w'.cell? ⟨gb288, 1, none⟩ = some (.slice Ao7 l1_1.length co7)) (ds := []) #[false, false, false, false, false] (by kernel_rfl) rfl rfl ⟨(blk_cell BK287.out 0).trans rfl, (blk_cell BK287.out 1).trans rfl, (blk_cell BK288.out 0).trans rfl, (blk_cell BK288.out 1).trans rfl⟩ (fun hHeld => ?_)
 generalize w9.drew = w10 at HO0_1 HO1_1 BK287 BK288 BK289 HK HB hHeld ⊢
 refine take_ (i := 0) (N := some 5) (v := ?_) (a' := ?_) #[true, false, false, false, false] rfl rfl (by kernel_rfl) (fun _ _ _ h => h) (Or.inl ⟨by rfl, ?_⟩) hHeld ?_ ?_
 rotate_left
 ·rintro w' ⟨s0, s1, s2, s3⟩
  go_simp
  with_reducible rfl
 rotate_left
 ·simp only [Act.put, List.setIfInBounds_toArray, List.set_cons_zero, List.set_cons_succ, i64_w, i32_w]
  rfl
 refine take_ (i := 1) (N := some 6) (v := ?_) (a' := ?_) #[true, true, false, false, false] rfl rfl (by kernel_rfl) (fun _ _ _ h => h) (Or.inl ⟨by rfl, ?_⟩) hHeld ?_ ?_
 rotate_left
 ·rintro w' ⟨s0, s1, s2, s3⟩
  go_simp
  with_reducible rfl
 rotate_left
 ·simp only [Act.put, List.setIfInBounds_toArray, List.set_cons_zero, List.set_cons_succ, i64_w, i32_w]
  rfl
 refine one_ (i := 2) (N := some 7) #[true, true, true, false, false] rfl rfl (by kernel_rfl) (by decide) (fun K hK => ?_)
 refine goes_ Try.func56 (by kernel_rfl) rfl #[.agg #[.int .i64 a1_0, .slice Ao7 l1_1.length co7]] (by rfl) rfl rfl (by (try simp only [List.map_toArray, List.map_cons, List.map_nil]); first | done | rfl | (simp only [List.length_drop, List.length_take]; rfl)) ?_
 with_reducible refine (zelligeref04_Neg.calls a1_0 (fun k_ => some k_ = (.slice Ao7 l1_1.length co7 : Value).ownBlock) (.slice Ao7 l1_1.length co7) l1_1 t290 t291 w0 _ ?side1 ?side2 A3.out).mono ?_
 (case side1 => repeat (first | (with_reducible first | exact HB.out | apply below_alloc | apply pw_below_drewN | apply below_drew1 | refine below_set ?_ GE287.out | refine below_set ?_ GE288.out | refine below_set ?_ GE289.out) | exact HB.out))
 (case side2 => exact Kd.R_tight rfl HO1_1.out)
 rintro e w11 ⟨v292, rfl, ho0, hb, hkp⟩
 refine ⟨_, rfl, ?_⟩
 have n0_ := Aside0.mk (Kd.R_mono (ok' := fun k_ => ((P0_1_ k_ ∨ P1_1_ k_) ∨ w.heap.size ≤ k_) ∧ some k_ ≠ (v292 : Value).ownBlock) (Kd.R_keptB (HO0_1.out) hkp (fun k_ hk_ hs_ => (hk_.2) hs_)) (fun k_ hk_ => ⟨hk_.1.1, fun e_ => Or.elim (ho0.1 k_ e_.symm) (fun hs_ => hk_.2.1 hs_) (fun hn_ => Nat.not_le.2 hk_.2.2 hn_)⟩))
 have n1_ := Aside0.mk (blk_kept (by (with_reducible repeat (first | refine blk_drewN ?_ _ | refine blk_drew ?_ | refine blk_alloc ?_ _)); exact BK287.out) hkp (fun hs_ => (fun e_ => (Kd.R_ne HO1_1.out BK287.out (by decide)) e_) hs_))
 have n2_ := Aside0.mk (blk_kept (by (with_reducible repeat (first | refine blk_drewN ?_ _ | refine blk_drew ?_ | refine blk_alloc ?_ _)); exact BK288.out) hkp (fun hs_ => (fun e_ => (Kd.R_ne HO1_1.out BK288.out (by decide)) e_) hs_))
 have n3_ := Aside0.mk (blk_kept (by (with_reducible repeat (first | refine blk_drewN ?_ _ | refine blk_drew ?_ | refine blk_alloc ?_ _)); exact BK289.out) hkp (fun hs_ => (fun e_ => (Kd.R_ne HO1_1.out BK289.out (by decide)) e_) hs_))
 have n4_ := Aside0.mk (Kd.R_mono (ok' := fun k_ => ((P0_1_ k_ ∨ P1_1_ k_) ∨ w.heap.size ≤ k_) ∧ some k_ ≠ (.slice Ao5 l0_1.length co5 : Value).ownBlock) ho0 (fun k_ hk_ => ⟨Or.elim hk_ (fun hs_ => (HO1_1.out.1 k_ (hs_).symm).1) (fun hn_ => (.inr (Nat.le_trans (by first | exact HK.out.1 | exact (show Kept w _ (fun k_ => P0_1_ k_ ∨ P1_1_ k_) from by repeat (first | (with_reducible first | exact HK.out | apply Kept.alloc | apply Kept.drewN | apply Kept.drew | refine Kept.setCell ?_ (.inr GW287.out) _ | refine Kept.setCell ?_ (.inr GW288.out) _ | refine Kept.setCell ?_ (.inr GW289.out) _) | exact HK.out)).1) hn_))), Or.elim hk_ (fun hs_ => fun e_ => (((HO0_1.out).1 k_ e_.symm).2) hs_) (fun hn_ => (Kd.fresh' (Kd.R_lt (by (with_reducible repeat (first | apply Kd.R_alloc | apply Kd.R_drewN | apply Kd.R_drew)); exact HO0_1.out)) k_ hn_))⟩))
 have n5_ := Aside0.mk (Kept.then_ (S := (fun k_ => P0_1_ k_ ∨ P1_1_ k_)) (by repeat (first | (with_reducible first | exact HK.out | apply Kept.alloc | apply Kept.drewN | apply Kept.drew | refine Kept.setCell ?_ (.inr GW287.out) _ | refine Kept.setCell ?_ (.inr GW288.out) _ | refine Kept.setCell ?_ (.inr GW289.out) _) | exact HK.out)) hkp (fun k_ hs_ => (fun e_ => (HO1_1.out.1 k_ e_.symm).1) hs_))
 have n6_ := Aside0.mk (hb)
 clear HO0_1
 clear BK287
 clear BK288
 clear BK289
 clear HK
 clear HB
 clear HO1_1
 have HO0_1 := n0_
 have BK287 := n1_
 have BK288 := n2_
 have BK289 := n3_
 have HO293 := n4_
 have HK := n5_
 have HB := n6_
 clear n0_ n1_ n2_ n3_ n4_ n5_ n6_
 (try clear hb)
 (try clear hkp)
 (try clear ho0)
 obtain ⟨Ao12, co12, eo12⟩ := Kd.R_slice HO293.out
 (first | subst eo12 | (injection eo12 with f1_ f2_ f3_; have f4_ := f1_.symm; have f5_ := f3_.symm; clear f1_ f2_ f3_; subst f4_; subst f5_))
 refine hK.out _ _ ⟨(blk_cell BK287.out 0).trans rfl, (blk_cell BK287.out 1).trans rfl, (blk_cell BK288.out 0).trans rfl, (blk_cell BK288.out 1).trans rfl⟩ (fun hHeld => ?_)
 clear hK K
 refine norm_ (a' := ?_) ?_ ?_
 rotate_left
 ·show Act.put _ (some 7) _ = _
  simp only [Act.put, List.setIfInBounds_toArray, List.set_cons_zero, List.set_cons_succ, i64_w, i32_w]
  rfl
 refine one_ (i := 3) (N := some 8) #[true, true, true, true, false] rfl rfl (by kernel_rfl) (by decide) (fun K hK => ?_)
 refine goes_ Try.func37 (by kernel_rfl) rfl #[.agg #[.int .i64 a0_0, .slice Ao5 l0_1.length co5], .agg #[.int .i64 t290, .slice Ao12 t291.length co12]] (by rfl) rfl rfl (by (try simp only [List.map_toArray, List.map_cons, List.map_nil]); first | done | rfl | (simp only [List.length_drop, List.length_take]; rfl)) ?_
 with_reducible refine (zelligeref04_Add.calls k a0_0 (fun k_ => some k_ = (.slice Ao5 l0_1.length co5 : Value).ownBlock) (.slice Ao5 l0_1.length co5) l0_1 t290 (fun k_ => some k_ = (.slice Ao12 t291.length co12 : Value).ownBlock) (.slice Ao12 t291.length co12) t291 t294 t295 w0 _ ?side1 ?side2 ?side3 ?side4 ?side5 A4.out).mono ?_
 (case side1 => repeat (first | (with_reducible first | exact HB.out | apply below_alloc | apply pw_below_drewN | apply below_drew1 | refine below_set ?_ GE287.out | refine below_set ?_ GE288.out | refine below_set ?_ GE289.out) | exact HB.out))
 (case side2 => exact Kd.R_tight rfl HO0_1.out)
 (case side3 => exact fun k_ e_ => (HO0_1.out.1 k_ e_.symm).2)
 (case side4 => exact Kd.R_tight rfl HO293.out)
 (case side5 => exact fun k_ e_ => (HO293.out.1 k_ e_.symm).2)
 rintro e w13 ⟨v296, rfl, ho0, hb, hkp⟩
 refine ⟨_, rfl, ?_⟩
 have n0_ := Aside0.mk (blk_kept (by (with_reducible repeat (first | refine blk_drewN ?_ _ | refine blk_drew ?_ | refine blk_alloc ?_ _)); exact BK287.out) hkp (fun hs_ => Or.elim hs_ (fun e_ => (fun e_ => (Kd.R_ne HO0_1.out BK287.out (by decide)) e_) e_) (fun e_ => (fun e_ => (Kd.R_ne HO293.out BK287.out (by decide)) e_) e_)))
 have n1_ := Aside0.mk (blk_kept (by (with_reducible repeat (first | refine blk_drewN ?_ _ | refine blk_drew ?_ | refine blk_alloc ?_ _)); exact BK288.out) hkp (fun hs_ => Or.elim hs_ (fun e_ => (fun e_ => (Kd.R_ne HO0_1.out BK288.out (by decide)) e_) e_) (fun e_ => (fun e_ => (Kd.R_ne HO293.out BK288.out (by decide)) e_) e_)))
 have n2_ := Aside0.mk (blk_kept (by (with_reducible repeat (first | refine blk_drewN ?_ _ | refine blk_drew ?_ | refine blk_alloc ?_ _)); exact BK289.out) hkp (fun hs_ => Or.elim hs_ (fun e_ => (fun e_ => (Kd.R_ne HO0_1.out BK289.out (by decide)) e_) e_) (fun e_ => (fun e_ => (Kd.R_ne HO293.out BK289.out (by decide)) e_) e_)))
 have n3_ := Aside0.mk (Kd.R_mono (ok' := fun k_ => ((P0_1_ k_ ∨ P1_1_ k_) ∨ w.heap.size ≤ k_)) ho0 (fun k_ hk_ => Or.elim hk_ (fun hs_ => Or.elim hs_ (fun hs_ => (HO0_1.out.1 k_ (hs_).symm).1) (fun hs_ => (HO293.out.1 k_ (hs_).symm).1)) (fun hn_ => (.inr (Nat.le_trans (by first | exact HK.out.1 | exact (show Kept w _ (fun k_ => P0_1_ k_ ∨ P1_1_ k_) from by repeat (first | (with_reducible first | exact HK.out | apply Kept.alloc | apply Kept.drewN | apply Kept.drew | refine Kept.setCell ?_ (.inr GW287.out) _ | refine Kept.setCell ?_ (.inr GW288.out) _ | refine Kept.setCell ?_ (.inr GW289.out) _) | exact HK.out)).1) hn_)))))
 have n4_ := Aside0.mk (Kept.then_ (S := (fun k_ => P0_1_ k_ ∨ P1_1_ k_)) (by repeat (first | (with_reducible first | exact HK.out | apply Kept.alloc | apply Kept.drewN | apply Kept.drew | refine Kept.setCell ?_ (.inr GW287.out) _ | refine Kept.setCell ?_ (.inr GW288.out) _ | refine Kept.setCell ?_ (.inr GW289.out) _) | exact HK.out)) hkp (fun k_ hs_ => Or.elim hs_ (fun e_ => (fun e_ => (HO0_1.out.1 k_ e_.symm).1) e_) (fun e_ => (fun e_ => (HO293.out.1 k_ e_.symm).1) e_)))
 have n5_ := Aside0.mk (hb)
 clear BK287
 clear BK288
 clear BK289
 clear HK
 clear HB
 clear HO0_1
 clear HO293
 have BK287 := n0_
 have BK288 := n1_
 have BK289 := n2_
 have HO297 := n3_
 have HK := n4_
 have HB := n5_
 clear n0_ n1_ n2_ n3_ n4_ n5_
 (try clear hb)
 (try clear hkp)
 (try clear ho0)
 obtain ⟨Ao15, co15, eo15⟩ := Kd.R_slice HO297.out
 (first | subst eo15 | (injection eo15 with f1_ f2_ f3_; have f4_ := f1_.symm; have f5_ := f3_.symm; clear f1_ f2_ f3_; subst f4_; subst f5_))
 refine hK.out _ _ ⟨(blk_cell BK287.out 0).trans rfl, (blk_cell BK287.out 1).trans rfl, (blk_cell BK288.out 0).trans rfl, (blk_cell BK288.out 1).trans rfl⟩ (fun hHeld => ?_)
 clear hK K
 refine norm_ (a' := ?_) ?_ ?_
 rotate_left
 ·show Act.put _ (some 8) _ = _
  simp only [Act.put, List.setIfInBounds_toArray, List.set_cons_zero, List.set_cons_succ, i64_w, i32_w]
  rfl
 refine one_ (i := 4) (N := none) #[true, true, true, true, true] rfl rfl (by kernel_rfl) (by decide) (fun K hK => ?_)
 have hs14 : w13.cell? ⟨gb289, 0, none⟩ = some (.int .i64 0) := (blk_cell BK289.out 0).trans rfl
 have hfs14 := blk_frozen BK289.out 0
 have hns14_0 := NB287_289.out
 have hns14_1 := NB288_289.out
 have hms14_0 := NB289_287.out
 have hms14_1 := NB289_288.out
 have hs16 : w13.cell? ⟨gb289, 1, none⟩ = some (.slice none 0 0) := (blk_cell BK289.out 1).trans rfl
 have hfs16 := blk_frozen BK289.out 1
 have hns16_0 := NB287_289.out
 have hns16_1 := NB288_289.out
 have hms16_0 := NB289_287.out
 have hms16_1 := NB289_288.out
 refine skip_ (w1 := ?_) (by rfl) rfl ?_ ?_
 rotate_left
 ·go_simp
  rfl
 refine hK.out _ _ ⟨((cell_far (p := ⟨gb289, _, none⟩) NB287_289.out _).trans (((cell_far (p := ⟨gb289, _, none⟩) NB287_289.out _).trans (hHeld.1)))), ((cell_far (p := ⟨gb289, _, none⟩) NB287_289.out _).trans (((cell_far (p := ⟨gb289, _, none⟩) NB287_289.out _).trans (hHeld.2.1)))), ((cell_far (p := ⟨gb289, _, none⟩) NB288_289.out _).trans (((cell_far (p := ⟨gb289, _, none⟩) NB288_289.out _).trans (hHeld.2.2.1)))), ((cell_far (p := ⟨gb289, _, none⟩) NB288_289.out _).trans (((cell_far (p := ⟨gb289, _, none⟩) NB288_289.out _).trans (hHeld.2.2.2))))⟩ (fun hHeld => ?_)
 clear hK K
 refine done_ (by kernel_rfl) ?_
 try go_wp2
 refine bodyPost_ret (results_cell_row rfl _ _ gb289 33 #[.int .i64 t294, .slice Ao15 t295.length co15] (0, 0) _ rfl (by (with_reducible repeat (first | refine blk_drewN ?_ _ | refine blk_drew ?_ | refine blk_alloc ?_ _)); refine blk_put (cs := #[.int .i64 t294, .slice none 0 0]) ?_ 1 _ rfl; (with_reducible repeat (first | refine blk_drewN ?_ _ | refine blk_drew ?_ | refine blk_alloc ?_ _)); refine blk_put (cs := #[.int .i64 0, .slice none 0 0]) ?_ 0 _ rfl; (with_reducible repeat (first | refine blk_drewN ?_ _ | refine blk_drew ?_ | refine blk_alloc ?_ _)); exact BK289.out) Try.underlying33 rfl (by kernel_rfl)) rfl ?_
 exact ⟨_, by first | rfl | (simp [errW_none, errW_some] <;> rfl) | (simp [*, errW_none, errW_some] <;> rfl), by (with_reducible repeat (first | apply Kd.R_alloc | apply Kd.R_drewN | apply Kd.R_drew)); exact Kd.R_mono (Kd.R_far (p := ⟨gb289, 1, none⟩) (Kd.R_far (p := ⟨gb289, 0, none⟩) (Kd.R_types HO297.out BK289.out (by decide)) (fun _ hk => hk.2) (.int .i64 t294)) (fun _ hk => hk.2) (.slice Ao15 t295.length co15)) (fun _ hk => hk.1), by repeat (first | (with_reducible first | exact HB.out | apply below_alloc | apply pw_below_drewN | apply below_drew1 | refine below_set ?_ GE287.out | refine below_set ?_ GE288.out | refine below_set ?_ GE289.out) | exact HB.out), by repeat (first | (with_reducible first | exact HK.out | apply Kept.alloc | apply Kept.drewN | apply Kept.drew | refine Kept.setCell ?_ (.inr GW287.out) _ | refine Kept.setCell ?_ (.inr GW288.out) _ | refine Kept.setCell ?_ (.inr GW289.out) _) | exact HK.out)⟩
end Go.Proofs.Ytmeckkckjikjiaa.F
end
section
namespace Go.Proofs.Ytmeckkckjikjiaa.Whole
open Go Go.RowKit Go.Proofs.YtmeckkckjikjiaaW.PrintWords Go.Proofs.YtmeckkckjikjiaaW.PrintLast Go.Proofs.YtmeckkckjikjiaaW.PrintMore Go.Proofs.Ytmeckkckjikjiaa.F Go.Proofs.Ytmeckkckjikjiaa.Dig
set_option linter.unusedVariables false
theorem make1_p {s : Int} {n : Nat} : zelligeref04_make1.f s (dig n) = some (if n = 0 then 0 else s, dig n) := by
 unfold zelligeref04_make1.f
 by_cases h : n = 0
 ·subst h; rw [dig_zero, if_pos (by simp), if_pos rfl]
 ·have h1 : (dig n).length ≠ 0 := fun e => h (dig_nil.1 (List.length_eq_zero_iff.1 e))
  rw [if_neg (by omega), if_neg h]
theorem neg_p (n : Int) (l : List Int) : zelligeref04_Neg.f n.sign l = some ((-n).sign, l) := by
 unfold zelligeref04_Neg.f
 rw [Int.sign_neg, w64 (by rw [sign_eq]; omega) (by rw [sign_eq]; omega)]
theorem add_p (n m : Int) (hn : Sm n) (hm : Sm m) {k : Nat} (hk : 50000 ≤ k) : zelligeref04_Add.f k n.sign (dig n.natAbs) m.sign (dig m.natAbs) = some ((n + m).sign, dig (n + m).natAbs) := by
 unfold Sm at hn hm
 unfold zelligeref04_Add.f
 by_cases n0 : n = 0
 ·subst n0; rw [Int.sign_zero, if_pos rfl, Int.zero_add]
 have s0 : n.sign ≠ 0 := fun e => n0 (Int.sign_eq_zero_iff_zero.1 e)
 by_cases m0 : m = 0
 ·subst m0; rw [if_neg s0, Int.sign_zero, if_pos rfl, Int.add_zero]
 have t0 : m.sign ≠ 0 := fun e => m0 (Int.sign_eq_zero_iff_zero.1 e)
 rw [if_neg s0, if_neg t0]
 by_cases st : n.sign = m.sign
 ·rw [if_pos st, add_f n.natAbs m.natAbs (by omega) (by omega) (by omega), Option.bind_some]
  rw [sign_eq, sign_eq] at st
  rw [show n.natAbs + m.natAbs = (n + m).natAbs by omega, show n.sign = (n + m).sign by rw [sign_eq, sign_eq]; omega]
 ·rw [if_neg st, cmp_f n.natAbs m.natAbs (by omega) (by omega), Option.bind_some]
  rw [sign_eq, sign_eq] at st
  by_cases hlt : n.natAbs < m.natAbs
  ·rw [if_pos hlt, if_neg (by decide), sub_f m.natAbs n.natAbs (by omega) (by omega) (by omega), Option.bind_some, make1_p, Option.bind_some]
   rw [show m.natAbs - n.natAbs = (n + m).natAbs by omega, if_neg (by omega), show m.sign = (n + m).sign by rw [sign_eq, sign_eq]; omega]
  ·rw [if_neg hlt, if_pos (by split <;> decide), sub_f n.natAbs m.natAbs (by omega) (by omega) (by omega), Option.bind_some, make1_p, Option.bind_some]
   rw [show n.natAbs - m.natAbs = (n + m).natAbs by omega]
   by_cases he : n.natAbs = m.natAbs
   ·rw [if_pos (by omega), show (n + m).sign = 0 by rw [sign_eq]; omega]
   ·rw [if_neg (by omega), show n.sign = (n + m).sign by rw [sign_eq, sign_eq]; omega]
theorem sub_p (n m : Int) (hn : Sm n) (hm : Sm m) {k : Nat} (hk : 50000 ≤ k) : zelligeref04_Sub.f k n.sign (dig n.natAbs) m.sign (dig m.natAbs) = some ((n - m).sign, dig (n - m).natAbs) := by
 unfold zelligeref04_Sub.f
 have hm' : Sm (-m) := by unfold Sm; rw [Int.natAbs_neg]; exact hm
 have := add_p n (-m) hn hm' hk
 rw [Int.natAbs_neg, ← Int.sub_eq_add_neg] at this
 rw [neg_p, Option.bind_some, this, Option.bind_some]
theorem mul_p (n m : Int) (hn : Sm n) (hm : Sm m) {k : Nat} (hk : 20000001 ≤ k) : zelligeref04_Mul.f k n.sign (dig n.natAbs) m.sign (dig m.natAbs) = some ((n * m).sign, dig (n * m).natAbs) := by
 unfold Sm at hn hm
 have hs : wrap64 (n.sign * m.sign) = (n * m).sign := by
  rw [Int.sign_mul]
  have h1 : -1 ≤ n.sign ∧ n.sign ≤ 1 := by rw [sign_eq]; omega
  have h2 : -1 ≤ m.sign ∧ m.sign ≤ 1 := by rw [sign_eq]; omega
  have h3 : n.sign = -1 ∨ n.sign = 0 ∨ n.sign = 1 := by omega
  rcases h3 with h3 | h3 | h3 <;> rw [h3] <;> exact w64 (by omega) (by omega)
 unfold zelligeref04_Mul.f
 rw [mul_f n.natAbs m.natAbs (by omega) (by omega) (by omega), Option.bind_some, hs, make1_p, Option.bind_some, Int.natAbs_mul]
 by_cases h0 : n.natAbs * m.natAbs = 0
 ·have hz : n * m = 0 := Int.natAbs_eq_zero.1 (by rw [Int.natAbs_mul]; exact h0)
  rw [if_pos h0, hz]; rfl
 ·rw [if_neg h0]
theorem wrap_u {x : Int} : IntKind.u64.wrap x = x % 18446744073709551616 := by rw [IntKind.wrap_u64]
theorem long_p (n : Int) (h : -9223372036854775808 ≤ n ∧ n ≤ 9223372036854775807) {k : Nat} (hk : 21 ≤ k) : zelligeref04_Long.f k n = some (n.sign, dig n.natAbs) := by
 unfold zelligeref04_Long.f
 by_cases h0 : n = 0
 ·subst h0; rw [if_pos rfl, Int.natAbs_zero, dig_zero]; rfl
 ·rw [if_neg h0]
  by_cases h1 : n < 0
  ·have e : IntKind.u64.wrap (-IntKind.u64.wrap n) = -n := by rw [wrap_u, wrap_u]; omega
   rw [if_pos h1, e, of_two _ _ (by omega) (by omega) (by omega) (by omega) (by omega), Option.bind_some, Int.sign_eq_neg_one_of_neg h1, show (-n % 4294967296 + 4294967296 * (-n / 4294967296 % 4294967296)).toNat = n.natAbs by clear e; omega]
  ·have e : IntKind.u64.wrap n = n := by rw [wrap_u]; omega
   rw [if_neg h1, e, of_two _ _ (by omega) (by omega) (by omega) (by omega) (by omega), Option.bind_some, Int.sign_eq_one_of_pos (by omega), show (n % 4294967296 + 4294967296 * (n / 4294967296 % 4294967296)).toNat = n.natAbs by clear e; omega]
end Go.Proofs.Ytmeckkckjikjiaa.Whole
end
section
namespace Go.Proofs.Ytmeckkckjikjiaa.Whole
open Go Go.RowKit Go.Proofs.YtmeckkckjikjiaaW.PrintWords Go.Proofs.YtmeckkckjikjiaaW.PrintLast Go.Proofs.YtmeckkckjikjiaaW.PrintMore Go.Proofs.Ytmeckkckjikjiaa.F Go.Proofs.Ytmeckkckjikjiaa.Dig
set_option linter.unusedVariables false
set_option maxHeartbeats 1000000 in
theorem can_no (a b : Int) (ha : (Lit.int .i64 a).wf = true) (ha' : Sm a) (hq : Aside0 (decide (-1099511627776 ≤ a ∧ a ≤ 1099511627776) = false)) (w : World) :
  Calls Try.prog 9 #[.agg #[.int .i64 a, .int .i64 b]] w fun e w' => e = .returned (.bool false) ∧ Below w.heap.size w w' := by
 have HA := Aside0.mk ha
 have HM := Aside0.mk ha'
 clear ha ha'
 go_enter Try.func9, Try.ntmps9
 go_wp2_with fail
 obtain ⟨n0, bw⟩ := one_new w (.cells #[.int .i64 a, .int .i64 b] 23)
 generalize (w.alloc (.cells #[.int .i64 a, .int .i64 b] 23)) = W at n0 bw ⊢
 have Hb := Aside0.mk bw
 have d0 : W.cell? ⟨w.heap.size, 0, none⟩ = some (.int .i64 a) := (blk_cell n0 0).trans rfl
 have d1 : W.cell? ⟨w.heap.size, 1, none⟩ = some (.int .i64 b) := (blk_cell n0 1).trans rfl
 clear n0 bw
 go_wp2_with (first | (go_at_call 31; refine (long_c _ HA.out _).mono ?_; rintro e w1 ⟨v, rfl, hN, hb⟩; have HN := Aside0.mk hN; clear hN; obtain ⟨s1, A1, l1, cc1, rfl⟩ := HN.out.shape; have d0 := pw_cell_below hb d0; have d1 := pw_cell_below hb d1; have Hb := Aside0.mk (bthen hb Hb.out); clear hb) | (go_at_call 30; refine (in_c _ a HM.out _ HN.out).mono ?_; rw [hq.out]; rintro e w1 ⟨rfl, hb⟩; have d0 := pw_cell_below hb d0; have d1 := pw_cell_below hb d1; have Hb := Aside0.mk (bthen hb Hb.out); clear hb))
 go_ret
 exact ⟨rfl, Hb.out⟩
set_option maxHeartbeats 1000000 in
theorem can_yes (a b : Int) (ha : (Lit.int .i64 a).wf = true) (ha' : Sm a) (hb' : (Lit.int .i64 b).wf = true) (hb2 : Sm b) (hq : Aside0 (decide (-1099511627776 ≤ a ∧ a ≤ 1099511627776) = true)) (r : Bool) (hr : Aside0 (decide (-1099511627776 ≤ b ∧ b ≤ 1099511627776) = r)) (w : World) :
  Calls Try.prog 9 #[.agg #[.int .i64 a, .int .i64 b]] w fun e w' => e = .returned (.bool r) ∧ Below w.heap.size w w' := by
 have HA := Aside0.mk ha
 have HM := Aside0.mk ha'
 have HA2 := Aside0.mk hb'
 have HM2 := Aside0.mk hb2
 clear ha ha' hb' hb2
 go_enter Try.func9, Try.ntmps9
 go_wp2_with fail
 obtain ⟨n0, bw⟩ := one_new w (.cells #[.int .i64 a, .int .i64 b] 23)
 generalize (w.alloc (.cells #[.int .i64 a, .int .i64 b] 23)) = W at n0 bw ⊢
 have Hb := Aside0.mk bw
 have d0 : W.cell? ⟨w.heap.size, 0, none⟩ = some (.int .i64 a) := (blk_cell n0 0).trans rfl
 have d1 : W.cell? ⟨w.heap.size, 1, none⟩ = some (.int .i64 b) := (blk_cell n0 1).trans rfl
 clear n0 bw
 go_wp2_with fail
 refine (long_c _ HA.out _).mono ?_
 rintro e w1 ⟨v, rfl, hN, hb⟩
 have HN := Aside0.mk hN; clear hN; obtain ⟨s1, A1, l1, cc1, rfl⟩ := HN.out.shape
 have d0 := pw_cell_below hb d0; have d1 := pw_cell_below hb d1; have Hb := Aside0.mk (bthen hb Hb.out); clear hb
 go_wp2_with fail
 refine (in_c _ a HM.out _ HN.out).mono ?_
 rw [hq.out]
 rintro e w2 ⟨rfl, hb⟩
 have d0 := pw_cell_below hb d0; have d1 := pw_cell_below hb d1; have Hb := Aside0.mk (bthen hb Hb.out); clear hb
 go_wp2_with fail
 refine (long_c _ HA2.out _).mono ?_
 rintro e w3 ⟨v, rfl, hN, hb⟩
 have HN := Aside0.mk hN; clear hN; obtain ⟨s2, A2, l2, cc2, rfl⟩ := HN.out.shape
 have d0 := pw_cell_below hb d0; have d1 := pw_cell_below hb d1; have Hb := Aside0.mk (bthen hb Hb.out); clear hb
 go_wp2_with fail
 refine (in_c _ b HM2.out _ HN.out).mono ?_
 rw [hr.out]
 rintro e w4 ⟨rfl, hb⟩
 have Hb := Aside0.mk (bthen hb Hb.out); clear hb
 go_wp2
 go_ret
 exact ⟨rfl, Hb.out⟩
theorem Sm.i64 {n : Int} (h : -9223372036854775808 ≤ n ∧ n ≤ 9223372036854775807) : Sm n := Sm.of (by omega) (by omega)
theorem wf_of {n : Int} (h : -9223372036854775808 ≤ n ∧ n ≤ 9223372036854775807) : (Lit.int .i64 n).wf = true := WalkArith.wf_i64 (by omega)
end Go.Proofs.Ytmeckkckjikjiaa.Whole
namespace Go.Proofs.Ytmeckkckjikjiaa.F
open Go Go.RowKit Go.Proofs.YtmeckkckjikjiaaW.PrintWords Go.Proofs.YtmeckkckjikjiaaW.PrintLast Go.Proofs.YtmeckkckjikjiaaW.PrintMore Go.Proofs.Ytmeckkckjikjiaa.Whole
abbrev I64 (n : Int) : Prop := -9223372036854775808 ≤ n ∧ n ≤ 9223372036854775807
abbrev InC (n : Int) : Prop := -1099511627776 ≤ n ∧ n ≤ 1099511627776
def zelligeref06_Can.f (a0_0 : Int) (a0_1 : Int) : Option Bool := if I64 a0_0 ∧ I64 a0_1 then some (decide (InC a0_0 ∧ InC a0_1)) else none
theorem zelligeref06_Can.calls (a0_0 : Int) (a0_1 : Int) (r : Bool) (w : World) (h : zelligeref06_Can.f a0_0 a0_1 = some r) :
  Calls Try.prog 9 #[.agg #[.int .i64 a0_0, .int .i64 a0_1]] w fun e w' => e = .returned (.bool r) ∧ Below w.heap.size w w' := by
 unfold zelligeref06_Can.f at h
 by_cases hb : I64 a0_0 ∧ I64 a0_1
 ·rw [if_pos hb] at h
  obtain rfl := Option.some.inj h
  by_cases h1 : InC a0_0
  ·refine can_yes a0_0 a0_1 (wf_of hb.1) (Sm.i64 hb.1) (wf_of hb.2) (Sm.i64 hb.2) ⟨decide_eq_true h1⟩ _ ⟨?_⟩ w
   rw [decide_eq_decide]
   exact ⟨fun h => ⟨h1, h⟩, fun h => h.2⟩
  ·rw [show decide (InC a0_0 ∧ InC a0_1) = false from decide_eq_false (fun h => h1 h.1)]
   exact can_no a0_0 a0_1 (wf_of hb.1) (Sm.i64 hb.1) ⟨decide_eq_false h1⟩ w
 ·rw [if_neg hb] at h
  cases h
end Go.Proofs.Ytmeckkckjikjiaa.F
end
section
namespace Go.Proofs.Ytmeckkckjikjiaa.F
open Go.RowKit Go.Proofs.YtmeckkckjikjiaaW.PrintWords Go.Proofs.YtmeckkckjikjiaaW.PrintLast Go.Proofs.YtmeckkckjikjiaaW.PrintMore
attribute [local go_sem] max2_int min2_int max_two min_two max_three min_three max_four min_four
set_option linter.unusedVariables false
set_option linter.unusedSimpArgs false
def zelligeref07_near.f (a0_0 : Int) (a0_1 : Int) (a1_0 : Int) (a1_1 : Int) : Option (Bool) := if (wrap64 (a1_0 - a0_0)) > (-8192) then (if (wrap64 (a1_0 - a0_0)) < 8192 then (if (wrap64 (a1_1 - a0_1)) > (-8192) then (some (decide ((wrap64 (a1_1 - a0_1)) < 8192))) else (some false)) else (some false)) else (some false)
set_option maxHeartbeats 8000000 in
set_option maxRecDepth 100000 in
theorem zelligeref07_near.calls (a0_0 : Int) (a0_1 : Int) (a1_0 : Int) (a1_1 : Int) (r : Bool) (w : World) (h : zelligeref07_near.f a0_0 a0_1 a1_0 a1_1 = some r) :
  Calls Try.prog 32 #[.agg #[.int .i64 a0_0, .int .i64 a0_1], .agg #[.int .i64 a1_0, .int .i64 a1_1]] w fun e w' => e = .returned (.bool r) ∧ Below w.heap.size w w' := by
 have hu23 := Try.underlying23
 have HB := Aside0.mk (Below.refl w.heap.size w)
 have H : (if (wrap64 (a1_0 - a0_0)) > (-8192) then (if (wrap64 (a1_0 - a0_0)) < 8192 then (if (wrap64 (a1_1 - a0_1)) > (-8192) then (some (decide ((wrap64 (a1_1 - a0_1)) < 8192))) else (some false)) else (some false)) else (some false)) = some r := h
 clear h
 by_cases c3 : (wrap64 (a1_0 - a0_0)) > (-8192)
 ·rw [if_pos c3] at H
  have c3b0 : decide ((-8192) < (wrap64 (a1_0 - a0_0))) = true := decide_eq_true c3
  clear c3
  by_cases c4 : (wrap64 (a1_0 - a0_0)) < 8192
  ·rw [if_pos c4] at H
   have c4b0 : decide ((wrap64 (a1_0 - a0_0)) < 8192) = true := decide_eq_true c4
   clear c4
   by_cases c5 : (wrap64 (a1_1 - a0_1)) > (-8192)
   ·rw [if_pos c5] at H
    have c5b0 : decide ((-8192) < (wrap64 (a1_1 - a0_1))) = true := decide_eq_true c5
    clear c5
    obtain rfl := Option.some.inj H
    go_enter Try.func32, Try.ntmps32
    go_wp2_with (first | ((with_reducible refine gate_dst (N := 2) rfl ?_); refine box_event ?hg (N := 2) ?hd (cs := #[.int .i64 a0_0, .int .i64 a0_1]) (t := 23) ?hr ?_; (case hd => rfl); (case hg => rfl); (case hr => first | (go_simp; done) | (go_simp; rfl)); intro gb440 hg w6 hbox hb; have n0_ := Aside0.mk (below_step (bw HB.out) hb); have n1_ := Aside0.mk (hbox); have n2_ := Aside0.mk ((by rw [hg]; exact (below_size (bw HB.out)) : w.heap.size ≤ gb440)); have n3_ := Aside0.mk ((by rw [hg]; exact (below_size (bw HB.out)) : w.heap.size ≤ gb440)); clear HB; have HB := n0_; have BK440 := n1_; have GW440 := n2_; have GE440 := n3_; clear n0_ n1_ n2_ n3_; clear hb hbox hg) | ((with_reducible refine gate_dst (N := 3) rfl ?_); refine box_event ?hg (N := 3) ?hd (cs := #[.int .i64 a1_0, .int .i64 a1_1]) (t := 23) ?hr ?_; (case hd => rfl); (case hg => rfl); (case hr => first | (go_simp; done) | (go_simp; rfl)); intro gb441 hg w7 hbox hb; have n0_ := Aside0.mk (blk_below (g := gb440) (o := .cells #[.int .i64 a0_0, .int .i64 a0_1] 23 (0, 0)) (bk BK440.out) hb); have n1_ := Aside0.mk (below_step (by repeat (first | (with_reducible first | exact HB.out | apply below_alloc | apply pw_below_drewN | apply below_drew1 | refine below_set ?_ GE440.out) | exact HB.out)) hb); have n2_ := Aside0.mk (hbox); have n3_ := Aside0.mk ((by rw [hg]; exact (below_size (by repeat (first | (with_reducible first | exact HB.out | apply below_alloc | apply pw_below_drewN | apply below_drew1 | refine below_set ?_ GE440.out) | exact HB.out))) : w.heap.size ≤ gb441)); have n4_ := Aside0.mk ((by rw [hg]; exact (below_size (by repeat (first | (with_reducible first | exact HB.out | apply below_alloc | apply pw_below_drewN | apply below_drew1 | refine below_set ?_ GE440.out) | exact HB.out))) : w.heap.size ≤ gb441)); have n5_ := Aside0.mk ((by rw [hg]; exact Nat.ne_of_lt (blk_lt (g := gb440) (o := .cells #[.int .i64 a0_0, .int .i64 a0_1] 23 (0, 0)) (bk BK440.out)) : gb440 ≠ gb441)); have n6_ := Aside0.mk ((by rw [hg]; exact Nat.ne_of_gt (blk_lt (g := gb440) (o := .cells #[.int .i64 a0_0, .int .i64 a0_1] 23 (0, 0)) (bk BK440.out)) : gb441 ≠ gb440)); clear BK440; clear HB; have BK440 := n0_; have HB := n1_; have BK441 := n2_; have GW441 := n3_; have GE441 := n4_; have NB440_441 := n5_; have NB441_440 := n6_; clear n0_ n1_ n2_ n3_ n4_ n5_ n6_; clear hb hbox hg; have hnb8 := NB441_440.out; have hnc8 := NB440_441.out; have hcz9_0 : w7.cell? ⟨gb441, 0, none⟩ = some (.int .i64 a1_0) := (blk_cell BK441.out 0).trans rfl; have hcz9_1 : w7.cell? ⟨gb441, 1, none⟩ = some (.int .i64 a1_1) := (blk_cell BK441.out 1).trans rfl; have hfz9_0 := blk_frozen BK441.out 0; have hfz9_1 := blk_frozen BK441.out 1; have hcz10_0 : w7.cell? ⟨gb440, 0, none⟩ = some (.int .i64 a0_0) := (blk_cell BK440.out 0).trans rfl; have hcz10_1 : w7.cell? ⟨gb440, 1, none⟩ = some (.int .i64 a0_1) := (blk_cell BK440.out 1).trans rfl; have hfz10_0 := blk_frozen BK440.out 0; have hfz10_1 := blk_frozen BK440.out 1))
    repeat (go_quiet (first | ((with_reducible refine gate_dst (N := 2) rfl ?_); refine box_event ?hg (N := 2) ?hd (cs := #[.int .i64 a0_0, .int .i64 a0_1]) (t := 23) ?hr ?_; (case hd => rfl); (case hg => rfl); (case hr => first | (go_simp; done) | (go_simp; rfl)); intro gb440 hg w6 hbox hb; have n0_ := Aside0.mk (below_step (bw HB.out) hb); have n1_ := Aside0.mk (hbox); have n2_ := Aside0.mk ((by rw [hg]; exact (below_size (bw HB.out)) : w.heap.size ≤ gb440)); have n3_ := Aside0.mk ((by rw [hg]; exact (below_size (bw HB.out)) : w.heap.size ≤ gb440)); clear HB; have HB := n0_; have BK440 := n1_; have GW440 := n2_; have GE440 := n3_; clear n0_ n1_ n2_ n3_; clear hb hbox hg) | ((with_reducible refine gate_dst (N := 3) rfl ?_); refine box_event ?hg (N := 3) ?hd (cs := #[.int .i64 a1_0, .int .i64 a1_1]) (t := 23) ?hr ?_; (case hd => rfl); (case hg => rfl); (case hr => first | (go_simp; done) | (go_simp; rfl)); intro gb441 hg w7 hbox hb; have n0_ := Aside0.mk (blk_below (g := gb440) (o := .cells #[.int .i64 a0_0, .int .i64 a0_1] 23 (0, 0)) (bk BK440.out) hb); have n1_ := Aside0.mk (below_step (by repeat (first | (with_reducible first | exact HB.out | apply below_alloc | apply pw_below_drewN | apply below_drew1 | refine below_set ?_ GE440.out) | exact HB.out)) hb); have n2_ := Aside0.mk (hbox); have n3_ := Aside0.mk ((by rw [hg]; exact (below_size (by repeat (first | (with_reducible first | exact HB.out | apply below_alloc | apply pw_below_drewN | apply below_drew1 | refine below_set ?_ GE440.out) | exact HB.out))) : w.heap.size ≤ gb441)); have n4_ := Aside0.mk ((by rw [hg]; exact (below_size (by repeat (first | (with_reducible first | exact HB.out | apply below_alloc | apply pw_below_drewN | apply below_drew1 | refine below_set ?_ GE440.out) | exact HB.out))) : w.heap.size ≤ gb441)); have n5_ := Aside0.mk ((by rw [hg]; exact Nat.ne_of_lt (blk_lt (g := gb440) (o := .cells #[.int .i64 a0_0, .int .i64 a0_1] 23 (0, 0)) (bk BK440.out)) : gb440 ≠ gb441)); have n6_ := Aside0.mk ((by rw [hg]; exact Nat.ne_of_gt (blk_lt (g := gb440) (o := .cells #[.int .i64 a0_0, .int .i64 a0_1] 23 (0, 0)) (bk BK440.out)) : gb441 ≠ gb440)); clear BK440; clear HB; have BK440 := n0_; have HB := n1_; have BK441 := n2_; have GW441 := n3_; have GE441 := n4_; have NB440_441 := n5_; have NB441_440 := n6_; clear n0_ n1_ n2_ n3_ n4_ n5_ n6_; clear hb hbox hg; have hnb8 := NB441_440.out; have hnc8 := NB440_441.out; have hcz9_0 : w7.cell? ⟨gb441, 0, none⟩ = some (.int .i64 a1_0) := (blk_cell BK441.out 0).trans rfl; have hcz9_1 : w7.cell? ⟨gb441, 1, none⟩ = some (.int .i64 a1_1) := (blk_cell BK441.out 1).trans rfl; have hfz9_0 := blk_frozen BK441.out 0; have hfz9_1 := blk_frozen BK441.out 1; have hcz10_0 : w7.cell? ⟨gb440, 0, none⟩ = some (.int .i64 a0_0) := (blk_cell BK440.out 0).trans rfl; have hcz10_1 : w7.cell? ⟨gb440, 1, none⟩ = some (.int .i64 a0_1) := (blk_cell BK440.out 1).trans rfl; have hfz10_0 := blk_frozen BK440.out 0; have hfz10_1 := blk_frozen BK440.out 1)); try go_wp2_with (first | ((with_reducible refine gate_dst (N := 2) rfl ?_); refine box_event ?hg (N := 2) ?hd (cs := #[.int .i64 a0_0, .int .i64 a0_1]) (t := 23) ?hr ?_; (case hd => rfl); (case hg => rfl); (case hr => first | (go_simp; done) | (go_simp; rfl)); intro gb440 hg w6 hbox hb; have n0_ := Aside0.mk (below_step (bw HB.out) hb); have n1_ := Aside0.mk (hbox); have n2_ := Aside0.mk ((by rw [hg]; exact (below_size (bw HB.out)) : w.heap.size ≤ gb440)); have n3_ := Aside0.mk ((by rw [hg]; exact (below_size (bw HB.out)) : w.heap.size ≤ gb440)); clear HB; have HB := n0_; have BK440 := n1_; have GW440 := n2_; have GE440 := n3_; clear n0_ n1_ n2_ n3_; clear hb hbox hg) | ((with_reducible refine gate_dst (N := 3) rfl ?_); refine box_event ?hg (N := 3) ?hd (cs := #[.int .i64 a1_0, .int .i64 a1_1]) (t := 23) ?hr ?_; (case hd => rfl); (case hg => rfl); (case hr => first | (go_simp; done) | (go_simp; rfl)); intro gb441 hg w7 hbox hb; have n0_ := Aside0.mk (blk_below (g := gb440) (o := .cells #[.int .i64 a0_0, .int .i64 a0_1] 23 (0, 0)) (bk BK440.out) hb); have n1_ := Aside0.mk (below_step (by repeat (first | (with_reducible first | exact HB.out | apply below_alloc | apply pw_below_drewN | apply below_drew1 | refine below_set ?_ GE440.out) | exact HB.out)) hb); have n2_ := Aside0.mk (hbox); have n3_ := Aside0.mk ((by rw [hg]; exact (below_size (by repeat (first | (with_reducible first | exact HB.out | apply below_alloc | apply pw_below_drewN | apply below_drew1 | refine below_set ?_ GE440.out) | exact HB.out))) : w.heap.size ≤ gb441)); have n4_ := Aside0.mk ((by rw [hg]; exact (below_size (by repeat (first | (with_reducible first | exact HB.out | apply below_alloc | apply pw_below_drewN | apply below_drew1 | refine below_set ?_ GE440.out) | exact HB.out))) : w.heap.size ≤ gb441)); have n5_ := Aside0.mk ((by rw [hg]; exact Nat.ne_of_lt (blk_lt (g := gb440) (o := .cells #[.int .i64 a0_0, .int .i64 a0_1] 23 (0, 0)) (bk BK440.out)) : gb440 ≠ gb441)); have n6_ := Aside0.mk ((by rw [hg]; exact Nat.ne_of_gt (blk_lt (g := gb440) (o := .cells #[.int .i64 a0_0, .int .i64 a0_1] 23 (0, 0)) (bk BK440.out)) : gb441 ≠ gb440)); clear BK440; clear HB; have BK440 := n0_; have HB := n1_; have BK441 := n2_; have GW441 := n3_; have GE441 := n4_; have NB440_441 := n5_; have NB441_440 := n6_; clear n0_ n1_ n2_ n3_ n4_ n5_ n6_; clear hb hbox hg; have hnb8 := NB441_440.out; have hnc8 := NB440_441.out; have hcz9_0 : w7.cell? ⟨gb441, 0, none⟩ = some (.int .i64 a1_0) := (blk_cell BK441.out 0).trans rfl; have hcz9_1 : w7.cell? ⟨gb441, 1, none⟩ = some (.int .i64 a1_1) := (blk_cell BK441.out 1).trans rfl; have hfz9_0 := blk_frozen BK441.out 0; have hfz9_1 := blk_frozen BK441.out 1; have hcz10_0 : w7.cell? ⟨gb440, 0, none⟩ = some (.int .i64 a0_0) := (blk_cell BK440.out 0).trans rfl; have hcz10_1 : w7.cell? ⟨gb440, 1, none⟩ = some (.int .i64 a0_1) := (blk_cell BK440.out 1).trans rfl; have hfz10_0 := blk_frozen BK440.out 0; have hfz10_1 := blk_frozen BK440.out 1)))
    go_ret
    exact ⟨by first | rfl | (simp [errW_none, errW_some] <;> rfl) | (simp [*, errW_none, errW_some] <;> rfl), by repeat (first | (with_reducible first | exact HB.out | apply below_alloc | apply pw_below_drewN | apply below_drew1 | refine below_set ?_ GE440.out | refine below_set ?_ GE441.out) | exact HB.out)⟩
   ·rw [if_neg c5] at H
    have c5b0 : decide ((-8192) < (wrap64 (a1_1 - a0_1))) = false := decide_eq_false c5
    clear c5
    obtain rfl := Option.some.inj H
    go_enter Try.func32, Try.ntmps32
    go_wp2_with (first | ((with_reducible refine gate_dst (N := 2) rfl ?_); refine box_event ?hg (N := 2) ?hd (cs := #[.int .i64 a0_0, .int .i64 a0_1]) (t := 23) ?hr ?_; (case hd => rfl); (case hg => rfl); (case hr => first | (go_simp; done) | (go_simp; rfl)); intro gb440 hg w11 hbox hb; have n0_ := Aside0.mk (below_step (bw HB.out) hb); have n1_ := Aside0.mk (hbox); have n2_ := Aside0.mk ((by rw [hg]; exact (below_size (bw HB.out)) : w.heap.size ≤ gb440)); have n3_ := Aside0.mk ((by rw [hg]; exact (below_size (bw HB.out)) : w.heap.size ≤ gb440)); clear HB; have HB := n0_; have BK440 := n1_; have GW440 := n2_; have GE440 := n3_; clear n0_ n1_ n2_ n3_; clear hb hbox hg) | ((with_reducible refine gate_dst (N := 3) rfl ?_); refine box_event ?hg (N := 3) ?hd (cs := #[.int .i64 a1_0, .int .i64 a1_1]) (t := 23) ?hr ?_; (case hd => rfl); (case hg => rfl); (case hr => first | (go_simp; done) | (go_simp; rfl)); intro gb441 hg w12 hbox hb; have n0_ := Aside0.mk (blk_below (g := gb440) (o := .cells #[.int .i64 a0_0, .int .i64 a0_1] 23 (0, 0)) (bk BK440.out) hb); have n1_ := Aside0.mk (below_step (by repeat (first | (with_reducible first | exact HB.out | apply below_alloc | apply pw_below_drewN | apply below_drew1 | refine below_set ?_ GE440.out) | exact HB.out)) hb); have n2_ := Aside0.mk (hbox); have n3_ := Aside0.mk ((by rw [hg]; exact (below_size (by repeat (first | (with_reducible first | exact HB.out | apply below_alloc | apply pw_below_drewN | apply below_drew1 | refine below_set ?_ GE440.out) | exact HB.out))) : w.heap.size ≤ gb441)); have n4_ := Aside0.mk ((by rw [hg]; exact (below_size (by repeat (first | (with_reducible first | exact HB.out | apply below_alloc | apply pw_below_drewN | apply below_drew1 | refine below_set ?_ GE440.out) | exact HB.out))) : w.heap.size ≤ gb441)); have n5_ := Aside0.mk ((by rw [hg]; exact Nat.ne_of_lt (blk_lt (g := gb440) (o := .cells #[.int .i64 a0_0, .int .i64 a0_1] 23 (0, 0)) (bk BK440.out)) : gb440 ≠ gb441)); have n6_ := Aside0.mk ((by rw [hg]; exact Nat.ne_of_gt (blk_lt (g := gb440) (o := .cells #[.int .i64 a0_0, .int .i64 a0_1] 23 (0, 0)) (bk BK440.out)) : gb441 ≠ gb440)); clear BK440; clear HB; have BK440 := n0_; have HB := n1_; have BK441 := n2_; have GW441 := n3_; have GE441 := n4_; have NB440_441 := n5_; have NB441_440 := n6_; clear n0_ n1_ n2_ n3_ n4_ n5_ n6_; clear hb hbox hg; have hnb13 := NB441_440.out; have hnc13 := NB440_441.out; have hcz14_0 : w12.cell? ⟨gb441, 0, none⟩ = some (.int .i64 a1_0) := (blk_cell BK441.out 0).trans rfl; have hcz14_1 : w12.cell? ⟨gb441, 1, none⟩ = some (.int .i64 a1_1) := (blk_cell BK441.out 1).trans rfl; have hfz14_0 := blk_frozen BK441.out 0; have hfz14_1 := blk_frozen BK441.out 1; have hcz15_0 : w12.cell? ⟨gb440, 0, none⟩ = some (.int .i64 a0_0) := (blk_cell BK440.out 0).trans rfl; have hcz15_1 : w12.cell? ⟨gb440, 1, none⟩ = some (.int .i64 a0_1) := (blk_cell BK440.out 1).trans rfl; have hfz15_0 := blk_frozen BK440.out 0; have hfz15_1 := blk_frozen BK440.out 1))
    repeat (go_quiet (first | ((with_reducible refine gate_dst (N := 2) rfl ?_); refine box_event ?hg (N := 2) ?hd (cs := #[.int .i64 a0_0, .int .i64 a0_1]) (t := 23) ?hr ?_; (case hd => rfl); (case hg => rfl); (case hr => first | (go_simp; done) | (go_simp; rfl)); intro gb440 hg w11 hbox hb; have n0_ := Aside0.mk (below_step (bw HB.out) hb); have n1_ := Aside0.mk (hbox); have n2_ := Aside0.mk ((by rw [hg]; exact (below_size (bw HB.out)) : w.heap.size ≤ gb440)); have n3_ := Aside0.mk ((by rw [hg]; exact (below_size (bw HB.out)) : w.heap.size ≤ gb440)); clear HB; have HB := n0_; have BK440 := n1_; have GW440 := n2_; have GE440 := n3_; clear n0_ n1_ n2_ n3_; clear hb hbox hg) | ((with_reducible refine gate_dst (N := 3) rfl ?_); refine box_event ?hg (N := 3) ?hd (cs := #[.int .i64 a1_0, .int .i64 a1_1]) (t := 23) ?hr ?_; (case hd => rfl); (case hg => rfl); (case hr => first | (go_simp; done) | (go_simp; rfl)); intro gb441 hg w12 hbox hb; have n0_ := Aside0.mk (blk_below (g := gb440) (o := .cells #[.int .i64 a0_0, .int .i64 a0_1] 23 (0, 0)) (bk BK440.out) hb); have n1_ := Aside0.mk (below_step (by repeat (first | (with_reducible first | exact HB.out | apply below_alloc | apply pw_below_drewN | apply below_drew1 | refine below_set ?_ GE440.out) | exact HB.out)) hb); have n2_ := Aside0.mk (hbox); have n3_ := Aside0.mk ((by rw [hg]; exact (below_size (by repeat (first | (with_reducible first | exact HB.out | apply below_alloc | apply pw_below_drewN | apply below_drew1 | refine below_set ?_ GE440.out) | exact HB.out))) : w.heap.size ≤ gb441)); have n4_ := Aside0.mk ((by rw [hg]; exact (below_size (by repeat (first | (with_reducible first | exact HB.out | apply below_alloc | apply pw_below_drewN | apply below_drew1 | refine below_set ?_ GE440.out) | exact HB.out))) : w.heap.size ≤ gb441)); have n5_ := Aside0.mk ((by rw [hg]; exact Nat.ne_of_lt (blk_lt (g := gb440) (o := .cells #[.int .i64 a0_0, .int .i64 a0_1] 23 (0, 0)) (bk BK440.out)) : gb440 ≠ gb441)); have n6_ := Aside0.mk ((by rw [hg]; exact Nat.ne_of_gt (blk_lt (g := gb440) (o := .cells #[.int .i64 a0_0, .int .i64 a0_1] 23 (0, 0)) (bk BK440.out)) : gb441 ≠ gb440)); clear BK440; clear HB; have BK440 := n0_; have HB := n1_; have BK441 := n2_; have GW441 := n3_; have GE441 := n4_; have NB440_441 := n5_; have NB441_440 := n6_; clear n0_ n1_ n2_ n3_ n4_ n5_ n6_; clear hb hbox hg; have hnb13 := NB441_440.out; have hnc13 := NB440_441.out; have hcz14_0 : w12.cell? ⟨gb441, 0, none⟩ = some (.int .i64 a1_0) := (blk_cell BK441.out 0).trans rfl; have hcz14_1 : w12.cell? ⟨gb441, 1, none⟩ = some (.int .i64 a1_1) := (blk_cell BK441.out 1).trans rfl; have hfz14_0 := blk_frozen BK441.out 0; have hfz14_1 := blk_frozen BK441.out 1; have hcz15_0 : w12.cell? ⟨gb440, 0, none⟩ = some (.int .i64 a0_0) := (blk_cell BK440.out 0).trans rfl; have hcz15_1 : w12.cell? ⟨gb440, 1, none⟩ = some (.int .i64 a0_1) := (blk_cell BK440.out 1).trans rfl; have hfz15_0 := blk_frozen BK440.out 0; have hfz15_1 := blk_frozen BK440.out 1)); try go_wp2_with (first | ((with_reducible refine gate_dst (N := 2) rfl ?_); refine box_event ?hg (N := 2) ?hd (cs := #[.int .i64 a0_0, .int .i64 a0_1]) (t := 23) ?hr ?_; (case hd => rfl); (case hg => rfl); (case hr => first | (go_simp; done) | (go_simp; rfl)); intro gb440 hg w11 hbox hb; have n0_ := Aside0.mk (below_step (bw HB.out) hb); have n1_ := Aside0.mk (hbox); have n2_ := Aside0.mk ((by rw [hg]; exact (below_size (bw HB.out)) : w.heap.size ≤ gb440)); have n3_ := Aside0.mk ((by rw [hg]; exact (below_size (bw HB.out)) : w.heap.size ≤ gb440)); clear HB; have HB := n0_; have BK440 := n1_; have GW440 := n2_; have GE440 := n3_; clear n0_ n1_ n2_ n3_; clear hb hbox hg) | ((with_reducible refine gate_dst (N := 3) rfl ?_); refine box_event ?hg (N := 3) ?hd (cs := #[.int .i64 a1_0, .int .i64 a1_1]) (t := 23) ?hr ?_; (case hd => rfl); (case hg => rfl); (case hr => first | (go_simp; done) | (go_simp; rfl)); intro gb441 hg w12 hbox hb; have n0_ := Aside0.mk (blk_below (g := gb440) (o := .cells #[.int .i64 a0_0, .int .i64 a0_1] 23 (0, 0)) (bk BK440.out) hb); have n1_ := Aside0.mk (below_step (by repeat (first | (with_reducible first | exact HB.out | apply below_alloc | apply pw_below_drewN | apply below_drew1 | refine below_set ?_ GE440.out) | exact HB.out)) hb); have n2_ := Aside0.mk (hbox); have n3_ := Aside0.mk ((by rw [hg]; exact (below_size (by repeat (first | (with_reducible first | exact HB.out | apply below_alloc | apply pw_below_drewN | apply below_drew1 | refine below_set ?_ GE440.out) | exact HB.out))) : w.heap.size ≤ gb441)); have n4_ := Aside0.mk ((by rw [hg]; exact (below_size (by repeat (first | (with_reducible first | exact HB.out | apply below_alloc | apply pw_below_drewN | apply below_drew1 | refine below_set ?_ GE440.out) | exact HB.out))) : w.heap.size ≤ gb441)); have n5_ := Aside0.mk ((by rw [hg]; exact Nat.ne_of_lt (blk_lt (g := gb440) (o := .cells #[.int .i64 a0_0, .int .i64 a0_1] 23 (0, 0)) (bk BK440.out)) : gb440 ≠ gb441)); have n6_ := Aside0.mk ((by rw [hg]; exact Nat.ne_of_gt (blk_lt (g := gb440) (o := .cells #[.int .i64 a0_0, .int .i64 a0_1] 23 (0, 0)) (bk BK440.out)) : gb441 ≠ gb440)); clear BK440; clear HB; have BK440 := n0_; have HB := n1_; have BK441 := n2_; have GW441 := n3_; have GE441 := n4_; have NB440_441 := n5_; have NB441_440 := n6_; clear n0_ n1_ n2_ n3_ n4_ n5_ n6_; clear hb hbox hg; have hnb13 := NB441_440.out; have hnc13 := NB440_441.out; have hcz14_0 : w12.cell? ⟨gb441, 0, none⟩ = some (.int .i64 a1_0) := (blk_cell BK441.out 0).trans rfl; have hcz14_1 : w12.cell? ⟨gb441, 1, none⟩ = some (.int .i64 a1_1) := (blk_cell BK441.out 1).trans rfl; have hfz14_0 := blk_frozen BK441.out 0; have hfz14_1 := blk_frozen BK441.out 1; have hcz15_0 : w12.cell? ⟨gb440, 0, none⟩ = some (.int .i64 a0_0) := (blk_cell BK440.out 0).trans rfl; have hcz15_1 : w12.cell? ⟨gb440, 1, none⟩ = some (.int .i64 a0_1) := (blk_cell BK440.out 1).trans rfl; have hfz15_0 := blk_frozen BK440.out 0; have hfz15_1 := blk_frozen BK440.out 1)))
    go_ret
    exact ⟨by first | rfl | (simp [errW_none, errW_some] <;> rfl) | (simp [*, errW_none, errW_some] <;> rfl), by repeat (first | (with_reducible first | exact HB.out | apply below_alloc | apply pw_below_drewN | apply below_drew1 | refine below_set ?_ GE440.out | refine below_set ?_ GE441.out) | exact HB.out)⟩
  ·rw [if_neg c4] at H
   have c4b0 : decide ((wrap64 (a1_0 - a0_0)) < 8192) = false := decide_eq_false c4
   clear c4
   obtain rfl := Option.some.inj H
   go_enter Try.func32, Try.ntmps32
   go_wp2_with (first | ((with_reducible refine gate_dst (N := 2) rfl ?_); refine box_event ?hg (N := 2) ?hd (cs := #[.int .i64 a0_0, .int .i64 a0_1]) (t := 23) ?hr ?_; (case hd => rfl); (case hg => rfl); (case hr => first | (go_simp; done) | (go_simp; rfl)); intro gb440 hg w16 hbox hb; have n0_ := Aside0.mk (below_step (bw HB.out) hb); have n1_ := Aside0.mk (hbox); have n2_ := Aside0.mk ((by rw [hg]; exact (below_size (bw HB.out)) : w.heap.size ≤ gb440)); have n3_ := Aside0.mk ((by rw [hg]; exact (below_size (bw HB.out)) : w.heap.size ≤ gb440)); clear HB; have HB := n0_; have BK440 := n1_; have GW440 := n2_; have GE440 := n3_; clear n0_ n1_ n2_ n3_; clear hb hbox hg) | ((with_reducible refine gate_dst (N := 3) rfl ?_); refine box_event ?hg (N := 3) ?hd (cs := #[.int .i64 a1_0, .int .i64 a1_1]) (t := 23) ?hr ?_; (case hd => rfl); (case hg => rfl); (case hr => first | (go_simp; done) | (go_simp; rfl)); intro gb441 hg w17 hbox hb; have n0_ := Aside0.mk (blk_below (g := gb440) (o := .cells #[.int .i64 a0_0, .int .i64 a0_1] 23 (0, 0)) (bk BK440.out) hb); have n1_ := Aside0.mk (below_step (by repeat (first | (with_reducible first | exact HB.out | apply below_alloc | apply pw_below_drewN | apply below_drew1 | refine below_set ?_ GE440.out) | exact HB.out)) hb); have n2_ := Aside0.mk (hbox); have n3_ := Aside0.mk ((by rw [hg]; exact (below_size (by repeat (first | (with_reducible first | exact HB.out | apply below_alloc | apply pw_below_drewN | apply below_drew1 | refine below_set ?_ GE440.out) | exact HB.out))) : w.heap.size ≤ gb441)); have n4_ := Aside0.mk ((by rw [hg]; exact (below_size (by repeat (first | (with_reducible first | exact HB.out | apply below_alloc | apply pw_below_drewN | apply below_drew1 | refine below_set ?_ GE440.out) | exact HB.out))) : w.heap.size ≤ gb441)); have n5_ := Aside0.mk ((by rw [hg]; exact Nat.ne_of_lt (blk_lt (g := gb440) (o := .cells #[.int .i64 a0_0, .int .i64 a0_1] 23 (0, 0)) (bk BK440.out)) : gb440 ≠ gb441)); have n6_ := Aside0.mk ((by rw [hg]; exact Nat.ne_of_gt (blk_lt (g := gb440) (o := .cells #[.int .i64 a0_0, .int .i64 a0_1] 23 (0, 0)) (bk BK440.out)) : gb441 ≠ gb440)); clear BK440; clear HB; have BK440 := n0_; have HB := n1_; have BK441 := n2_; have GW441 := n3_; have GE441 := n4_; have NB440_441 := n5_; have NB441_440 := n6_; clear n0_ n1_ n2_ n3_ n4_ n5_ n6_; clear hb hbox hg; have hnb18 := NB441_440.out; have hnc18 := NB440_441.out; have hcz19_0 : w17.cell? ⟨gb441, 0, none⟩ = some (.int .i64 a1_0) := (blk_cell BK441.out 0).trans rfl; have hcz19_1 : w17.cell? ⟨gb441, 1, none⟩ = some (.int .i64 a1_1) := (blk_cell BK441.out 1).trans rfl; have hfz19_0 := blk_frozen BK441.out 0; have hfz19_1 := blk_frozen BK441.out 1; have hcz20_0 : w17.cell? ⟨gb440, 0, none⟩ = some (.int .i64 a0_0) := (blk_cell BK440.out 0).trans rfl; have hcz20_1 : w17.cell? ⟨gb440, 1, none⟩ = some (.int .i64 a0_1) := (blk_cell BK440.out 1).trans rfl; have hfz20_0 := blk_frozen BK440.out 0; have hfz20_1 := blk_frozen BK440.out 1))
   repeat (go_quiet (first | ((with_reducible refine gate_dst (N := 2) rfl ?_); refine box_event ?hg (N := 2) ?hd (cs := #[.int .i64 a0_0, .int .i64 a0_1]) (t := 23) ?hr ?_; (case hd => rfl); (case hg => rfl); (case hr => first | (go_simp; done) | (go_simp; rfl)); intro gb440 hg w16 hbox hb; have n0_ := Aside0.mk (below_step (bw HB.out) hb); have n1_ := Aside0.mk (hbox); have n2_ := Aside0.mk ((by rw [hg]; exact (below_size (bw HB.out)) : w.heap.size ≤ gb440)); have n3_ := Aside0.mk ((by rw [hg]; exact (below_size (bw HB.out)) : w.heap.size ≤ gb440)); clear HB; have HB := n0_; have BK440 := n1_; have GW440 := n2_; have GE440 := n3_; clear n0_ n1_ n2_ n3_; clear hb hbox hg) | ((with_reducible refine gate_dst (N := 3) rfl ?_); refine box_event ?hg (N := 3) ?hd (cs := #[.int .i64 a1_0, .int .i64 a1_1]) (t := 23) ?hr ?_; (case hd => rfl); (case hg => rfl); (case hr => first | (go_simp; done) | (go_simp; rfl)); intro gb441 hg w17 hbox hb; have n0_ := Aside0.mk (blk_below (g := gb440) (o := .cells #[.int .i64 a0_0, .int .i64 a0_1] 23 (0, 0)) (bk BK440.out) hb); have n1_ := Aside0.mk (below_step (by repeat (first | (with_reducible first | exact HB.out | apply below_alloc | apply pw_below_drewN | apply below_drew1 | refine below_set ?_ GE440.out) | exact HB.out)) hb); have n2_ := Aside0.mk (hbox); have n3_ := Aside0.mk ((by rw [hg]; exact (below_size (by repeat (first | (with_reducible first | exact HB.out | apply below_alloc | apply pw_below_drewN | apply below_drew1 | refine below_set ?_ GE440.out) | exact HB.out))) : w.heap.size ≤ gb441)); have n4_ := Aside0.mk ((by rw [hg]; exact (below_size (by repeat (first | (with_reducible first | exact HB.out | apply below_alloc | apply pw_below_drewN | apply below_drew1 | refine below_set ?_ GE440.out) | exact HB.out))) : w.heap.size ≤ gb441)); have n5_ := Aside0.mk ((by rw [hg]; exact Nat.ne_of_lt (blk_lt (g := gb440) (o := .cells #[.int .i64 a0_0, .int .i64 a0_1] 23 (0, 0)) (bk BK440.out)) : gb440 ≠ gb441)); have n6_ := Aside0.mk ((by rw [hg]; exact Nat.ne_of_gt (blk_lt (g := gb440) (o := .cells #[.int .i64 a0_0, .int .i64 a0_1] 23 (0, 0)) (bk BK440.out)) : gb441 ≠ gb440)); clear BK440; clear HB; have BK440 := n0_; have HB := n1_; have BK441 := n2_; have GW441 := n3_; have GE441 := n4_; have NB440_441 := n5_; have NB441_440 := n6_; clear n0_ n1_ n2_ n3_ n4_ n5_ n6_; clear hb hbox hg; have hnb18 := NB441_440.out; have hnc18 := NB440_441.out; have hcz19_0 : w17.cell? ⟨gb441, 0, none⟩ = some (.int .i64 a1_0) := (blk_cell BK441.out 0).trans rfl; have hcz19_1 : w17.cell? ⟨gb441, 1, none⟩ = some (.int .i64 a1_1) := (blk_cell BK441.out 1).trans rfl; have hfz19_0 := blk_frozen BK441.out 0; have hfz19_1 := blk_frozen BK441.out 1; have hcz20_0 : w17.cell? ⟨gb440, 0, none⟩ = some (.int .i64 a0_0) := (blk_cell BK440.out 0).trans rfl; have hcz20_1 : w17.cell? ⟨gb440, 1, none⟩ = some (.int .i64 a0_1) := (blk_cell BK440.out 1).trans rfl; have hfz20_0 := blk_frozen BK440.out 0; have hfz20_1 := blk_frozen BK440.out 1)); try go_wp2_with (first | ((with_reducible refine gate_dst (N := 2) rfl ?_); refine box_event ?hg (N := 2) ?hd (cs := #[.int .i64 a0_0, .int .i64 a0_1]) (t := 23) ?hr ?_; (case hd => rfl); (case hg => rfl); (case hr => first | (go_simp; done) | (go_simp; rfl)); intro gb440 hg w16 hbox hb; have n0_ := Aside0.mk (below_step (bw HB.out) hb); have n1_ := Aside0.mk (hbox); have n2_ := Aside0.mk ((by rw [hg]; exact (below_size (bw HB.out)) : w.heap.size ≤ gb440)); have n3_ := Aside0.mk ((by rw [hg]; exact (below_size (bw HB.out)) : w.heap.size ≤ gb440)); clear HB; have HB := n0_; have BK440 := n1_; have GW440 := n2_; have GE440 := n3_; clear n0_ n1_ n2_ n3_; clear hb hbox hg) | ((with_reducible refine gate_dst (N := 3) rfl ?_); refine box_event ?hg (N := 3) ?hd (cs := #[.int .i64 a1_0, .int .i64 a1_1]) (t := 23) ?hr ?_; (case hd => rfl); (case hg => rfl); (case hr => first | (go_simp; done) | (go_simp; rfl)); intro gb441 hg w17 hbox hb; have n0_ := Aside0.mk (blk_below (g := gb440) (o := .cells #[.int .i64 a0_0, .int .i64 a0_1] 23 (0, 0)) (bk BK440.out) hb); have n1_ := Aside0.mk (below_step (by repeat (first | (with_reducible first | exact HB.out | apply below_alloc | apply pw_below_drewN | apply below_drew1 | refine below_set ?_ GE440.out) | exact HB.out)) hb); have n2_ := Aside0.mk (hbox); have n3_ := Aside0.mk ((by rw [hg]; exact (below_size (by repeat (first | (with_reducible first | exact HB.out | apply below_alloc | apply pw_below_drewN | apply below_drew1 | refine below_set ?_ GE440.out) | exact HB.out))) : w.heap.size ≤ gb441)); have n4_ := Aside0.mk ((by rw [hg]; exact (below_size (by repeat (first | (with_reducible first | exact HB.out | apply below_alloc | apply pw_below_drewN | apply below_drew1 | refine below_set ?_ GE440.out) | exact HB.out))) : w.heap.size ≤ gb441)); have n5_ := Aside0.mk ((by rw [hg]; exact Nat.ne_of_lt (blk_lt (g := gb440) (o := .cells #[.int .i64 a0_0, .int .i64 a0_1] 23 (0, 0)) (bk BK440.out)) : gb440 ≠ gb441)); have n6_ := Aside0.mk ((by rw [hg]; exact Nat.ne_of_gt (blk_lt (g := gb440) (o := .cells #[.int .i64 a0_0, .int .i64 a0_1] 23 (0, 0)) (bk BK440.out)) : gb441 ≠ gb440)); clear BK440; clear HB; have BK440 := n0_; have HB := n1_; have BK441 := n2_; have GW441 := n3_; have GE441 := n4_; have NB440_441 := n5_; have NB441_440 := n6_; clear n0_ n1_ n2_ n3_ n4_ n5_ n6_; clear hb hbox hg; have hnb18 := NB441_440.out; have hnc18 := NB440_441.out; have hcz19_0 : w17.cell? ⟨gb441, 0, none⟩ = some (.int .i64 a1_0) := (blk_cell BK441.out 0).trans rfl; have hcz19_1 : w17.cell? ⟨gb441, 1, none⟩ = some (.int .i64 a1_1) := (blk_cell BK441.out 1).trans rfl; have hfz19_0 := blk_frozen BK441.out 0; have hfz19_1 := blk_frozen BK441.out 1; have hcz20_0 : w17.cell? ⟨gb440, 0, none⟩ = some (.int .i64 a0_0) := (blk_cell BK440.out 0).trans rfl; have hcz20_1 : w17.cell? ⟨gb440, 1, none⟩ = some (.int .i64 a0_1) := (blk_cell BK440.out 1).trans rfl; have hfz20_0 := blk_frozen BK440.out 0; have hfz20_1 := blk_frozen BK440.out 1)))
   go_ret
   exact ⟨by first | rfl | (simp [errW_none, errW_some] <;> rfl) | (simp [*, errW_none, errW_some] <;> rfl), by repeat (first | (with_reducible first | exact HB.out | apply below_alloc | apply pw_below_drewN | apply below_drew1 | refine below_set ?_ GE440.out | refine below_set ?_ GE441.out) | exact HB.out)⟩
 ·rw [if_neg c3] at H
  have c3b0 : decide ((-8192) < (wrap64 (a1_0 - a0_0))) = false := decide_eq_false c3
  clear c3
  obtain rfl := Option.some.inj H
  go_enter Try.func32, Try.ntmps32
  go_wp2_with (first | ((with_reducible refine gate_dst (N := 2) rfl ?_); refine box_event ?hg (N := 2) ?hd (cs := #[.int .i64 a0_0, .int .i64 a0_1]) (t := 23) ?hr ?_; (case hd => rfl); (case hg => rfl); (case hr => first | (go_simp; done) | (go_simp; rfl)); intro gb440 hg w21 hbox hb; have n0_ := Aside0.mk (below_step (bw HB.out) hb); have n1_ := Aside0.mk (hbox); have n2_ := Aside0.mk ((by rw [hg]; exact (below_size (bw HB.out)) : w.heap.size ≤ gb440)); have n3_ := Aside0.mk ((by rw [hg]; exact (below_size (bw HB.out)) : w.heap.size ≤ gb440)); clear HB; have HB := n0_; have BK440 := n1_; have GW440 := n2_; have GE440 := n3_; clear n0_ n1_ n2_ n3_; clear hb hbox hg) | ((with_reducible refine gate_dst (N := 3) rfl ?_); refine box_event ?hg (N := 3) ?hd (cs := #[.int .i64 a1_0, .int .i64 a1_1]) (t := 23) ?hr ?_; (case hd => rfl); (case hg => rfl); (case hr => first | (go_simp; done) | (go_simp; rfl)); intro gb441 hg w22 hbox hb; have n0_ := Aside0.mk (blk_below (g := gb440) (o := .cells #[.int .i64 a0_0, .int .i64 a0_1] 23 (0, 0)) (bk BK440.out) hb); have n1_ := Aside0.mk (below_step (by repeat (first | (with_reducible first | exact HB.out | apply below_alloc | apply pw_below_drewN | apply below_drew1 | refine below_set ?_ GE440.out) | exact HB.out)) hb); have n2_ := Aside0.mk (hbox); have n3_ := Aside0.mk ((by rw [hg]; exact (below_size (by repeat (first | (with_reducible first | exact HB.out | apply below_alloc | apply pw_below_drewN | apply below_drew1 | refine below_set ?_ GE440.out) | exact HB.out))) : w.heap.size ≤ gb441)); have n4_ := Aside0.mk ((by rw [hg]; exact (below_size (by repeat (first | (with_reducible first | exact HB.out | apply below_alloc | apply pw_below_drewN | apply below_drew1 | refine below_set ?_ GE440.out) | exact HB.out))) : w.heap.size ≤ gb441)); have n5_ := Aside0.mk ((by rw [hg]; exact Nat.ne_of_lt (blk_lt (g := gb440) (o := .cells #[.int .i64 a0_0, .int .i64 a0_1] 23 (0, 0)) (bk BK440.out)) : gb440 ≠ gb441)); have n6_ := Aside0.mk ((by rw [hg]; exact Nat.ne_of_gt (blk_lt (g := gb440) (o := .cells #[.int .i64 a0_0, .int .i64 a0_1] 23 (0, 0)) (bk BK440.out)) : gb441 ≠ gb440)); clear BK440; clear HB; have BK440 := n0_; have HB := n1_; have BK441 := n2_; have GW441 := n3_; have GE441 := n4_; have NB440_441 := n5_; have NB441_440 := n6_; clear n0_ n1_ n2_ n3_ n4_ n5_ n6_; clear hb hbox hg; have hnb23 := NB441_440.out; have hnc23 := NB440_441.out; have hcz24_0 : w22.cell? ⟨gb441, 0, none⟩ = some (.int .i64 a1_0) := (blk_cell BK441.out 0).trans rfl; have hcz24_1 : w22.cell? ⟨gb441, 1, none⟩ = some (.int .i64 a1_1) := (blk_cell BK441.out 1).trans rfl; have hfz24_0 := blk_frozen BK441.out 0; have hfz24_1 := blk_frozen BK441.out 1; have hcz25_0 : w22.cell? ⟨gb440, 0, none⟩ = some (.int .i64 a0_0) := (blk_cell BK440.out 0).trans rfl; have hcz25_1 : w22.cell? ⟨gb440, 1, none⟩ = some (.int .i64 a0_1) := (blk_cell BK440.out 1).trans rfl; have hfz25_0 := blk_frozen BK440.out 0; have hfz25_1 := blk_frozen BK440.out 1))
  repeat (go_quiet (first | ((with_reducible refine gate_dst (N := 2) rfl ?_); refine box_event ?hg (N := 2) ?hd (cs := #[.int .i64 a0_0, .int .i64 a0_1]) (t := 23) ?hr ?_; (case hd => rfl); (case hg => rfl); (case hr => first | (go_simp; done) | (go_simp; rfl)); intro gb440 hg w21 hbox hb; have n0_ := Aside0.mk (below_step (bw HB.out) hb); have n1_ := Aside0.mk (hbox); have n2_ := Aside0.mk ((by rw [hg]; exact (below_size (bw HB.out)) : w.heap.size ≤ gb440)); have n3_ := Aside0.mk ((by rw [hg]; exact (below_size (bw HB.out)) : w.heap.size ≤ gb440)); clear HB; have HB := n0_; have BK440 := n1_; have GW440 := n2_; have GE440 := n3_; clear n0_ n1_ n2_ n3_; clear hb hbox hg) | ((with_reducible refine gate_dst (N := 3) rfl ?_); refine box_event ?hg (N := 3) ?hd (cs := #[.int .i64 a1_0, .int .i64 a1_1]) (t := 23) ?hr ?_; (case hd => rfl); (case hg => rfl); (case hr => first | (go_simp; done) | (go_simp; rfl)); intro gb441 hg w22 hbox hb; have n0_ := Aside0.mk (blk_below (g := gb440) (o := .cells #[.int .i64 a0_0, .int .i64 a0_1] 23 (0, 0)) (bk BK440.out) hb); have n1_ := Aside0.mk (below_step (by repeat (first | (with_reducible first | exact HB.out | apply below_alloc | apply pw_below_drewN | apply below_drew1 | refine below_set ?_ GE440.out) | exact HB.out)) hb); have n2_ := Aside0.mk (hbox); have n3_ := Aside0.mk ((by rw [hg]; exact (below_size (by repeat (first | (with_reducible first | exact HB.out | apply below_alloc | apply pw_below_drewN | apply below_drew1 | refine below_set ?_ GE440.out) | exact HB.out))) : w.heap.size ≤ gb441)); have n4_ := Aside0.mk ((by rw [hg]; exact (below_size (by repeat (first | (with_reducible first | exact HB.out | apply below_alloc | apply pw_below_drewN | apply below_drew1 | refine below_set ?_ GE440.out) | exact HB.out))) : w.heap.size ≤ gb441)); have n5_ := Aside0.mk ((by rw [hg]; exact Nat.ne_of_lt (blk_lt (g := gb440) (o := .cells #[.int .i64 a0_0, .int .i64 a0_1] 23 (0, 0)) (bk BK440.out)) : gb440 ≠ gb441)); have n6_ := Aside0.mk ((by rw [hg]; exact Nat.ne_of_gt (blk_lt (g := gb440) (o := .cells #[.int .i64 a0_0, .int .i64 a0_1] 23 (0, 0)) (bk BK440.out)) : gb441 ≠ gb440)); clear BK440; clear HB; have BK440 := n0_; have HB := n1_; have BK441 := n2_; have GW441 := n3_; have GE441 := n4_; have NB440_441 := n5_; have NB441_440 := n6_; clear n0_ n1_ n2_ n3_ n4_ n5_ n6_; clear hb hbox hg; have hnb23 := NB441_440.out; have hnc23 := NB440_441.out; have hcz24_0 : w22.cell? ⟨gb441, 0, none⟩ = some (.int .i64 a1_0) := (blk_cell BK441.out 0).trans rfl; have hcz24_1 : w22.cell? ⟨gb441, 1, none⟩ = some (.int .i64 a1_1) := (blk_cell BK441.out 1).trans rfl; have hfz24_0 := blk_frozen BK441.out 0; have hfz24_1 := blk_frozen BK441.out 1; have hcz25_0 : w22.cell? ⟨gb440, 0, none⟩ = some (.int .i64 a0_0) := (blk_cell BK440.out 0).trans rfl; have hcz25_1 : w22.cell? ⟨gb440, 1, none⟩ = some (.int .i64 a0_1) := (blk_cell BK440.out 1).trans rfl; have hfz25_0 := blk_frozen BK440.out 0; have hfz25_1 := blk_frozen BK440.out 1)); try go_wp2_with (first | ((with_reducible refine gate_dst (N := 2) rfl ?_); refine box_event ?hg (N := 2) ?hd (cs := #[.int .i64 a0_0, .int .i64 a0_1]) (t := 23) ?hr ?_; (case hd => rfl); (case hg => rfl); (case hr => first | (go_simp; done) | (go_simp; rfl)); intro gb440 hg w21 hbox hb; have n0_ := Aside0.mk (below_step (bw HB.out) hb); have n1_ := Aside0.mk (hbox); have n2_ := Aside0.mk ((by rw [hg]; exact (below_size (bw HB.out)) : w.heap.size ≤ gb440)); have n3_ := Aside0.mk ((by rw [hg]; exact (below_size (bw HB.out)) : w.heap.size ≤ gb440)); clear HB; have HB := n0_; have BK440 := n1_; have GW440 := n2_; have GE440 := n3_; clear n0_ n1_ n2_ n3_; clear hb hbox hg) | ((with_reducible refine gate_dst (N := 3) rfl ?_); refine box_event ?hg (N := 3) ?hd (cs := #[.int .i64 a1_0, .int .i64 a1_1]) (t := 23) ?hr ?_; (case hd => rfl); (case hg => rfl); (case hr => first | (go_simp; done) | (go_simp; rfl)); intro gb441 hg w22 hbox hb; have n0_ := Aside0.mk (blk_below (g := gb440) (o := .cells #[.int .i64 a0_0, .int .i64 a0_1] 23 (0, 0)) (bk BK440.out) hb); have n1_ := Aside0.mk (below_step (by repeat (first | (with_reducible first | exact HB.out | apply below_alloc | apply pw_below_drewN | apply below_drew1 | refine below_set ?_ GE440.out) | exact HB.out)) hb); have n2_ := Aside0.mk (hbox); have n3_ := Aside0.mk ((by rw [hg]; exact (below_size (by repeat (first | (with_reducible first | exact HB.out | apply below_alloc | apply pw_below_drewN | apply below_drew1 | refine below_set ?_ GE440.out) | exact HB.out))) : w.heap.size ≤ gb441)); have n4_ := Aside0.mk ((by rw [hg]; exact (below_size (by repeat (first | (with_reducible first | exact HB.out | apply below_alloc | apply pw_below_drewN | apply below_drew1 | refine below_set ?_ GE440.out) | exact HB.out))) : w.heap.size ≤ gb441)); have n5_ := Aside0.mk ((by rw [hg]; exact Nat.ne_of_lt (blk_lt (g := gb440) (o := .cells #[.int .i64 a0_0, .int .i64 a0_1] 23 (0, 0)) (bk BK440.out)) : gb440 ≠ gb441)); have n6_ := Aside0.mk ((by rw [hg]; exact Nat.ne_of_gt (blk_lt (g := gb440) (o := .cells #[.int .i64 a0_0, .int .i64 a0_1] 23 (0, 0)) (bk BK440.out)) : gb441 ≠ gb440)); clear BK440; clear HB; have BK440 := n0_; have HB := n1_; have BK441 := n2_; have GW441 := n3_; have GE441 := n4_; have NB440_441 := n5_; have NB441_440 := n6_; clear n0_ n1_ n2_ n3_ n4_ n5_ n6_; clear hb hbox hg; have hnb23 := NB441_440.out; have hnc23 := NB440_441.out; have hcz24_0 : w22.cell? ⟨gb441, 0, none⟩ = some (.int .i64 a1_0) := (blk_cell BK441.out 0).trans rfl; have hcz24_1 : w22.cell? ⟨gb441, 1, none⟩ = some (.int .i64 a1_1) := (blk_cell BK441.out 1).trans rfl; have hfz24_0 := blk_frozen BK441.out 0; have hfz24_1 := blk_frozen BK441.out 1; have hcz25_0 : w22.cell? ⟨gb440, 0, none⟩ = some (.int .i64 a0_0) := (blk_cell BK440.out 0).trans rfl; have hcz25_1 : w22.cell? ⟨gb440, 1, none⟩ = some (.int .i64 a0_1) := (blk_cell BK440.out 1).trans rfl; have hfz25_0 := blk_frozen BK440.out 0; have hfz25_1 := blk_frozen BK440.out 1)))
  go_ret
  exact ⟨by first | rfl | (simp [errW_none, errW_some] <;> rfl) | (simp [*, errW_none, errW_some] <;> rfl), by repeat (first | (with_reducible first | exact HB.out | apply below_alloc | apply pw_below_drewN | apply below_drew1 | refine below_set ?_ GE440.out | refine below_set ?_ GE441.out) | exact HB.out)⟩
end Go.Proofs.Ytmeckkckjikjiaa.F
end
section
namespace Go.Proofs.Ytmeckkckjikjiaa.F
open Go.RowKit Go.Proofs.YtmeckkckjikjiaaW.PrintWords Go.Proofs.YtmeckkckjikjiaaW.PrintLast Go.Proofs.YtmeckkckjikjiaaW.PrintMore
attribute [local go_sem] max2_int min2_int max_two min_two max_three min_three max_four min_four
set_option linter.unusedVariables false
set_option linter.unusedSimpArgs false
def zelligeref07_sign.f (a0 : Int) : Option (Int) := if a0 < 0 then (some (-1)) else (if a0 > 0 then (some 1) else (some 0))
set_option maxHeartbeats 8000000 in
set_option maxRecDepth 100000 in
theorem zelligeref07_sign.calls (a0 : Int) (r : Int) (w : World) (h : zelligeref07_sign.f a0 = some r) :
  Calls Try.prog 42 #[.int .i64 a0] w fun e w' => e = .returned (.int .i64 r) ∧ Drawn0 w w' := by
 have H : (if a0 < 0 then (some (-1)) else (if a0 > 0 then (some 1) else (some 0))) = some r := h
 clear h
 by_cases c2 : a0 < 0
 ·rw [if_pos c2] at H
  have c2b0 : decide (a0 < 0) = true := decide_eq_true c2
  clear c2
  obtain rfl := Option.some.inj H
  go_enter Try.func42, Try.ntmps42
  go_wp2
  go_ret
  exact ⟨by first | rfl | (simp; done) | (simp [*]; done), by repeat (first | exact Drawn0.refl _ | apply Drawn0.step)⟩
 ·rw [if_neg c2] at H
  have c2b0 : decide (a0 < 0) = false := decide_eq_false c2
  clear c2
  by_cases c3 : a0 > 0
  ·rw [if_pos c3] at H
   have c3b0 : decide (0 < a0) = true := decide_eq_true c3
   clear c3
   obtain rfl := Option.some.inj H
   go_enter Try.func42, Try.ntmps42
   go_wp2
   go_ret
   exact ⟨by first | rfl | (simp; done) | (simp [*]; done), by repeat (first | exact Drawn0.refl _ | apply Drawn0.step)⟩
  ·rw [if_neg c3] at H
   have c3b0 : decide (0 < a0) = false := decide_eq_false c3
   clear c3
   obtain rfl := Option.some.inj H
   go_enter Try.func42, Try.ntmps42
   go_wp2
   go_ret
   exact ⟨by first | rfl | (simp; done) | (simp [*]; done), by repeat (first | exact Drawn0.refl _ | apply Drawn0.step)⟩
end Go.Proofs.Ytmeckkckjikjiaa.F
end
section
namespace Go.Proofs.Ytmeckkckjikjiaa.F
open Go.RowKit Go.Proofs.YtmeckkckjikjiaaW.PrintWords Go.Proofs.YtmeckkckjikjiaaW.PrintLast Go.Proofs.YtmeckkckjikjiaaW.PrintMore
attribute [local go_sem] max2_int min2_int max_two min_two max_three min_three max_four min_four
set_option linter.unusedVariables false
set_option linter.unusedSimpArgs false
def zelligeref07_diff.f (k : Nat) (a0 : Int) (a1 : Int) : Option (Int × List Int) := (zelligeref04_Long.f k a1).bind fun bt382 => ((zelligeref04_Long.f k a0).bind fun bt386 => ((zelligeref04_Sub.f k bt382.1 bt382.2 bt386.1 bt386.2).bind fun bt390 => (some (bt390.1, bt390.2))))
theorem zelligeref07_diff.mono : ∀ a0 a1 k, LeO (zelligeref07_diff.f k a0 a1) (zelligeref07_diff.f (k + 1) a0 a1) := by
 intro a0 a1 k
 unfold zelligeref07_diff.f
 repeat' first
   | (with_reducible exact zelligeref04_Long.mono _ _)
   | (with_reducible exact zelligeref04_Sub.mono _ _ _ _ _)
   | (with_reducible exact LeO.refl _)
   | (with_reducible exact LeO.none _)
   | (with_reducible refine LeO.ite ?_ ?_)
   | (with_reducible refine LeO.bind ?_ (fun _ => ?_))
   | exact zelligeref04_Long.mono _ _
   | exact zelligeref04_Sub.mono _ _ _ _ _
   | exact LeO.none _
   | refine LeO.ite ?_ ?_
   | refine LeO.bind ?_ (fun _ => ?_)
set_option maxHeartbeats 8000000 in
set_option maxRecDepth 100000 in
theorem zelligeref07_diff.calls (k : Nat) (a0 : Int) (a1 : Int) (r1 : Int) (r2 : List Int) (w : World) (h : zelligeref07_diff.f k a0 a1 = some (r1, r2)) :
  Calls Try.prog 34 #[.int .i64 a0, .int .i64 a1] w fun e w' => ∃ v1_ : Value, e = .returned (.agg #[.int .i64 r1, v1_]) ∧ Kd.R (Kd.int .i64) 3 w' w.heap.size (fun _ => True) v1_ r2 ∧ Below w.heap.size w w' := by
 have hu33 := Try.underlying33
 have HB := Aside0.mk (Below.refl w.heap.size w)
 have H : ((zelligeref04_Long.f k a1).bind fun bt382 => ((zelligeref04_Long.f k a0).bind fun bt386 => ((zelligeref04_Sub.f k bt382.1 bt382.2 bt386.1 bt386.2).bind fun bt390 => (some (bt390.1, bt390.2))))) = some (r1, r2) := h
 clear h
 replace H := Option.bind_eq_some_iff.mp H
 obtain ⟨⟨t382, t383⟩, A30, H⟩ := H
 replace H : ((zelligeref04_Long.f k a0).bind fun bt386 => ((zelligeref04_Sub.f k t382 t383 bt386.1 bt386.2).bind fun bt390 => (some (bt390.1, bt390.2)))) = some (r1, r2) := H
 have A3 := Aside0.mk A30
 clear A30
 replace H := Option.bind_eq_some_iff.mp H
 obtain ⟨⟨t386, t387⟩, A40, H⟩ := H
 replace H : ((zelligeref04_Sub.f k t382 t383 t386 t387).bind fun bt390 => (some (bt390.1, bt390.2))) = some (r1, r2) := H
 have A4 := Aside0.mk A40
 clear A40
 replace H := Option.bind_eq_some_iff.mp H
 obtain ⟨⟨t390, t391⟩, A50, H⟩ := H
 replace H : (some (t390, t391)) = some (r1, r2) := H
 have A5 := Aside0.mk A50
 clear A50
 simp only [Option.some.injEq, Prod.mk.injEq] at H
 obtain ⟨rfl, rfl⟩ := H
 go_enter Try.func34, Try.ntmps34
 go_wp2_with (first | ((with_reducible refine gate_dst (N := 4) rfl ?_); refine box_event ?hg (N := 4) ?hd (cs := #[.int .i64 0, .slice none 0 0]) (t := 33) ?hr ?_; (case hd => rfl); (case hg => rfl); (case hr => first | (go_simp; done) | (go_simp; rfl)); intro gb381 hg w6 hbox hb; have n0_ := Aside0.mk (below_step (bw HB.out) hb); have n1_ := Aside0.mk (hbox); have n2_ := Aside0.mk ((by rw [hg]; exact (below_size (bw HB.out)) : w.heap.size ≤ gb381)); have n3_ := Aside0.mk ((by rw [hg]; exact (below_size (bw HB.out)) : w.heap.size ≤ gb381)); clear HB; have HB := n0_; have BK381 := n1_; have GW381 := n2_; have GE381 := n3_; clear n0_ n1_ n2_ n3_; clear hb hbox hg) | ((with_reducible refine gate_callee (f := 31) rfl ?_); refine goesL_ (some 6) rfl rfl Try.func31 (by kernel_rfl) rfl #[.int .i64 a1] rfl (by (try simp only [List.map_toArray, List.map_cons, List.map_nil]); first | done | rfl | (simp only [List.length_drop, List.length_take]; rfl)) ?_; (with_reducible refine (zelligeref04_Long.calls k a1 t382 t383 _ A3.out).mono ?_); rintro e w7 ⟨v384, rfl, ho0, hb⟩; refine ⟨_, rfl, ?_⟩; have n0_ := Aside0.mk (Kd.R_lower ho0 (below_size (by repeat (first | (with_reducible first | exact HB.out | apply below_alloc | apply pw_below_drewN | apply below_drew1 | refine below_set ?_ GE381.out) | exact HB.out)))); have n1_ := Aside0.mk (blk_below (g := gb381) (o := .cells #[.int .i64 0, .slice none 0 0] 33 (0, 0)) (bk BK381.out) hb); have n2_ := Aside0.mk (below_step (by repeat (first | (with_reducible first | exact HB.out | apply below_alloc | apply pw_below_drewN | apply below_drew1 | refine below_set ?_ GE381.out) | exact HB.out)) hb); clear BK381; clear HB; have HO385 := n0_; have BK381 := n1_; have HB := n2_; clear n0_ n1_ n2_; (try clear hb); (try clear hb2); (try clear hk); (try clear hi); (try clear ho0)) | ((with_reducible refine gate_callee (f := 31) rfl ?_); refine goesL_ (some 8) rfl rfl Try.func31 (by kernel_rfl) rfl #[.int .i64 a0] rfl (by (try simp only [List.map_toArray, List.map_cons, List.map_nil]); first | done | rfl | (simp only [List.length_drop, List.length_take]; rfl)) ?_; (with_reducible refine (zelligeref04_Long.calls k a0 t386 t387 _ A4.out).mono ?_); rintro e w8 ⟨v388, rfl, ho0, hb⟩; refine ⟨_, rfl, ?_⟩; have n0_ := Aside0.mk (Kd.R_elder' (by (with_reducible repeat (first | apply Kd.R_alloc | apply Kd.R_drewN | apply Kd.R_drew)); exact HO385.out) (Kd.R_base ho0) hb); have n1_ := Aside0.mk (Kd.R_lower (Kd.R_new' ho0 (Kd.R_lt (by (with_reducible repeat (first | apply Kd.R_alloc | apply Kd.R_drewN | apply Kd.R_drew)); exact HO385.out))) (below_size (by repeat (first | (with_reducible first | exact HB.out | apply below_alloc | apply pw_below_drewN | apply below_drew1 | refine below_set ?_ GE381.out) | exact HB.out)))); have n2_ := Aside0.mk (blk_below (g := gb381) (o := .cells #[.int .i64 0, .slice none 0 0] 33 (0, 0)) (bk BK381.out) hb); have n3_ := Aside0.mk (below_step (by repeat (first | (with_reducible first | exact HB.out | apply below_alloc | apply pw_below_drewN | apply below_drew1 | refine below_set ?_ GE381.out) | exact HB.out)) hb); clear HO385; clear BK381; clear HB; have HO385 := n0_; have HO389 := n1_; have BK381 := n2_; have HB := n3_; clear n0_ n1_ n2_ n3_; (try clear hb); (try clear hb2); (try clear hk); (try clear hi); (try clear ho0); obtain ⟨Ao9, co9, eo9⟩ := Kd.R_slice HO385.out; subst eo9; obtain ⟨Ao10, co10, eo10⟩ := Kd.R_slice HO389.out; subst eo10) | ((with_reducible refine gate_callee (f := 36) rfl ?_); refine goesL_ (some 9) rfl rfl Try.func36 (by kernel_rfl) rfl #[.agg #[.int .i64 t382, .slice Ao9 t383.length co9], .agg #[.int .i64 t386, .slice Ao10 t387.length co10]] rfl (by (try simp only [List.map_toArray, List.map_cons, List.map_nil]); first | done | rfl | (simp only [List.length_drop, List.length_take]; rfl)) ?_; (with_reducible refine (zelligeref04_Sub.calls k t382 (fun k_ => some k_ = (.slice Ao9 t383.length co9 : Value).ownBlock) (.slice Ao9 t383.length co9) t383 t386 (fun k_ => some k_ = (.slice Ao10 t387.length co10 : Value).ownBlock) (.slice Ao10 t387.length co10) t387 t390 t391 w _ ?side1 ?side2 ?side3 ?side4 ?side5 A5.out).mono ?_); (case side1 => repeat (first | (with_reducible first | exact HB.out | apply below_alloc | apply pw_below_drewN | apply below_drew1 | refine below_set ?_ GE381.out) | exact HB.out)); (case side2 => exact Kd.R_tight rfl HO385.out); (case side3 => exact fun k_ e_ => (HO385.out.1 k_ e_.symm).2); (case side4 => exact Kd.R_tight rfl HO389.out); (case side5 => exact fun k_ e_ => (HO389.out.1 k_ e_.symm).2); rintro e w11 ⟨v392, rfl, ho0, hb, hkp⟩; refine ⟨_, rfl, ?_⟩; have n0_ := Aside0.mk (blk_kept (bk BK381.out) hkp (fun hs_ => Or.elim hs_ (fun e_ => (fun e_ => (Kd.R_ne HO385.out BK381.out (by decide)) e_) e_) (fun e_ => (fun e_ => (Kd.R_ne HO389.out BK381.out (by decide)) e_) e_))); have n1_ := Aside0.mk (Kd.R_mono (ok' := fun k_ => True) ho0 (fun k_ hk_ => trivial)); have n2_ := Aside0.mk (hb); clear BK381; clear HB; clear HO385; clear HO389; have BK381 := n0_; have HO393 := n1_; have HB := n2_; clear n0_ n1_ n2_; (try clear hb); (try clear hkp); (try clear ho0); have hcz12_0 : w11.cell? ⟨gb381, 0, none⟩ = some (.int .i64 0) := (blk_cell BK381.out 0).trans rfl; have hcz12_1 : w11.cell? ⟨gb381, 1, none⟩ = some (.slice none 0 0) := (blk_cell BK381.out 1).trans rfl; have hfz12_0 := blk_frozen BK381.out 0; have hfz12_1 := blk_frozen BK381.out 1; obtain ⟨Ao13, co13, eo13⟩ := Kd.R_slice HO393.out; subst eo13))
 refine bodyPost_ret (results_cell_row rfl _ _ gb381 33 #[.int .i64 t390, .slice Ao13 t391.length co13] (0, 0) _ rfl (by (with_reducible repeat (first | refine blk_drewN ?_ _ | refine blk_drew ?_ | refine blk_alloc ?_ _)); refine blk_put (cs := #[.int .i64 t390, .slice none 0 0]) ?_ 1 _ rfl; (with_reducible repeat (first | refine blk_drewN ?_ _ | refine blk_drew ?_ | refine blk_alloc ?_ _)); refine blk_put (cs := #[.int .i64 0, .slice none 0 0]) ?_ 0 _ rfl; (with_reducible repeat (first | refine blk_drewN ?_ _ | refine blk_drew ?_ | refine blk_alloc ?_ _)); exact BK381.out) Try.underlying33 rfl (by kernel_rfl)) rfl ?_
 exact ⟨_, by first | rfl | (simp [errW_none, errW_some] <;> rfl) | (simp [*, errW_none, errW_some] <;> rfl), by (with_reducible repeat (first | apply Kd.R_alloc | apply Kd.R_drewN | apply Kd.R_drew)); exact Kd.R_mono (Kd.R_far (p := ⟨gb381, 1, none⟩) (Kd.R_far (p := ⟨gb381, 0, none⟩) (Kd.R_types HO393.out BK381.out (by decide)) (fun _ hk => hk.2) (.int .i64 t390)) (fun _ hk => hk.2) (.slice Ao13 t391.length co13)) (fun _ hk => trivial), by repeat (first | (with_reducible first | exact HB.out | apply below_alloc | apply pw_below_drewN | apply below_drew1 | refine below_set ?_ GE381.out) | exact HB.out)⟩
end Go.Proofs.Ytmeckkckjikjiaa.F
end
