/- The reference's whole numbers by what they stand for: a value that stands for a whole number; Neg, Add, Sub, Cmp, Long, In. -/
import Derived.Test.YtgjpemfjccajkaaWholeA
import Derived.Test.YtgjpemfjccajkaaRowKit
import Derived.Outline
namespace Go.Proofs.Ytgjpemfjccajkaa.Whole
open Go Go.RowKit Go.Proofs.YtgjpemfjccajkaaW.PrintWords Go.Proofs.YtgjpemfjccajkaaW.PrintLast Go.Proofs.YtgjpemfjccajkaaW.PrintMore Go.Proofs.Ytgjpemfjccajkaa.F Go.Proofs.Ytgjpemfjccajkaa.Dig
set_option linter.unusedVariables false

/-- A value that stands for the whole number n. -/
structure NI (w : World) (v : Value) (n : Int) : Prop where
  mk :: (out : ∃ A l c, v = .agg #[.int .i64 n.sign, .slice A l c] ∧ RV w (.slice A l c) (dig n.natAbs))
theorem NI.below {w w' : World} {v : Value} {n : Int} (h : NI w v n) (hb : Below w.heap.size w w') : NI w' v n := by
  obtain ⟨A, l, c, rfl, h⟩ := h
  exact ⟨A, l, c, rfl, h.below hb⟩
theorem NI.drewN {w : World} {v : Value} {n : Int} (h : NI w v n) (k : Nat) : NI (w.drewN k) v n := by
  obtain ⟨A, l, c, rfl, h⟩ := h
  exact ⟨A, l, c, rfl, h.drewN k⟩
theorem NI.store {w : World} {v : Value} {n : Int} (h : NI w v n) {g t : Nat} {cs : Array Value} (hg : w.heap[g]? = some (.cells cs t (0, 0))) (ht : t ≠ 3) (i : Nat) (u : Value) : NI (w.setCell ⟨g, i, none⟩ u) v n := by
  obtain ⟨A, l, c, rfl, h⟩ := h
  exact ⟨A, l, c, rfl, h.store hg ht i u⟩
theorem NI.shape {w : World} {v : Value} {n : Int} (h : NI w v n) : ∃ (s : Int) (A : Option Addr) (l c : Nat), v = .agg #[.int .i64 s, .slice A l c] := by
  obtain ⟨A, l, c, rfl, h⟩ := h
  exact ⟨_, A, l, c, rfl⟩
/-- Small enough to be reckoned with. -/
def Sm (n : Int) : Prop := (dig n.natAbs).length ≤ 1000
theorem Sm.of {n : Int} (h : -115792089237316195423570985008687907853269984665640564039457584007913129639936 ≤ n) (h' : n ≤ 115792089237316195423570985008687907853269984665640564039457584007913129639936) : Sm n := by
  have : (dig n.natAbs).length ≤ 17 := by
    apply dig_len
    simp only [P]
    omega
  unfold Sm
  omega
theorem sign_eq (n : Int) : n.sign = if n = 0 then 0 else if n < 0 then -1 else 1 := by
  rcases Int.lt_trichotomy n 0 with h | h | h
  · rw [Int.sign_eq_neg_one_of_neg h, if_neg (by omega), if_pos h]
  · subst h; rfl
  · rw [Int.sign_eq_one_of_pos h, if_neg (by omega), if_neg (by omega)]
theorem dig_nil {n : Nat} : dig n = [] ↔ n = 0 := ⟨fun h => by
  have := dig_val n
  rw [h] at this
  simp [val] at this
  omega, fun h => by rw [h, dig_zero]⟩

/-- Add: the sum. -/
theorem add_c (v u : Value) (n m : Int) (hn : Sm n) (hm : Sm m) (w : World) (h : NI w v n) (h' : NI w u m) :
    Calls Try.prog 30 #[v, u] w fun e w' => ∃ r, e = .returned r ∧ NI w' r (n + m) ∧ Below w.heap.size w w' := by
  obtain ⟨A, l, c, rfl, hA⟩ := h
  obtain ⟨B, l', d, rfl, hB⟩ := h'
  unfold Sm at hn hm
  by_cases n0 : n = 0
  · subst n0
    rw [show (0 : Int).sign = 0 from rfl]
    refine (add_left m.sign A B l c l' d w).mono fun e w' ⟨he, hb⟩ => ⟨_, he, ?_, hb⟩
    rw [Int.zero_add]
    exact ⟨B, l', d, rfl, hB.below hb⟩
  have s0 : (n.sign == 0) = false := beq_eq_false_iff_ne.2 (fun e => n0 (Int.sign_eq_zero_iff_zero.1 e))
  by_cases m0 : m = 0
  · subst m0
    rw [show (0 : Int).sign = 0 from rfl]
    refine (add_right n.sign s0 A B l c l' d w).mono fun e w' ⟨he, hb⟩ => ⟨_, he, ?_, hb⟩
    rw [Int.add_zero]
    exact ⟨A, l, c, rfl, hA.below hb⟩
  have t0 : (m.sign == 0) = false := beq_eq_false_iff_ne.2 (fun e => m0 (Int.sign_eq_zero_iff_zero.1 e))
  have fin : ∀ (e : Ending) (w' : World) (r v' : _) (k : Nat), e = .returned (.agg #[.int .i64 r, v']) → RV w' v' (dig k) → r = (n + m).sign → k = (n + m).natAbs → Below w.heap.size w w' → ∃ r, e = .returned r ∧ NI w' r (n + m) ∧ Below w.heap.size w w' := by
    intro e w' r v' k he hv hr hk hb
    obtain ⟨A', c', rfl, _⟩ := hv.form
    subst hr hk
    exact ⟨_, he, ⟨A', _, c', rfl, hv⟩, hb⟩
  by_cases st : n.sign = m.sign
  · have := add_f n.natAbs m.natAbs (by omega) (by omega) (k := 50000) (by omega)
    rw [← st]
    refine (add_same n.sign s0 A B l c l' d _ _ _ 50000 w hA hB ⟨this⟩).mono fun e w' ⟨v', he, hv, hb⟩ => fin e w' _ _ _ he hv ?_ ?_ hb
    · rw [sign_eq, sign_eq]
      rw [sign_eq, sign_eq] at st
      omega
    · rw [sign_eq, sign_eq] at st
      omega
  · have hst : (n.sign == m.sign) = false := beq_eq_false_iff_ne.2 st
    have hc := cmp_f n.natAbs m.natAbs (by omega) (k := 50000) (by omega)
    rw [sign_eq, sign_eq] at st
    by_cases hlt : n.natAbs < m.natAbs
    · rw [if_pos hlt] at hc
      have hs := sub_f m.natAbs n.natAbs (by omega) (by omega) (k := 50000) (by omega)
      refine (add_lt n.sign m.sign s0 t0 hst A B l c l' d _ _ _ (-1) (by decide) (by decide) 50000 w hA hB ⟨hc⟩ ⟨hs⟩ _ ⟨rfl⟩).mono fun e w' ⟨v', he, hv, hb⟩ => fin e w' _ _ _ he hv ?_ (by omega) hb
      rw [if_neg (fun e => by rw [dig_nil] at e; omega), sign_eq, sign_eq]
      omega
    · have hs := sub_f n.natAbs m.natAbs (by omega) (by omega) (k := 50000) (by omega)
      rw [if_neg hlt] at hc
      refine (add_ge n.sign m.sign s0 t0 hst A B l c l' d _ _ _ (if n.natAbs > m.natAbs then 1 else 0) (by split <;> rfl) (by split <;> rfl) 50000 w hA hB ⟨hc⟩ ⟨hs⟩ _ ⟨rfl⟩).mono fun e w' ⟨v', he, hv, hb⟩ => fin e w' _ _ _ he hv ?_ (by omega) hb
      by_cases he : n.natAbs = m.natAbs
      · rw [if_pos (dig_nil.2 (by omega)), sign_eq]
        omega
      · rw [if_neg (fun e => by rw [dig_nil] at e; omega), sign_eq, sign_eq]
        omega
/-- Neg: with the other sign. -/
theorem neg_c (v : Value) (n : Int) (w : World) (h : NI w v n) :
    Calls Try.prog 48 #[v] w fun e w' => ∃ r, e = .returned r ∧ NI w' r (-n) ∧ Below w.heap.size w w' := by
  obtain ⟨A, l, c, rfl, hA⟩ := h
  refine (neg_any n.sign A l c w).mono fun e w' ⟨he, hb⟩ => ⟨_, he, ⟨A, l, c, ?_, ?_⟩, hb⟩
  · have : wrap64 (0 - n.sign) = (-n).sign := by
      rw [sign_eq, sign_eq]
      unfold wrap64
      omega
    rw [this]
  · rw [Int.natAbs_neg]; exact hA.below hb
/-- Long: a number of 64 bits. -/
theorem long_c (n : Int) (hn : (Lit.int .i64 n).wf = true) (w : World) :
    Calls Try.prog 27 #[.int .i64 n] w fun e w' => ∃ r, e = .returned r ∧ NI w' r n ∧ Below w.heap.size w w' := by
  have bd : -9223372036854775808 ≤ n ∧ n ≤ 9223372036854775807 := by
    exact bounds_i64 hn
  have hf : zelligeref04_Long.f 1000 n = some (n.sign, dig n.natAbs) := by
    unfold zelligeref04_Long.f
    have u64 : ∀ x : Int, IntKind.u64.wrap x = x % 18446744073709551616 := by intro x; simp [IntKind.wrap, IntKind.bits, IntKind.signed]
    by_cases h0 : n = 0
    · subst h0; rw [if_pos rfl]; simp [dig_zero]
    · rw [if_neg h0]
      by_cases h1 : n < 0
      · rw [if_pos h1, u64, u64, of_two _ _ (by omega) (by omega) (by omega) (by omega) (by omega)]
        simp only [Option.bind_some]
        rw [Int.sign_eq_neg_one_of_neg h1]
        congr 3
        omega
      · rw [if_neg h1, u64, of_two _ _ (by omega) (by omega) (by omega) (by omega) (by omega)]
        simp only [Option.bind_some]
        rw [Int.sign_eq_one_of_pos (by omega)]
        congr 3
        omega
  refine (zelligeref04_Long.calls 1000 n _ _ w hf).mono fun e w' ⟨v, he, hR, hb⟩ => ?_
  have hv := RV.of_R hR
  obtain ⟨A', c', rfl, _⟩ := hv.form
  exact ⟨_, he, ⟨A', _, c', rfl, hv⟩, hb⟩

/-! ### Sub -/
set_option maxHeartbeats 1000000 in
theorem sub_walk (s : Int) (A : Option Addr) (l c : Nat) (t : Int) (B : Option Addr) (m d : Nat) (n n' : Int) (hn : Sm n) (hm : Sm n') (w : World) (h : NI w (.agg #[.int .i64 s, .slice A l c]) n) (h' : NI w (.agg #[.int .i64 t, .slice B m d]) n') :
    Calls Try.prog 38 #[.agg #[.int .i64 s, .slice A l c], .agg #[.int .i64 t, .slice B m d]] w fun e w' => ∃ r, e = .returned r ∧ NI w' r (n - n') ∧ Below w.heap.size w w' := by
  have HA := Aside0.mk (fun (W : World) (hb : Below w.heap.size w W) => h.below hb)
  have HB := Aside0.mk (fun (W : World) (hb : Below w.heap.size w W) => h'.below hb)
  have hm' : Aside0 (Sm (-n')) := ⟨by unfold Sm at hm ⊢; rw [Int.natAbs_neg]; exact hm⟩
  clear h h'
  go_enter Try.func38, Try.ntmps38
  go_wp2_with fail
  obtain ⟨n0, n1, n2, bw, nw⟩ := three_new w (.cells #[.int .i64 s, .slice A l c] 48) (.cells #[.int .i64 t, .slice B m d] 48) (.cells #[.int .i64 0, .slice none 0 0] 48)
  generalize (((w.alloc (.cells #[.int .i64 s, .slice A l c] 48)).alloc (.cells #[.int .i64 t, .slice B m d] 48)).alloc (.cells #[.int .i64 0, .slice none 0 0] 48)) = W at n0 n1 n2 bw nw ⊢
  have N2 := Aside0.mk n2
  have BW := Aside0.mk bw
  have c0 : W.cell? ⟨w.heap.size, 0, none⟩ = some (.int .i64 s) := (blk_cell n0 0).trans rfl
  have c1 : W.cell? ⟨w.heap.size, 1, none⟩ = some (.slice A l c) := (blk_cell n0 1).trans rfl
  have k0 : W.cell? ⟨w.heap.size + 1, 0, none⟩ = some (.int .i64 t) := (blk_cell n1 0).trans rfl
  have k1 : W.cell? ⟨w.heap.size + 1, 1, none⟩ = some (.slice B m d) := (blk_cell n1 1).trans rfl
  clear n0 n1 n2 bw nw
  go_region_held3 (fun w' => w'.cell? ⟨w.heap.size, 0, none⟩ = some (.int .i64 s) ∧ w'.cell? ⟨w.heap.size, 1, none⟩ = some (.slice A l c) ∧ w'.cell? ⟨w.heap.size + 1, 0, none⟩ = some (.int .i64 t) ∧ w'.cell? ⟨w.heap.size + 1, 1, none⟩ = some (.slice B m d)) (first | exact ⟨c0, c1, k0, k1⟩ | exact ⟨d0, d1, d2, d3⟩ | exact ⟨e0, e1, e2, e3⟩ | exact ⟨far2 e0 (by omega), far2 e1 (by omega), far2 e2 (by omega), far2 e3 (by omega)⟩)
    (first | (go_at_call 48; refine (neg_c _ n' _ (HB.out _ (below_drew BW.out))).mono ?_; rintro e w1 ⟨v, rfl, hN, hb⟩; have HN := Aside0.mk hN; clear hN; obtain ⟨s1, A1, l1, cc1, rfl⟩ := HN.out.shape; have d0 := pw_cell_below (w := W.drew) hb c0; have d1 := pw_cell_below (w := W.drew) hb c1; have d2 := pw_cell_below (w := W.drew) hb k0; have d3 := pw_cell_below (w := W.drew) hb k1; have M1 := Aside0.mk (blk_below (w := W.drew) N2.out hb); have Hb := Aside0.mk (below_then (below_drew BW.out) BW.out.size hb); clear hb) | (go_at_call 30; refine (add_c _ _ n (-n') hn hm'.out _ (HA.out _ Hb.out) HN.out).mono ?_; rintro e w2 ⟨u, rfl, hN, hb⟩; have HU := Aside0.mk hN; clear hN; obtain ⟨s3, A3, l3, cc3, rfl⟩ := HU.out.shape; have e0 := pw_cell_below hb d0; have e1 := pw_cell_below hb d1; have e2 := pw_cell_below hb d2; have e3 := pw_cell_below hb d3; have m2 := blk_below M1.out hb; have e4 : w2.cell? ⟨w.heap.size + 1 + 1, 0, none⟩ = some (.int .i64 0) := (blk_cell m2 0).trans rfl; have e5 : w2.cell? ⟨w.heap.size + 1 + 1, 1, none⟩ = some (.slice none 0 0) := (blk_cell m2 1).trans rfl; have g3 := blk_frozen m2 0; have g4 := blk_frozen m2 1; have M2 := Aside0.mk m2; have Hb2 := Aside0.mk (below_then Hb.out Hb.out.size hb); clear hb m2))
  go_wp2
  refine bodyPost_ret (results_cell_row rfl _ _ (w.heap.size + 1 + 1) 48 #[.int .i64 s3, .slice A3 l3 cc3] (0, 0) _ rfl (blk_put (cs := #[.int .i64 s3, .slice none 0 0]) (blk_put (cs := #[.int .i64 0, .slice none 0 0]) M2.out 0 _ rfl) 1 _ rfl) Try.underlying48 rfl (by kernel_rfl)) rfl ?_
  exact ⟨_, rfl, (HU.out.store M2.out (by decide) 0 _).store (blk_put (cs := #[.int .i64 0, .slice none 0 0]) M2.out 0 _ rfl) (by decide) 1 _, below_set2 Hb2.out (by omega) _ _ _ _⟩
/-- Sub: the difference. -/
theorem sub_c (v u : Value) (n m : Int) (hn : Sm n) (hm : Sm m) (w : World) (h : NI w v n) (h' : NI w u m) :
    Calls Try.prog 38 #[v, u] w fun e w' => ∃ r, e = .returned r ∧ NI w' r (n - m) ∧ Below w.heap.size w w' := by
  obtain ⟨s, A, l, c, rfl⟩ := h.shape
  obtain ⟨t, B, k, d, rfl⟩ := h'.shape
  exact sub_walk s A l c t B k d n m hn hm w h h'

/-! ### Cmp -/
theorem field_sign (q : Int) (v : Value) (W : World) : (Instr.field 48 (.agg #[.int .i64 q, v]) 0).run Try.prog W = .ok (.int .i64 q) W := by kernel_rfl
set_option maxHeartbeats 1000000 in
theorem cmp_walk (s : Int) (A : Option Addr) (l c : Nat) (t : Int) (B : Option Addr) (m d : Nat) (n n' : Int) (hn : Sm n) (hm : Sm n') (w : World) (h : NI w (.agg #[.int .i64 s, .slice A l c]) n) (h' : NI w (.agg #[.int .i64 t, .slice B m d]) n') :
    Calls Try.prog 40 #[.agg #[.int .i64 s, .slice A l c], .agg #[.int .i64 t, .slice B m d]] w fun e w' => e = .returned (.int .i64 (n - n').sign) ∧ Below w.heap.size w w' := by
  have HA := Aside0.mk (fun (W : World) (hb : Below w.heap.size w W) => h.below hb)
  have HB := Aside0.mk (fun (W : World) (hb : Below w.heap.size w W) => h'.below hb)
  clear h h'
  go_enter Try.func40, Try.ntmps40
  go_wp2_with fail
  obtain ⟨n0, n1, bw, nw⟩ := two_new w (.cells #[.int .i64 s, .slice A l c] 48) (.cells #[.int .i64 t, .slice B m d] 48)
  refine (sub_c _ _ n n' hn hm _ (HA.out _ bw) (HB.out _ bw)).mono ?_
  rintro e w1 ⟨v, rfl, hN, hb⟩
  obtain ⟨A1, l1, c1, rfl, _⟩ := hN
  have Hb := Aside0.mk (below_then bw bw.size hb)
  obtain ⟨q, hq⟩ : ∃ q, q = (n - n').sign := ⟨_, rfl⟩
  rw [← hq]
  have HQ := Aside0.mk hq
  clear hb hq n0 n1 bw nw
  have hf := field_sign q (.slice A1 l1 c1)
  go_wp2
  go_ret
  exact ⟨by rw [← HQ.out]; rfl, Hb.out⟩
/-- Cmp: the difference's sign. -/
theorem cmp_c (v u : Value) (n m : Int) (hn : Sm n) (hm : Sm m) (w : World) (h : NI w v n) (h' : NI w u m) :
    Calls Try.prog 40 #[v, u] w fun e w' => e = .returned (.int .i64 (n - m).sign) ∧ Below w.heap.size w w' := by
  obtain ⟨s, A, l, c, rfl⟩ := h.shape
  obtain ⟨t, B, k, d, rfl⟩ := h'.shape
  exact cmp_walk s A l c t B k d n m hn hm w h h'
end Go.Proofs.Ytgjpemfjccajkaa.Whole
