/- QuadRings: own texts in one (part 4 of 4): contracts of the functions that the law reaches. -/
import Derived.Test.YtbmeokhoebjdbaaBQuadRingsc
import Derived.WideKeyPair

section
/- QuadRings: the law answers true for all numbers. -/
namespace Go.Proofs.Ytbmeokhoebjdbaa.Qd
open Go Go.RowKit Go.Proofs.YtbmeokhoebjdbaaW.PrintWords Go.Proofs.Ytbmeokhoebjdbaa.F Go.Proofs.Ytbmeokhoebjdbaa.D8
set_option linter.unusedVariables false
attribute [local irreducible] val P
theorem rings_j0 (k : Nat) (a b c d a' b' c' d' h l h' l' : Int) (o : QOk a b c d) (o' : QOk a' b' c' d') (o1 : WOk h l) (o2 : WOk h' l') : zelligelaw02_QuadRings.j0 (k + 1) false a b c d a' b' c' d' h l h' l' = some true := by
  have v1 := qv_bound o
  have v2 := qv_bound o'
  have b1 := q_back o
  have e1 : qq4 (qv (q0 (qv a b c d + qv a' b' c' d')) (q1 (qv a b c d + qv a' b' c' d')) (q2 (qv a b c d + qv a' b' c' d')) (q3 (qv a b c d + qv a' b' c' d')) - qv a' b' c' d') = (a, b, c, d) := by
    rw [qcong (m := qv a b c d) (by rw [qv_words, P32]; omega)]
    unfold qq4
    rw [b1.1, b1.2.1, b1.2.2.1, b1.2.2.2]
  have e2 : qq4 (qv a b c d + qv (q0 (-qv a b c d)) (q1 (-qv a b c d)) (q2 (-qv a b c d)) (q3 (-qv a b c d))) = (0, 0, 0, 0) := by
    rw [qcong (m := 0) (by rw [qv_words, P32]; omega)]
    rfl
  have m1 := qadd_f o o'
  have m2 := qneg_f o
  have m3 := qsub_f (q_ok (qv a b c d + qv a' b' c' d')) o'
  have m4 := qadd_f o (q_ok (-qv a b c d))
  rw [e1] at m3
  rw [e2] at m4
  unfold qq4 at m1 m2
  have m5 := qmul_f o1 o2
  have m6 := qmul_f o2 o1
  rw [Int.mul_comm] at m6
  rw [zelligelaw02_QuadRings.j0, if_neg (by decide), m1, Option.bind_some, m3, Option.bind_some, if_pos (by simp), m2, Option.bind_some, m4, Option.bind_some, if_pos (by decide), m5, Option.bind_some, m6, Option.bind_some, if_pos (qeq rfl), lives_true]
  rfl
theorem rings_f (a b c d a' b' c' d' h l h' l' : Int) (o : QOk a b c d) (o' : QOk a' b' c' d') (o1 : WOk h l) (o2 : WOk h' l') : zelligelaw02_QuadRings.f 5000 a b c d a' b' c' d' h l h' l' = some true := by
  obtain ⟨k, hk⟩ : ∃ k, k + 1 = 5000 := ⟨4999, rfl⟩
  obtain ⟨x, x1, x2, x3, x4⟩ := long_f o1 (k := k + 1) (by omega)
  obtain ⟨n, n1, n2, n3, n4⟩ := D8.neg_f x3 (by omega) (by omega) (k := k + 1) (by omega)
  rw [x2] at n2 n4
  have e1 : qq4 (val n) = qq4 (-(wv h l)) := qcong (by rw [n4, x4, P32]; omega)
  have m1 := rquad_f n2 n3
  rw [e1] at m1
  unfold qq4 at m1
  have s := small_f (q_ok (-(wv h l)))
  have b2 := qmul_f o1 o2
  unfold qq4 at b2
  unfold zelligelaw02_QuadRings.f
  rw [← hk, x1, Option.bind_some, n1, Option.bind_some, m1, Option.bind_some, s, Option.bind_some]
  by_cases e : qq4 (wv (wrap64 (q1 (-(wv h l)))) (q0 (-(wv h l)))) = (q0 (-(wv h l)), q1 (-(wv h l)), q2 (-(wv h l)), q3 (-(wv h l)))
  · rw [if_pos e, if_pos rfl]
    have oW : WOk (wrap64 (q1 (-(wv h l)))) (q0 (-(wv h l))) := ⟨w64_ok _, (q_ok _).1⟩
    have hm : wv (wrap64 (q1 (-(wv h l)))) (q0 (-(wv h l))) % P 32 = (-(wv h l)) % P 32 := by
      rw [← qv_words, ← qv_words]
      unfold qq4 at e
      simp only [Prod.mk.injEq] at e
      obtain ⟨f0, f1, f2, f3⟩ := e
      rw [f0, f1, f2, f3]
    have e2 : qq4 (wv (wrap64 (q1 (-(wv h l)))) (q0 (-(wv h l))) * wv h' l') = qq4 (-(qv (q0 (wv h l * wv h' l')) (q1 (wv h l * wv h' l')) (q2 (wv h l * wv h' l')) (q3 (wv h l * wv h' l')))) := qcong (by
      rw [Int.mul_emod, hm, ← Int.mul_emod, qv_words, Int.neg_mul, P32]
      generalize wv h l * wv h' l' = z
      omega)
    have b3 := qneg_f (q_ok (wv h l * wv h' l'))
    rw [qmul_f oW o2, Option.bind_some, b2, Option.bind_some, b3, Option.bind_some, neq4, eq4, e2, decide_eq_true rfl]
    exact rings_j0 k a b c d a' b' c' d' h l h' l' o o' o1 o2
  · rw [if_neg e, if_neg (by decide)]
    exact rings_j0 k a b c d a' b' c' d' h l h' l' o o' o1 o2
theorem rings_calls (a0_0 a0_1 a0_2 a0_3 a1_0 a1_1 a1_2 a1_3 a2_0 a2_1 a2_2 a2_3 : Int) (w : World) (h0_0 : (Lit.int .u64 a0_0).wf = true) (h0_1 : (Lit.int .u64 a0_1).wf = true) (h0_2 : (Lit.int .u64 a0_2).wf = true) (h0_3 : (Lit.int .u64 a0_3).wf = true) (h1_0 : (Lit.int .u64 a1_0).wf = true) (h1_1 : (Lit.int .u64 a1_1).wf = true) (h1_2 : (Lit.int .u64 a1_2).wf = true) (h1_3 : (Lit.int .u64 a1_3).wf = true) (h2_0 : (Lit.int .i64 a2_0).wf = true) (h2_1 : (Lit.int .u64 a2_1).wf = true) (h2_2 : (Lit.int .i64 a2_2).wf = true) (h2_3 : (Lit.int .u64 a2_3).wf = true) :
    Calls Try.prog 6 #[.agg #[.int .u64 a0_0, .int .u64 a0_1, .int .u64 a0_2, .int .u64 a0_3], .agg #[.int .u64 a1_0, .int .u64 a1_1, .int .u64 a1_2, .int .u64 a1_3], .agg #[.int .i64 a2_0, .int .u64 a2_1, .int .i64 a2_2, .int .u64 a2_3]] w fun e w' => e = .returned (.bool true) ∧ Below w.heap.size w w' :=
  zelligelaw02_QuadRings.calls 5000 _ _ _ _ _ _ _ _ _ _ _ _ true w (rings_f _ _ _ _ _ _ _ _ _ _ _ _ ⟨bu64_ h0_0, bu64_ h0_1, bu64_ h0_2, bu64_ h0_3⟩ ⟨bu64_ h1_0, bu64_ h1_1, bu64_ h1_2, bu64_ h1_3⟩ ⟨bounds_i64 h2_0, bu64_ h2_1⟩ ⟨bounds_i64 h2_2, bu64_ h2_3⟩)
end Go.Proofs.Ytbmeokhoebjdbaa.Qd
end

section
/- Arrays as arguments: of four whole numbers, of two or three structs of two whole numbers each. -/
namespace Go.Proofs.Ytbmeokhoebjdbaa.RK
open Go Go.ChangeShapes Go.WideShapes Go.ChangeAt Go.RowKit Go.WideElems Go.Maps Go.Deep
variable {H : Type} {enc : TypeId × Value → H} {P : Program}

theorem okWide_array {k e : TypeId} {n : Nat} (hu : P.underlying k = some (.array n e)) {W : World} {r : Reach} {b0 : Nat} {v : Value} (h : Value.okWide P W r b0 k v) : ∃ cs : Array Value, v = .agg cs ∧ cs.size = P.cellsOf k := by
  simp only [Value.okWide, hu] at h
  obtain ⟨cs, h1, h2, _⟩ := h
  exact ⟨cs, h1, h2⟩
theorem list4 {α : Type} {l : List α} (h : l.length = 4) : ∃ a b c d, l = [a, b, c, d] := by
  match l, h with
  | [a, b, c, d], _ => exact ⟨a, b, c, d, rfl⟩
theorem list6 {α : Type} {l : List α} (h : l.length = 6) : ∃ a b c d e f, l = [a, b, c, d, e, f] := by
  match l, h with
  | [a, b, c, d, e, f], _ => exact ⟨a, b, c, d, e, f, rfl⟩
/-- An array of four whole numbers. -/
theorem open_four {w : World} {sp : Nat → Bool} {held : Bool} {r : Reach} {b0 base : Nat} {t e : TypeId} {q : IntKind} {v : Value} {d : DataW H} {p : List MemPlace} (hu : P.underlying t = some (.array 4 e)) (he : P.underlying e = some (.int q)) (one : P.cellsOf e = 1) (size : P.cellsOf t = 4)
    (hv : Value.okWide P w r b0 t v) (h : DataW.Trod enc P w base sp held t v d p) :
    ∃ a b c d : Int, v = .agg #[.int q a, .int q b, .int q c, .int q d] ∧ (Lit.int q a).wf = true ∧ (Lit.int q b).wf = true ∧ (Lit.int q c).wf = true ∧ (Lit.int q d).wf = true := by
  obtain ⟨cs, rfl, hsz⟩ := okWide_array hu hv
  obtain ⟨l⟩ := cs
  obtain ⟨c0, c1, c2, c3, rfl⟩ := list4 (hsz.trans size)
  obtain ⟨fuel, hf⟩ := h
  cases fuel with
  | zero => simp [DataW.trod] at hf
  | succ n =>
    rw [DataW.trod_step] at hf
    unfold DataW.trodStep at hf
    simp only [hu, Value.cells] at hf
    rw [if_pos (by rw [size]; rfl)] at hf
    simp only [Option.map_eq_some_iff] at hf
    obtain ⟨xs, hx, e1⟩ := hf
    rw [show List.range 4 = [0, 1, 2, 3] from rfl, List.mapM_cons, List.mapM_cons, List.mapM_cons, List.mapM_cons, List.mapM_nil] at hx
    simp only [bind, Option.bind_eq_some_iff, pure, Option.some.injEq, one] at hx
    obtain ⟨y0, h0, _, ⟨y1, h1, _, ⟨y2, h2, _, ⟨y3, h3, _, rfl, rfl⟩, rfl⟩, rfl⟩, rfl⟩ := hx
    obtain ⟨a, ea, _, wa⟩ := DataW.trod_int he h0
    obtain ⟨b, eb, _, wb⟩ := DataW.trod_int he h1
    obtain ⟨c, ec, _, wc⟩ := DataW.trod_int he h2
    obtain ⟨d, ed, _, wd⟩ := DataW.trod_int he h3
    simp at ea eb ec ed
    subst ea eb ec ed
    exact ⟨a, b, c, d, rfl, wa, wb, wc, wd⟩
/-- One struct of two whole numbers out of its cells. -/
theorem cells_two {w : World} {sp : Nat → Bool} {held : Bool} {base fuel : Nat} {e : TypeId} {f0 f1 : Field} {k0 k1 : IntKind} {v0 v1 : Value} {x : DataW H × List MemPlace} (hs : P.underlying e = some (.struct #[f0, f1]))
    (o0 : f0.offset = 0) (o1 : f1.offset = 1) (s0 : P.cellsOf f0.type = 1) (s1 : P.cellsOf f1.type = 1) (h0 : P.underlying f0.type = some (.int k0)) (h1 : P.underlying f1.type = some (.int k1)) (h : DataW.trod enc P w base sp held fuel e [v0, v1] = some x) :
    ∃ a b : Int, v0 = .int k0 a ∧ v1 = .int k1 b ∧ (Lit.int k0 a).wf = true ∧ (Lit.int k1 b).wf = true := by
  obtain ⟨y0, y1, n, _, _, g0, g1⟩ := trod_struct2 hs h
  rw [o0, s0] at g0
  rw [o1, s1] at g1
  obtain ⟨a, ea, _, wa⟩ := DataW.trod_int h0 g0
  obtain ⟨b, eb, _, wb⟩ := DataW.trod_int h1 g1
  simp at ea eb
  exact ⟨a, b, ea, eb, wa, wb⟩
/-- An array of two structs of two whole numbers. -/
theorem open_pairs2 {w : World} {sp : Nat → Bool} {held : Bool} {r : Reach} {b0 base : Nat} {t e : TypeId} {f0 f1 : Field} {k0 k1 : IntKind} {v : Value} {d : DataW H} {p : List MemPlace} (hu : P.underlying t = some (.array 2 e)) (hs : P.underlying e = some (.struct #[f0, f1]))
    (o0 : f0.offset = 0) (o1 : f1.offset = 1) (s0 : P.cellsOf f0.type = 1) (s1 : P.cellsOf f1.type = 1) (h0 : P.underlying f0.type = some (.int k0)) (h1 : P.underlying f1.type = some (.int k1)) (two : P.cellsOf e = 2) (size : P.cellsOf t = 4)
    (hv : Value.okWide P w r b0 t v) (h : DataW.Trod enc P w base sp held t v d p) :
    ∃ a b a' b' : Int, v = .agg #[.int k0 a, .int k1 b, .int k0 a', .int k1 b'] ∧ (Lit.int k0 a).wf = true ∧ (Lit.int k1 b).wf = true ∧ (Lit.int k0 a').wf = true ∧ (Lit.int k1 b').wf = true := by
  obtain ⟨cs, rfl, hsz⟩ := okWide_array hu hv
  obtain ⟨l⟩ := cs
  obtain ⟨c0, c1, c2, c3, rfl⟩ := list4 (hsz.trans size)
  obtain ⟨fuel, hf⟩ := h
  cases fuel with
  | zero => simp [DataW.trod] at hf
  | succ n =>
    rw [DataW.trod_step] at hf
    unfold DataW.trodStep at hf
    simp only [hu, Value.cells] at hf
    rw [if_pos (by rw [size]; rfl)] at hf
    simp only [Option.map_eq_some_iff] at hf
    obtain ⟨xs, hx, e1⟩ := hf
    rw [show List.range 2 = [0, 1] from rfl, List.mapM_cons, List.mapM_cons, List.mapM_nil] at hx
    simp only [bind, Option.bind_eq_some_iff, pure, Option.some.injEq, two] at hx
    obtain ⟨y0, g0, _, ⟨y1, g1, _, rfl, rfl⟩, rfl⟩ := hx
    obtain ⟨a, b, rfl, rfl, wa, wb⟩ := cells_two hs o0 o1 s0 s1 h0 h1 g0
    obtain ⟨a', b', rfl, rfl, wa', wb'⟩ := cells_two hs o0 o1 s0 s1 h0 h1 g1
    exact ⟨a, b, a', b', rfl, wa, wb, wa', wb'⟩
/-- An array of three structs of two whole numbers. -/
theorem open_pairs3 {w : World} {sp : Nat → Bool} {held : Bool} {r : Reach} {b0 base : Nat} {t e : TypeId} {f0 f1 : Field} {k0 k1 : IntKind} {v : Value} {d : DataW H} {p : List MemPlace} (hu : P.underlying t = some (.array 3 e)) (hs : P.underlying e = some (.struct #[f0, f1]))
    (o0 : f0.offset = 0) (o1 : f1.offset = 1) (s0 : P.cellsOf f0.type = 1) (s1 : P.cellsOf f1.type = 1) (h0 : P.underlying f0.type = some (.int k0)) (h1 : P.underlying f1.type = some (.int k1)) (two : P.cellsOf e = 2) (size : P.cellsOf t = 6)
    (hv : Value.okWide P w r b0 t v) (h : DataW.Trod enc P w base sp held t v d p) :
    ∃ a b a' b' a'' b'' : Int, v = .agg #[.int k0 a, .int k1 b, .int k0 a', .int k1 b', .int k0 a'', .int k1 b''] ∧ (Lit.int k0 a).wf = true ∧ (Lit.int k1 b).wf = true ∧ (Lit.int k0 a').wf = true ∧ (Lit.int k1 b').wf = true ∧ (Lit.int k0 a'').wf = true ∧ (Lit.int k1 b'').wf = true := by
  obtain ⟨cs, rfl, hsz⟩ := okWide_array hu hv
  obtain ⟨l⟩ := cs
  obtain ⟨c0, c1, c2, c3, c4, c5, rfl⟩ := list6 (hsz.trans size)
  obtain ⟨fuel, hf⟩ := h
  cases fuel with
  | zero => simp [DataW.trod] at hf
  | succ n =>
    rw [DataW.trod_step] at hf
    unfold DataW.trodStep at hf
    simp only [hu, Value.cells] at hf
    rw [if_pos (by rw [size]; rfl)] at hf
    simp only [Option.map_eq_some_iff] at hf
    obtain ⟨xs, hx, e1⟩ := hf
    rw [show List.range 3 = [0, 1, 2] from rfl, List.mapM_cons, List.mapM_cons, List.mapM_cons, List.mapM_nil] at hx
    simp only [bind, Option.bind_eq_some_iff, pure, Option.some.injEq, two] at hx
    obtain ⟨y0, g0, _, ⟨y1, g1, _, ⟨y2, g2, _, rfl, rfl⟩, rfl⟩, rfl⟩ := hx
    obtain ⟨a, b, rfl, rfl, wa, wb⟩ := cells_two hs o0 o1 s0 s1 h0 h1 g0
    obtain ⟨a', b', rfl, rfl, wa', wb'⟩ := cells_two hs o0 o1 s0 s1 h0 h1 g1
    obtain ⟨a'', b'', rfl, rfl, wa'', wb''⟩ := cells_two hs o0 o1 s0 s1 h0 h1 g2
    exact ⟨a, b, a', b', a'', b'', rfl, wa, wb, wa', wb', wa'', wb''⟩
end Go.Proofs.Ytbmeokhoebjdbaa.RK
end
