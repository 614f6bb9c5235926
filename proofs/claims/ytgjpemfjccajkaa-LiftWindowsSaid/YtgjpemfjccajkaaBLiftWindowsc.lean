/- LiftWindows: own texts in one (part 3 of 4): contracts of the functions that the law reaches. -/
import Derived.Test.YtgjpemfjccajkaaBLiftWindowsb
import Derived.Deep.DeepCutAuto

section
/- The reference's At (a point so many sides off), in the print's form. -/
namespace Go.Proofs.Ytgjpemfjccajkaa.Whole
open Go Go.RowKit Go.Proofs.YtgjpemfjccajkaaW.PrintWords Go.Proofs.YtgjpemfjccajkaaW.PrintLast Go.Proofs.YtgjpemfjccajkaaW.PrintMore Go.Proofs.Ytgjpemfjccajkaa.F Go.Proofs.Ytgjpemfjccajkaa.Dig
set_option linter.unusedVariables false
theorem al (w : World) (o : Obj) : Below w.heap.size w (w.alloc o) := (Below.refl _ _).alloc (Nat.le_refl _) _
theorem al_cell {w : World} {a : Addr} {v : Value} (h : w.cell? a = some v) {o : Obj} : (w.alloc o).cell? a = some v := pw_cell_below (al w o) h
theorem far_put {W : World} {b g t : Nat} {cs : Array Value} {u v : Value} (h : W.heap[b]? = some (.cells cs t (0, 0))) (hne : b ≠ g) : ((W.setCell ⟨g, 0, none⟩ u).setCell ⟨g, 1, none⟩ v).heap[b]? = some (.cells cs t (0, 0)) := blk_far (p := ⟨g, 1, none⟩) (blk_far (p := ⟨g, 0, none⟩) h (by simp only []; first | exact hne | exact hne.symm) _) (by simp only []; first | exact hne | exact hne.symm) _
theorem zput {W : World} {g : Nat} {s : Int} {A : Option Addr} {l c : Nat} (z : W.heap[g]? = some (.cells #[.int .i64 0, .slice none 0 0] 48 (0, 0))) : ((W.setCell ⟨g, 0, none⟩ (.int .i64 s)).setCell ⟨g, 1, none⟩ (.slice A l c)).heap[g]? = some (.cells #[.int .i64 s, .slice A l c] 48 (0, 0)) :=
  blk_put (cs := #[.int .i64 s, .slice none 0 0]) (blk_put (cs := #[.int .i64 0, .slice none 0 0]) z 0 _ rfl) 1 _ rfl
theorem niput {W : World} {g : Nat} {s n : Int} {A : Option Addr} {l c : Nat} {v : Value} (k : NI W v n) (z : W.heap[g]? = some (.cells #[.int .i64 0, .slice none 0 0] 48 (0, 0))) : NI ((W.setCell ⟨g, 0, none⟩ (.int .i64 s)).setCell ⟨g, 1, none⟩ (.slice A l c)) v n :=
  (k.store z (by decide) 0 _).store (blk_put (cs := #[.int .i64 0, .slice none 0 0]) z 0 _ rfl) (by decide) 1 _
structure X1 (w : World) (x y ox oy n : Int) (v : Value) (w' : World) : Prop where
  p : Aside0 (w'.heap[w.heap.size]? = some (.cells #[.int .i64 x, .int .i64 y] 28 (0, 0)))
  o : Aside0 (w'.heap[w.heap.size + 1]? = some (.cells #[.int .i64 ox, .int .i64 oy] 23 (0, 0)))
  r : Aside0 (w'.heap[w.heap.size + 1 + 1]? = some (.cells #[.int .i64 0, .int .i64 0] 28 (0, 0)))
  b : Aside0 (Below w.heap.size w w')
  x : ∃ (g : Nat) (s : Int) (A : Option Addr) (l c : Nat), v = .pointer (some ⟨g, 0, none⟩) ∧ Aside0 (w'.heap[g]? = some (.cells #[.int .i64 s, .slice A l c] 48 (0, 0))) ∧ Aside0 (NI w' (.agg #[.int .i64 s, .slice A l c]) n)
theorem zfacts {w : World} {g : Nat} (h : Aside0 (w.heap[g]? = some (.cells #[.int .i64 0, .slice none 0 0] 48 (0, 0)))) : w.cell? ⟨g, 0, none⟩ = some (.int .i64 0) ∧ w.cell? ⟨g, 1, none⟩ = some (.slice none 0 0) ∧ w.frozen? ⟨g, 0, none⟩ = false ∧ w.frozen? ⟨g, 1, none⟩ = false :=
  ⟨(blk_cell h.out 0).trans rfl, (blk_cell h.out 1).trans rfl, blk_frozen h.out 0, blk_frozen h.out 1⟩

theorem X1.of_put {w W : World} {x y ox oy n s : Int} {A : Option Addr} {l c g : Nat} (p : Aside0 (W.heap[w.heap.size]? = some (.cells #[.int .i64 x, .int .i64 y] 28 (0, 0)))) (o : Aside0 (W.heap[w.heap.size + 1]? = some (.cells #[.int .i64 ox, .int .i64 oy] 23 (0, 0))))
    (r : Aside0 (W.heap[w.heap.size + 1 + 1]? = some (.cells #[.int .i64 0, .int .i64 0] 28 (0, 0)))) (b : Aside0 (Below w.heap.size w W)) (k : Aside0 (NI W (.agg #[.int .i64 s, .slice A l c]) n)) (z : Aside0 (W.heap[g]? = some (.cells #[.int .i64 0, .slice none 0 0] 48 (0, 0)))) (hz : Aside0 (w.heap.size + 1 + 1 < g)) :
    X1 w x y ox oy n (.pointer (some ⟨g, 0, none⟩)) ((W.setCell ⟨g, 0, none⟩ (.int .i64 s)).setCell ⟨g, 1, none⟩ (.slice A l c)) := by
  have hz := hz.out
  exact ⟨⟨far_put p.out (by omega)⟩, ⟨far_put o.out (by omega)⟩, ⟨far_put r.out (by omega)⟩, ⟨below_set2 b.out (by omega) _ _ _ _⟩, g, s, A, l, c, rfl, ⟨zput z.out⟩, ⟨niput k.out z.out⟩⟩
theorem X1.of_alloc {w W : World} {x y ox oy n s : Int} {A : Option Addr} {l c : Nat} (p : Aside0 (W.heap[w.heap.size]? = some (.cells #[.int .i64 x, .int .i64 y] 28 (0, 0)))) (o : Aside0 (W.heap[w.heap.size + 1]? = some (.cells #[.int .i64 ox, .int .i64 oy] 23 (0, 0))))
    (r : Aside0 (W.heap[w.heap.size + 1 + 1]? = some (.cells #[.int .i64 0, .int .i64 0] 28 (0, 0)))) (b : Aside0 (Below w.heap.size w W)) (k : Aside0 (NI W (.agg #[.int .i64 s, .slice A l c]) n)) :
    X1 w x y ox oy n (.pointer (some ⟨W.heap.size, 0, none⟩)) (W.alloc (.cells #[.int .i64 s, .slice A l c] 48 (0, 0))) :=
  ⟨⟨blk_alloc p.out _⟩, ⟨blk_alloc o.out _⟩, ⟨blk_alloc r.out _⟩, ⟨bthen (al _ _) b.out⟩, W.heap.size, s, A, l, c, rfl, ⟨blk_new _ _⟩, ⟨k.out.below (al _ _)⟩⟩
structure X2 (w : World) (x y : Int) (gx : Nat) (sx : Int) (Ax : Option Addr) (lx cx : Nat) (n m : Int) (v : Value) (w' : World) : Prop where
  p : Aside0 (w'.heap[w.heap.size]? = some (.cells #[.int .i64 x, .int .i64 y] 28 (0, 0)))
  r : Aside0 (w'.heap[w.heap.size + 1 + 1]? = some (.cells #[.int .i64 0, .int .i64 0] 28 (0, 0)))
  b : Aside0 (Below w.heap.size w w')
  bx : Aside0 (w'.heap[gx]? = some (.cells #[.int .i64 sx, .slice Ax lx cx] 48 (0, 0)))
  nx : Aside0 (NI w' (.agg #[.int .i64 sx, .slice Ax lx cx]) n)
  x : ∃ (g : Nat) (s : Int) (A : Option Addr) (l c : Nat), v = .pointer (some ⟨g, 0, none⟩) ∧ Aside0 (w'.heap[g]? = some (.cells #[.int .i64 s, .slice A l c] 48 (0, 0))) ∧ Aside0 (NI w' (.agg #[.int .i64 s, .slice A l c]) m)
theorem X2.of_put {w W : World} {x y n m s sx : Int} {A Ax : Option Addr} {l c g gx lx cx : Nat} (p : Aside0 (W.heap[w.heap.size]? = some (.cells #[.int .i64 x, .int .i64 y] 28 (0, 0))))
    (r : Aside0 (W.heap[w.heap.size + 1 + 1]? = some (.cells #[.int .i64 0, .int .i64 0] 28 (0, 0)))) (b : Aside0 (Below w.heap.size w W)) (bx : Aside0 (W.heap[gx]? = some (.cells #[.int .i64 sx, .slice Ax lx cx] 48 (0, 0)))) (nx : Aside0 (NI W (.agg #[.int .i64 sx, .slice Ax lx cx]) n))
    (k : Aside0 (NI W (.agg #[.int .i64 s, .slice A l c]) m)) (z : Aside0 (W.heap[g]? = some (.cells #[.int .i64 0, .slice none 0 0] 48 (0, 0)))) (hz : Aside0 (w.heap.size + 1 + 1 < g)) (hzx : Aside0 (gx < g)) :
    X2 w x y gx sx Ax lx cx n m (.pointer (some ⟨g, 0, none⟩)) ((W.setCell ⟨g, 0, none⟩ (.int .i64 s)).setCell ⟨g, 1, none⟩ (.slice A l c)) := by
  have hz := hz.out
  have hzx := hzx.out
  exact ⟨⟨far_put p.out (by omega)⟩, ⟨far_put r.out (by omega)⟩, ⟨below_set2 b.out (by omega) _ _ _ _⟩, ⟨far_put bx.out (by omega)⟩, ⟨niput nx.out z.out⟩, g, s, A, l, c, rfl, ⟨zput z.out⟩, ⟨niput k.out z.out⟩⟩
theorem X2.of_alloc {w W : World} {x y n m s sx : Int} {A Ax : Option Addr} {l c gx lx cx : Nat} (p : Aside0 (W.heap[w.heap.size]? = some (.cells #[.int .i64 x, .int .i64 y] 28 (0, 0))))
    (r : Aside0 (W.heap[w.heap.size + 1 + 1]? = some (.cells #[.int .i64 0, .int .i64 0] 28 (0, 0)))) (b : Aside0 (Below w.heap.size w W)) (bx : Aside0 (W.heap[gx]? = some (.cells #[.int .i64 sx, .slice Ax lx cx] 48 (0, 0)))) (nx : Aside0 (NI W (.agg #[.int .i64 sx, .slice Ax lx cx]) n))
    (k : Aside0 (NI W (.agg #[.int .i64 s, .slice A l c]) m)) :
    X2 w x y gx sx Ax lx cx n m (.pointer (some ⟨W.heap.size, 0, none⟩)) (W.alloc (.cells #[.int .i64 s, .slice A l c] 48 (0, 0))) :=
  ⟨⟨blk_alloc p.out _⟩, ⟨blk_alloc r.out _⟩, ⟨bthen (al _ _) b.out⟩, ⟨blk_alloc bx.out _⟩, ⟨nx.out.below (al _ _)⟩, W.heap.size, s, A, l, c, rfl, ⟨blk_new _ _⟩, ⟨k.out.below (al _ _)⟩⟩
set_option maxHeartbeats 8000000 in
theorem at_walk (x y ox oy sd : Int) (Hx : Aside0 ((Lit.int .i64 x).wf = true)) (Hy : Aside0 ((Lit.int .i64 y).wf = true)) (Hox : Aside0 ((Lit.int .i64 ox).wf = true)) (Hoy : Aside0 ((Lit.int .i64 oy).wf = true)) (Hsd : Aside0 ((Lit.int .i64 sd).wf = true))
    (Mx : Aside0 (Sm x)) (My : Aside0 (Sm y)) (Mox : Aside0 (Sm ox)) (Moy : Aside0 (Sm oy)) (Msd : Aside0 (Sm sd)) (Moxsd : Aside0 (Sm (ox * sd))) (Moysd : Aside0 (Sm (oy * sd))) (Sx : Aside0 (Sm (x + ox * sd))) (Sy : Aside0 (Sm (y + oy * sd)))
    (t c i j : Bool) (ht : Aside0 (zelligeref06_Torus.f sd = some t)) (hc : Aside0 (zelligeref06_Can.f x y = some c)) (hi : Aside0 (decide (-1099511627776 ≤ x + ox * sd ∧ x + ox * sd ≤ 1099511627776) = i)) (hj : Aside0 (decide (-1099511627776 ≤ y + oy * sd ∧ y + oy * sd ≤ 1099511627776) = j))
    (hl : Aside0 ((t && c && i && j) = true → (-9223372036854775808 ≤ x + ox * sd ∧ x + ox * sd ≤ 9223372036854775807) ∧ (-9223372036854775808 ≤ y + oy * sd ∧ y + oy * sd ≤ 9223372036854775807)))
    (v : Value) (hr : Aside0 ((if (t && c && i && j) = true then Value.tuple #[.agg #[.int .i64 (x + ox * sd), .int .i64 (y + oy * sd)], .bool true] else Value.tuple #[.agg #[.int .i64 0, .int .i64 0], .bool false]) = v)) (w : World) :
    Calls Try.prog 14 #[.agg #[.int .i64 x, .int .i64 y], .agg #[.int .i64 ox, .int .i64 oy], .int .i64 sd] w fun e w' => e = .returned v ∧ Below w.heap.size w w' := by
  go_enter Try.func14, Try.ntmps14
  go_wp2_with fail
  obtain ⟨n0, n1, n2, bw, nw⟩ := three_new w (.cells #[.int .i64 x, .int .i64 y] 28) (.cells #[.int .i64 ox, .int .i64 oy] 23) (.cells #[.int .i64 0, .int .i64 0] 28)
  generalize (((w.alloc (.cells #[.int .i64 x, .int .i64 y] 28)).alloc (.cells #[.int .i64 ox, .int .i64 oy] 23)).alloc (.cells #[.int .i64 0, .int .i64 0] 28)) = W at n0 n1 n2 bw nw ⊢
  have Bp := Aside0.mk n0
  have Bo := Aside0.mk n1
  have R := Aside0.mk n2
  have Hb := Aside0.mk bw
  have d0 : W.cell? ⟨w.heap.size, 0, none⟩ = some (.int .i64 x) := (blk_cell n0 0).trans rfl
  have d1 : W.cell? ⟨w.heap.size, 1, none⟩ = some (.int .i64 y) := (blk_cell n0 1).trans rfl
  have e0 : W.cell? ⟨w.heap.size + 1, 0, none⟩ = some (.int .i64 ox) := (blk_cell n1 0).trans rfl
  have e1 : W.cell? ⟨w.heap.size + 1, 1, none⟩ = some (.int .i64 oy) := (blk_cell n1 1).trans rfl
  clear n0 n1 n2 bw nw
  go_upto_region 1 with fail
  go_cut [8] (fun v8 wx => X1 w x y ox oy (x + ox * sd) v8 wx)
  case first =>
    go_region_held3 (fun w' => w'.cell? ⟨w.heap.size, 0, none⟩ = some (.int .i64 x) ∧ w'.cell? ⟨w.heap.size + 1, 0, none⟩ = some (.int .i64 ox)) (first | exact ⟨d0, e0⟩ | exact ⟨(al_cell d0), (al_cell e0)⟩ | exact ⟨far2 d0 (by have := hz.out; omega), far2 e0 (by have := hz.out; omega)⟩ | (refine ⟨?_, ?_⟩ <;> (go_keep; done)))
      (first | (go_at_call 27; (with_reducible refine (long_c x Hx.out _).mono ?_); rintro e w11 ⟨vN11, rfl, hN, hb⟩; (first | (have Z := Aside0.mk (blk_below (o := .cells #[.int .i64 0, .slice none 0 0] 48 (0, 0)) (blk_new _ _) hb); have hz := Aside0.mk (blk_lt R.out); have hzx := Aside0.mk (blk_lt R.out); obtain ⟨z0, z1, y0, y1⟩ := zfacts Z) | (have Z := Aside0.mk (blk_below (g := W.heap.size) (o := .cells #[.int .i64 0, .slice none 0 0] 48 (0, 0)) (by exact blk_new W _) hb); have hz := Aside0.mk (blk_lt R.out); have hzx := Aside0.mk (blk_lt R.out); obtain ⟨z0, z1, y0, y1⟩ := zfacts Z) | (have Z := Aside0.mk (blk_below Z.out hb); obtain ⟨z0, z1, y0, y1⟩ := zfacts Z) | skip); have Bp := Aside0.mk (blk_below (g := w.heap.size) (o := .cells #[.int .i64 x, .int .i64 y] 28 (0, 0)) (by first | exact Bp.out | exact blk_alloc Bp.out _) hb); have Bo := Aside0.mk (blk_below (g := w.heap.size + 1) (o := .cells #[.int .i64 ox, .int .i64 oy] 23 (0, 0)) (by first | exact Bo.out | exact blk_alloc Bo.out _) hb); have R := Aside0.mk (blk_below (g := w.heap.size + 1 + 1) (o := .cells #[.int .i64 0, .int .i64 0] 28 (0, 0)) (by first | exact R.out | exact blk_alloc R.out _) hb); have d0 : w11.cell? ⟨w.heap.size, 0, none⟩ = some (.int .i64 x) := (blk_cell Bp.out 0).trans rfl; have d1 : w11.cell? ⟨w.heap.size, 1, none⟩ = some (.int .i64 y) := (blk_cell Bp.out 1).trans rfl; have e0 : w11.cell? ⟨w.heap.size + 1, 0, none⟩ = some (.int .i64 ox) := (blk_cell Bo.out 0).trans rfl; have e1 : w11.cell? ⟨w.heap.size + 1, 1, none⟩ = some (.int .i64 oy) := (blk_cell Bo.out 1).trans rfl; have Hb := Aside0.mk (bthen (w := w) hb (by repeat (first | exact Hb.out | apply below_alloc | apply below_drew | apply pw_below_drewN))); clear hb; have N11 := Aside0.mk hN; clear hN; obtain ⟨sN11, AN11, lN11, cN11, rfl⟩ := N11.out.shape) | (go_at_call 27; (with_reducible refine (long_c ox Hox.out _).mono ?_); rintro e w12 ⟨vN12, rfl, hN, hb⟩; (first | (have Z := Aside0.mk (blk_below (o := .cells #[.int .i64 0, .slice none 0 0] 48 (0, 0)) (blk_new _ _) hb); have hz := Aside0.mk (blk_lt R.out); have hzx := Aside0.mk (blk_lt R.out); obtain ⟨z0, z1, y0, y1⟩ := zfacts Z) | (have Z := Aside0.mk (blk_below (g := W.heap.size) (o := .cells #[.int .i64 0, .slice none 0 0] 48 (0, 0)) (by exact blk_new W _) hb); have hz := Aside0.mk (blk_lt R.out); have hzx := Aside0.mk (blk_lt R.out); obtain ⟨z0, z1, y0, y1⟩ := zfacts Z) | (have Z := Aside0.mk (blk_below Z.out hb); obtain ⟨z0, z1, y0, y1⟩ := zfacts Z) | skip); have N11 := Aside0.mk (NI.below (by first | exact N11.out | exact N11.out.below (al _ _)) hb); have Bp := Aside0.mk (blk_below (g := w.heap.size) (o := .cells #[.int .i64 x, .int .i64 y] 28 (0, 0)) (by first | exact Bp.out | exact blk_alloc Bp.out _) hb); have Bo := Aside0.mk (blk_below (g := w.heap.size + 1) (o := .cells #[.int .i64 ox, .int .i64 oy] 23 (0, 0)) (by first | exact Bo.out | exact blk_alloc Bo.out _) hb); have R := Aside0.mk (blk_below (g := w.heap.size + 1 + 1) (o := .cells #[.int .i64 0, .int .i64 0] 28 (0, 0)) (by first | exact R.out | exact blk_alloc R.out _) hb); have d0 : w12.cell? ⟨w.heap.size, 0, none⟩ = some (.int .i64 x) := (blk_cell Bp.out 0).trans rfl; have d1 : w12.cell? ⟨w.heap.size, 1, none⟩ = some (.int .i64 y) := (blk_cell Bp.out 1).trans rfl; have e0 : w12.cell? ⟨w.heap.size + 1, 0, none⟩ = some (.int .i64 ox) := (blk_cell Bo.out 0).trans rfl; have e1 : w12.cell? ⟨w.heap.size + 1, 1, none⟩ = some (.int .i64 oy) := (blk_cell Bo.out 1).trans rfl; have Hb := Aside0.mk (bthen (w := w) hb (by repeat (first | exact Hb.out | apply below_alloc | apply below_drew | apply pw_below_drewN))); clear hb; have N12 := Aside0.mk hN; clear hN; obtain ⟨sN12, AN12, lN12, cN12, rfl⟩ := N12.out.shape) | (go_at_call 27; (with_reducible refine (long_c sd Hsd.out _).mono ?_); rintro e w13 ⟨vN13, rfl, hN, hb⟩; (first | (have Z := Aside0.mk (blk_below (o := .cells #[.int .i64 0, .slice none 0 0] 48 (0, 0)) (blk_new _ _) hb); have hz := Aside0.mk (blk_lt R.out); have hzx := Aside0.mk (blk_lt R.out); obtain ⟨z0, z1, y0, y1⟩ := zfacts Z) | (have Z := Aside0.mk (blk_below (g := W.heap.size) (o := .cells #[.int .i64 0, .slice none 0 0] 48 (0, 0)) (by exact blk_new W _) hb); have hz := Aside0.mk (blk_lt R.out); have hzx := Aside0.mk (blk_lt R.out); obtain ⟨z0, z1, y0, y1⟩ := zfacts Z) | (have Z := Aside0.mk (blk_below Z.out hb); obtain ⟨z0, z1, y0, y1⟩ := zfacts Z) | skip); have N11 := Aside0.mk (NI.below (by first | exact N11.out | exact N11.out.below (al _ _)) hb); have N12 := Aside0.mk (NI.below (by first | exact N12.out | exact N12.out.below (al _ _)) hb); have Bp := Aside0.mk (blk_below (g := w.heap.size) (o := .cells #[.int .i64 x, .int .i64 y] 28 (0, 0)) (by first | exact Bp.out | exact blk_alloc Bp.out _) hb); have Bo := Aside0.mk (blk_below (g := w.heap.size + 1) (o := .cells #[.int .i64 ox, .int .i64 oy] 23 (0, 0)) (by first | exact Bo.out | exact blk_alloc Bo.out _) hb); have R := Aside0.mk (blk_below (g := w.heap.size + 1 + 1) (o := .cells #[.int .i64 0, .int .i64 0] 28 (0, 0)) (by first | exact R.out | exact blk_alloc R.out _) hb); have d0 : w13.cell? ⟨w.heap.size, 0, none⟩ = some (.int .i64 x) := (blk_cell Bp.out 0).trans rfl; have d1 : w13.cell? ⟨w.heap.size, 1, none⟩ = some (.int .i64 y) := (blk_cell Bp.out 1).trans rfl; have e0 : w13.cell? ⟨w.heap.size + 1, 0, none⟩ = some (.int .i64 ox) := (blk_cell Bo.out 0).trans rfl; have e1 : w13.cell? ⟨w.heap.size + 1, 1, none⟩ = some (.int .i64 oy) := (blk_cell Bo.out 1).trans rfl; have Hb := Aside0.mk (bthen (w := w) hb (by repeat (first | exact Hb.out | apply below_alloc | apply below_drew | apply pw_below_drewN))); clear hb; have N13 := Aside0.mk hN; clear hN; obtain ⟨sN13, AN13, lN13, cN13, rfl⟩ := N13.out.shape) | (go_at_call 31; refine (mul_c _ _ ox sd Mox.out Msd.out _ (by first | exact N12.out | exact N12.out.below (al _ _)) (by first | exact N13.out | exact N13.out.below (al _ _))).mono ?_; rintro e w14 ⟨vN14, rfl, hN, hb⟩; (first | (have Z := Aside0.mk (blk_below (o := .cells #[.int .i64 0, .slice none 0 0] 48 (0, 0)) (blk_new _ _) hb); have hz := Aside0.mk (blk_lt R.out); have hzx := Aside0.mk (blk_lt R.out); obtain ⟨z0, z1, y0, y1⟩ := zfacts Z) | (have Z := Aside0.mk (blk_below (g := W.heap.size) (o := .cells #[.int .i64 0, .slice none 0 0] 48 (0, 0)) (by exact blk_new W _) hb); have hz := Aside0.mk (blk_lt R.out); have hzx := Aside0.mk (blk_lt R.out); obtain ⟨z0, z1, y0, y1⟩ := zfacts Z) | (have Z := Aside0.mk (blk_below Z.out hb); obtain ⟨z0, z1, y0, y1⟩ := zfacts Z) | skip); have N11 := Aside0.mk (NI.below (by first | exact N11.out | exact N11.out.below (al _ _)) hb); have Bp := Aside0.mk (blk_below (g := w.heap.size) (o := .cells #[.int .i64 x, .int .i64 y] 28 (0, 0)) (by first | exact Bp.out | exact blk_alloc Bp.out _) hb); have Bo := Aside0.mk (blk_below (g := w.heap.size + 1) (o := .cells #[.int .i64 ox, .int .i64 oy] 23 (0, 0)) (by first | exact Bo.out | exact blk_alloc Bo.out _) hb); have R := Aside0.mk (blk_below (g := w.heap.size + 1 + 1) (o := .cells #[.int .i64 0, .int .i64 0] 28 (0, 0)) (by first | exact R.out | exact blk_alloc R.out _) hb); have d0 : w14.cell? ⟨w.heap.size, 0, none⟩ = some (.int .i64 x) := (blk_cell Bp.out 0).trans rfl; have d1 : w14.cell? ⟨w.heap.size, 1, none⟩ = some (.int .i64 y) := (blk_cell Bp.out 1).trans rfl; have e0 : w14.cell? ⟨w.heap.size + 1, 0, none⟩ = some (.int .i64 ox) := (blk_cell Bo.out 0).trans rfl; have e1 : w14.cell? ⟨w.heap.size + 1, 1, none⟩ = some (.int .i64 oy) := (blk_cell Bo.out 1).trans rfl; have Hb := Aside0.mk (bthen (w := w) hb (by repeat (first | exact Hb.out | apply below_alloc | apply below_drew | apply pw_below_drewN))); clear hb; have N14 := Aside0.mk hN; clear hN; obtain ⟨sN14, AN14, lN14, cN14, rfl⟩ := N14.out.shape) | (go_at_call 30; refine (add_c _ _ x (ox * sd) Mx.out Moxsd.out _ (by first | exact N11.out | exact N11.out.below (al _ _)) (by first | exact N14.out | exact N14.out.below (al _ _))).mono ?_; rintro e w15 ⟨vN15, rfl, hN, hb⟩; (first | (have Z := Aside0.mk (blk_below (o := .cells #[.int .i64 0, .slice none 0 0] 48 (0, 0)) (blk_new _ _) hb); have hz := Aside0.mk (blk_lt R.out); have hzx := Aside0.mk (blk_lt R.out); obtain ⟨z0, z1, y0, y1⟩ := zfacts Z) | (have Z := Aside0.mk (blk_below (g := W.heap.size) (o := .cells #[.int .i64 0, .slice none 0 0] 48 (0, 0)) (by exact blk_new W _) hb); have hz := Aside0.mk (blk_lt R.out); have hzx := Aside0.mk (blk_lt R.out); obtain ⟨z0, z1, y0, y1⟩ := zfacts Z) | (have Z := Aside0.mk (blk_below Z.out hb); obtain ⟨z0, z1, y0, y1⟩ := zfacts Z) | skip); have Bp := Aside0.mk (blk_below (g := w.heap.size) (o := .cells #[.int .i64 x, .int .i64 y] 28 (0, 0)) (by first | exact Bp.out | exact blk_alloc Bp.out _) hb); have Bo := Aside0.mk (blk_below (g := w.heap.size + 1) (o := .cells #[.int .i64 ox, .int .i64 oy] 23 (0, 0)) (by first | exact Bo.out | exact blk_alloc Bo.out _) hb); have R := Aside0.mk (blk_below (g := w.heap.size + 1 + 1) (o := .cells #[.int .i64 0, .int .i64 0] 28 (0, 0)) (by first | exact R.out | exact blk_alloc R.out _) hb); have d0 : w15.cell? ⟨w.heap.size, 0, none⟩ = some (.int .i64 x) := (blk_cell Bp.out 0).trans rfl; have d1 : w15.cell? ⟨w.heap.size, 1, none⟩ = some (.int .i64 y) := (blk_cell Bp.out 1).trans rfl; have e0 : w15.cell? ⟨w.heap.size + 1, 0, none⟩ = some (.int .i64 ox) := (blk_cell Bo.out 0).trans rfl; have e1 : w15.cell? ⟨w.heap.size + 1, 1, none⟩ = some (.int .i64 oy) := (blk_cell Bo.out 1).trans rfl; have Hb := Aside0.mk (bthen (w := w) hb (by repeat (first | exact Hb.out | apply below_alloc | apply below_drew | apply pw_below_drewN))); clear hb; have N15 := Aside0.mk hN; clear hN; obtain ⟨sN15, AN15, lN15, cN15, rfl⟩ := N15.out.shape))
    all_goals (go_wp2_with fail; go_meet)
    all_goals first | exact X1.of_alloc Bp Bo R Hb N15 | exact X1.of_put Bp Bo R Hb N15 Z hz
  case rest =>
  obtain ⟨Bp, Bo, R, Hb, gx, sx, Ax, lx, cx, rfl, Bx, Nx⟩ := hcut
  clear d0 d1 e0 e1
  have d0 : wc.cell? ⟨w.heap.size, 0, none⟩ = some (.int .i64 x) := (blk_cell Bp.out 0).trans rfl
  have d1 : wc.cell? ⟨w.heap.size, 1, none⟩ = some (.int .i64 y) := (blk_cell Bp.out 1).trans rfl
  have e0 : wc.cell? ⟨w.heap.size + 1, 0, none⟩ = some (.int .i64 ox) := (blk_cell Bo.out 0).trans rfl
  have e1 : wc.cell? ⟨w.heap.size + 1, 1, none⟩ = some (.int .i64 oy) := (blk_cell Bo.out 1).trans rfl
  go_upto_region 2 with fail
  go_cut [9] (fun v9 wx => X2 w x y gx sx Ax lx cx (x + ox * sd) (y + oy * sd) v9 wx)
  case first =>
    go_region_held3 (fun w' => w'.cell? ⟨w.heap.size, 1, none⟩ = some (.int .i64 y) ∧ w'.cell? ⟨w.heap.size + 1, 1, none⟩ = some (.int .i64 oy)) (first | exact ⟨d1, e1⟩ | exact ⟨(al_cell d1), (al_cell e1)⟩ | exact ⟨far2 d1 (by have := hz.out; omega), far2 e1 (by have := hz.out; omega)⟩ | (refine ⟨?_, ?_⟩ <;> (go_keep; done)))
      (first | (go_at_call 27; (with_reducible refine (long_c y Hy.out _).mono ?_); rintro e w21 ⟨vN21, rfl, hN, hb⟩; (first | (have Z := Aside0.mk (blk_below (o := .cells #[.int .i64 0, .slice none 0 0] 48 (0, 0)) (blk_new _ _) hb); have hz := Aside0.mk (blk_lt R.out); have hzx := Aside0.mk (blk_lt Bx.out); obtain ⟨z0, z1, y0, y1⟩ := zfacts Z) | (have Z := Aside0.mk (blk_below (g := wc.heap.size) (o := .cells #[.int .i64 0, .slice none 0 0] 48 (0, 0)) (by exact blk_new wc _) hb); have hz := Aside0.mk (blk_lt R.out); have hzx := Aside0.mk (blk_lt Bx.out); obtain ⟨z0, z1, y0, y1⟩ := zfacts Z) | (have Z := Aside0.mk (blk_below Z.out hb); obtain ⟨z0, z1, y0, y1⟩ := zfacts Z) | skip); have Nx := Aside0.mk (NI.below (by first | exact Nx.out | exact Nx.out.below (al _ _) | exact Nx.out.below (by repeat (first | exact Below.refl _ _ | apply below_alloc | apply below_drew | apply pw_below_drewN))) hb); have Bp := Aside0.mk (blk_below (g := w.heap.size) (o := .cells #[.int .i64 x, .int .i64 y] 28 (0, 0)) (by first | exact Bp.out | exact blk_alloc Bp.out _) hb); have Bo := Aside0.mk (blk_below (g := w.heap.size + 1) (o := .cells #[.int .i64 ox, .int .i64 oy] 23 (0, 0)) (by first | exact Bo.out | exact blk_alloc Bo.out _) hb); have R := Aside0.mk (blk_below (g := w.heap.size + 1 + 1) (o := .cells #[.int .i64 0, .int .i64 0] 28 (0, 0)) (by first | exact R.out | exact blk_alloc R.out _) hb); have Bx := Aside0.mk (blk_below (g := gx) (o := .cells #[.int .i64 sx, .slice Ax lx cx] 48 (0, 0)) (by first | exact Bx.out | exact blk_alloc Bx.out _) hb); have d0 : w21.cell? ⟨w.heap.size, 0, none⟩ = some (.int .i64 x) := (blk_cell Bp.out 0).trans rfl; have d1 : w21.cell? ⟨w.heap.size, 1, none⟩ = some (.int .i64 y) := (blk_cell Bp.out 1).trans rfl; have e0 : w21.cell? ⟨w.heap.size + 1, 0, none⟩ = some (.int .i64 ox) := (blk_cell Bo.out 0).trans rfl; have e1 : w21.cell? ⟨w.heap.size + 1, 1, none⟩ = some (.int .i64 oy) := (blk_cell Bo.out 1).trans rfl; have Hb := Aside0.mk (bthen (w := w) hb (by repeat (first | exact Hb.out | apply below_alloc | apply below_drew | apply pw_below_drewN))); clear hb; have N21 := Aside0.mk hN; clear hN; obtain ⟨sN21, AN21, lN21, cN21, rfl⟩ := N21.out.shape) | (go_at_call 27; (with_reducible refine (long_c oy Hoy.out _).mono ?_); rintro e w22 ⟨vN22, rfl, hN, hb⟩; (first | (have Z := Aside0.mk (blk_below (o := .cells #[.int .i64 0, .slice none 0 0] 48 (0, 0)) (blk_new _ _) hb); have hz := Aside0.mk (blk_lt R.out); have hzx := Aside0.mk (blk_lt Bx.out); obtain ⟨z0, z1, y0, y1⟩ := zfacts Z) | (have Z := Aside0.mk (blk_below (g := wc.heap.size) (o := .cells #[.int .i64 0, .slice none 0 0] 48 (0, 0)) (by exact blk_new wc _) hb); have hz := Aside0.mk (blk_lt R.out); have hzx := Aside0.mk (blk_lt Bx.out); obtain ⟨z0, z1, y0, y1⟩ := zfacts Z) | (have Z := Aside0.mk (blk_below Z.out hb); obtain ⟨z0, z1, y0, y1⟩ := zfacts Z) | skip); have Nx := Aside0.mk (NI.below (by first | exact Nx.out | exact Nx.out.below (al _ _) | exact Nx.out.below (by repeat (first | exact Below.refl _ _ | apply below_alloc | apply below_drew | apply pw_below_drewN))) hb); have N21 := Aside0.mk (NI.below (by first | exact N21.out | exact N21.out.below (al _ _)) hb); have Bp := Aside0.mk (blk_below (g := w.heap.size) (o := .cells #[.int .i64 x, .int .i64 y] 28 (0, 0)) (by first | exact Bp.out | exact blk_alloc Bp.out _) hb); have Bo := Aside0.mk (blk_below (g := w.heap.size + 1) (o := .cells #[.int .i64 ox, .int .i64 oy] 23 (0, 0)) (by first | exact Bo.out | exact blk_alloc Bo.out _) hb); have R := Aside0.mk (blk_below (g := w.heap.size + 1 + 1) (o := .cells #[.int .i64 0, .int .i64 0] 28 (0, 0)) (by first | exact R.out | exact blk_alloc R.out _) hb); have Bx := Aside0.mk (blk_below (g := gx) (o := .cells #[.int .i64 sx, .slice Ax lx cx] 48 (0, 0)) (by first | exact Bx.out | exact blk_alloc Bx.out _) hb); have d0 : w22.cell? ⟨w.heap.size, 0, none⟩ = some (.int .i64 x) := (blk_cell Bp.out 0).trans rfl; have d1 : w22.cell? ⟨w.heap.size, 1, none⟩ = some (.int .i64 y) := (blk_cell Bp.out 1).trans rfl; have e0 : w22.cell? ⟨w.heap.size + 1, 0, none⟩ = some (.int .i64 ox) := (blk_cell Bo.out 0).trans rfl; have e1 : w22.cell? ⟨w.heap.size + 1, 1, none⟩ = some (.int .i64 oy) := (blk_cell Bo.out 1).trans rfl; have Hb := Aside0.mk (bthen (w := w) hb (by repeat (first | exact Hb.out | apply below_alloc | apply below_drew | apply pw_below_drewN))); clear hb; have N22 := Aside0.mk hN; clear hN; obtain ⟨sN22, AN22, lN22, cN22, rfl⟩ := N22.out.shape) | (go_at_call 27; (with_reducible refine (long_c sd Hsd.out _).mono ?_); rintro e w23 ⟨vN23, rfl, hN, hb⟩; (first | (have Z := Aside0.mk (blk_below (o := .cells #[.int .i64 0, .slice none 0 0] 48 (0, 0)) (blk_new _ _) hb); have hz := Aside0.mk (blk_lt R.out); have hzx := Aside0.mk (blk_lt Bx.out); obtain ⟨z0, z1, y0, y1⟩ := zfacts Z) | (have Z := Aside0.mk (blk_below (g := wc.heap.size) (o := .cells #[.int .i64 0, .slice none 0 0] 48 (0, 0)) (by exact blk_new wc _) hb); have hz := Aside0.mk (blk_lt R.out); have hzx := Aside0.mk (blk_lt Bx.out); obtain ⟨z0, z1, y0, y1⟩ := zfacts Z) | (have Z := Aside0.mk (blk_below Z.out hb); obtain ⟨z0, z1, y0, y1⟩ := zfacts Z) | skip); have Nx := Aside0.mk (NI.below (by first | exact Nx.out | exact Nx.out.below (al _ _) | exact Nx.out.below (by repeat (first | exact Below.refl _ _ | apply below_alloc | apply below_drew | apply pw_below_drewN))) hb); have N21 := Aside0.mk (NI.below (by first | exact N21.out | exact N21.out.below (al _ _)) hb); have N22 := Aside0.mk (NI.below (by first | exact N22.out | exact N22.out.below (al _ _)) hb); have Bp := Aside0.mk (blk_below (g := w.heap.size) (o := .cells #[.int .i64 x, .int .i64 y] 28 (0, 0)) (by first | exact Bp.out | exact blk_alloc Bp.out _) hb); have Bo := Aside0.mk (blk_below (g := w.heap.size + 1) (o := .cells #[.int .i64 ox, .int .i64 oy] 23 (0, 0)) (by first | exact Bo.out | exact blk_alloc Bo.out _) hb); have R := Aside0.mk (blk_below (g := w.heap.size + 1 + 1) (o := .cells #[.int .i64 0, .int .i64 0] 28 (0, 0)) (by first | exact R.out | exact blk_alloc R.out _) hb); have Bx := Aside0.mk (blk_below (g := gx) (o := .cells #[.int .i64 sx, .slice Ax lx cx] 48 (0, 0)) (by first | exact Bx.out | exact blk_alloc Bx.out _) hb); have d0 : w23.cell? ⟨w.heap.size, 0, none⟩ = some (.int .i64 x) := (blk_cell Bp.out 0).trans rfl; have d1 : w23.cell? ⟨w.heap.size, 1, none⟩ = some (.int .i64 y) := (blk_cell Bp.out 1).trans rfl; have e0 : w23.cell? ⟨w.heap.size + 1, 0, none⟩ = some (.int .i64 ox) := (blk_cell Bo.out 0).trans rfl; have e1 : w23.cell? ⟨w.heap.size + 1, 1, none⟩ = some (.int .i64 oy) := (blk_cell Bo.out 1).trans rfl; have Hb := Aside0.mk (bthen (w := w) hb (by repeat (first | exact Hb.out | apply below_alloc | apply below_drew | apply pw_below_drewN))); clear hb; have N23 := Aside0.mk hN; clear hN; obtain ⟨sN23, AN23, lN23, cN23, rfl⟩ := N23.out.shape) | (go_at_call 31; refine (mul_c _ _ oy sd Moy.out Msd.out _ (by first | exact N22.out | exact N22.out.below (al _ _)) (by first | exact N23.out | exact N23.out.below (al _ _))).mono ?_; rintro e w24 ⟨vN24, rfl, hN, hb⟩; (first | (have Z := Aside0.mk (blk_below (o := .cells #[.int .i64 0, .slice none 0 0] 48 (0, 0)) (blk_new _ _) hb); have hz := Aside0.mk (blk_lt R.out); have hzx := Aside0.mk (blk_lt Bx.out); obtain ⟨z0, z1, y0, y1⟩ := zfacts Z) | (have Z := Aside0.mk (blk_below (g := wc.heap.size) (o := .cells #[.int .i64 0, .slice none 0 0] 48 (0, 0)) (by exact blk_new wc _) hb); have hz := Aside0.mk (blk_lt R.out); have hzx := Aside0.mk (blk_lt Bx.out); obtain ⟨z0, z1, y0, y1⟩ := zfacts Z) | (have Z := Aside0.mk (blk_below Z.out hb); obtain ⟨z0, z1, y0, y1⟩ := zfacts Z) | skip); have Nx := Aside0.mk (NI.below (by first | exact Nx.out | exact Nx.out.below (al _ _) | exact Nx.out.below (by repeat (first | exact Below.refl _ _ | apply below_alloc | apply below_drew | apply pw_below_drewN))) hb); have N21 := Aside0.mk (NI.below (by first | exact N21.out | exact N21.out.below (al _ _)) hb); have Bp := Aside0.mk (blk_below (g := w.heap.size) (o := .cells #[.int .i64 x, .int .i64 y] 28 (0, 0)) (by first | exact Bp.out | exact blk_alloc Bp.out _) hb); have Bo := Aside0.mk (blk_below (g := w.heap.size + 1) (o := .cells #[.int .i64 ox, .int .i64 oy] 23 (0, 0)) (by first | exact Bo.out | exact blk_alloc Bo.out _) hb); have R := Aside0.mk (blk_below (g := w.heap.size + 1 + 1) (o := .cells #[.int .i64 0, .int .i64 0] 28 (0, 0)) (by first | exact R.out | exact blk_alloc R.out _) hb); have Bx := Aside0.mk (blk_below (g := gx) (o := .cells #[.int .i64 sx, .slice Ax lx cx] 48 (0, 0)) (by first | exact Bx.out | exact blk_alloc Bx.out _) hb); have d0 : w24.cell? ⟨w.heap.size, 0, none⟩ = some (.int .i64 x) := (blk_cell Bp.out 0).trans rfl; have d1 : w24.cell? ⟨w.heap.size, 1, none⟩ = some (.int .i64 y) := (blk_cell Bp.out 1).trans rfl; have e0 : w24.cell? ⟨w.heap.size + 1, 0, none⟩ = some (.int .i64 ox) := (blk_cell Bo.out 0).trans rfl; have e1 : w24.cell? ⟨w.heap.size + 1, 1, none⟩ = some (.int .i64 oy) := (blk_cell Bo.out 1).trans rfl; have Hb := Aside0.mk (bthen (w := w) hb (by repeat (first | exact Hb.out | apply below_alloc | apply below_drew | apply pw_below_drewN))); clear hb; have N24 := Aside0.mk hN; clear hN; obtain ⟨sN24, AN24, lN24, cN24, rfl⟩ := N24.out.shape) | (go_at_call 30; refine (add_c _ _ y (oy * sd) My.out Moysd.out _ (by first | exact N21.out | exact N21.out.below (al _ _)) (by first | exact N24.out | exact N24.out.below (al _ _))).mono ?_; rintro e w25 ⟨vN25, rfl, hN, hb⟩; (first | (have Z := Aside0.mk (blk_below (o := .cells #[.int .i64 0, .slice none 0 0] 48 (0, 0)) (blk_new _ _) hb); have hz := Aside0.mk (blk_lt R.out); have hzx := Aside0.mk (blk_lt Bx.out); obtain ⟨z0, z1, y0, y1⟩ := zfacts Z) | (have Z := Aside0.mk (blk_below (g := wc.heap.size) (o := .cells #[.int .i64 0, .slice none 0 0] 48 (0, 0)) (by exact blk_new wc _) hb); have hz := Aside0.mk (blk_lt R.out); have hzx := Aside0.mk (blk_lt Bx.out); obtain ⟨z0, z1, y0, y1⟩ := zfacts Z) | (have Z := Aside0.mk (blk_below Z.out hb); obtain ⟨z0, z1, y0, y1⟩ := zfacts Z) | skip); have Nx := Aside0.mk (NI.below (by first | exact Nx.out | exact Nx.out.below (al _ _) | exact Nx.out.below (by repeat (first | exact Below.refl _ _ | apply below_alloc | apply below_drew | apply pw_below_drewN))) hb); have Bp := Aside0.mk (blk_below (g := w.heap.size) (o := .cells #[.int .i64 x, .int .i64 y] 28 (0, 0)) (by first | exact Bp.out | exact blk_alloc Bp.out _) hb); have Bo := Aside0.mk (blk_below (g := w.heap.size + 1) (o := .cells #[.int .i64 ox, .int .i64 oy] 23 (0, 0)) (by first | exact Bo.out | exact blk_alloc Bo.out _) hb); have R := Aside0.mk (blk_below (g := w.heap.size + 1 + 1) (o := .cells #[.int .i64 0, .int .i64 0] 28 (0, 0)) (by first | exact R.out | exact blk_alloc R.out _) hb); have Bx := Aside0.mk (blk_below (g := gx) (o := .cells #[.int .i64 sx, .slice Ax lx cx] 48 (0, 0)) (by first | exact Bx.out | exact blk_alloc Bx.out _) hb); have d0 : w25.cell? ⟨w.heap.size, 0, none⟩ = some (.int .i64 x) := (blk_cell Bp.out 0).trans rfl; have d1 : w25.cell? ⟨w.heap.size, 1, none⟩ = some (.int .i64 y) := (blk_cell Bp.out 1).trans rfl; have e0 : w25.cell? ⟨w.heap.size + 1, 0, none⟩ = some (.int .i64 ox) := (blk_cell Bo.out 0).trans rfl; have e1 : w25.cell? ⟨w.heap.size + 1, 1, none⟩ = some (.int .i64 oy) := (blk_cell Bo.out 1).trans rfl; have Hb := Aside0.mk (bthen (w := w) hb (by repeat (first | exact Hb.out | apply below_alloc | apply below_drew | apply pw_below_drewN))); clear hb; have N25 := Aside0.mk hN; clear hN; obtain ⟨sN25, AN25, lN25, cN25, rfl⟩ := N25.out.shape))
    all_goals (go_wp2_with fail; go_meet)
    all_goals first | exact X2.of_alloc Bp R Hb Bx Nx N25 | exact X2.of_put Bp R Hb Bx Nx N25 Z hz hzx
  case rest =>
  obtain ⟨Bp, R, Hb, Bx, Nx, gy, sy, Ay, ly, cy, rfl, By, Ny⟩ := hcut
  clear d0 d1 e0 e1
  have d0 : wc.cell? ⟨w.heap.size, 0, none⟩ = some (.int .i64 x) := (blk_cell Bp.out 0).trans rfl; have d1 : wc.cell? ⟨w.heap.size, 1, none⟩ = some (.int .i64 y) := (blk_cell Bp.out 1).trans rfl; have r0 : wc.cell? ⟨w.heap.size + 1 + 1, 0, none⟩ = some (.int .i64 0) := (blk_cell R.out 0).trans rfl; have r1 : wc.cell? ⟨w.heap.size + 1 + 1, 1, none⟩ = some (.int .i64 0) := (blk_cell R.out 1).trans rfl; have x0 : wc.cell? ⟨gx, 0, none⟩ = some (.int .i64 sx) := (blk_cell Bx.out 0).trans rfl; have x1 : wc.cell? ⟨gx, 1, none⟩ = some (.slice Ax lx cx) := (blk_cell Bx.out 1).trans rfl; have y0 : wc.cell? ⟨gy, 0, none⟩ = some (.int .i64 sy) := (blk_cell By.out 0).trans rfl; have y1 : wc.cell? ⟨gy, 1, none⟩ = some (.slice Ay ly cy) := (blk_cell By.out 1).trans rfl; have rf0 := blk_frozen R.out 0; have rf1 := blk_frozen R.out 1
  cases t
  · have hr := hr.out; subst hr
    go_wp2_with (first | (go_at_call 25; refine (zelligeref06_Torus.calls _ _ _ ht.out).mono ?_; rintro e v1 ⟨rfl, hb⟩; have hb := hb.below; have Bp := Aside0.mk (blk_below Bp.out hb); have R := Aside0.mk (blk_below R.out hb); have Bx := Aside0.mk (blk_below Bx.out hb); have By := Aside0.mk (blk_below By.out hb); have Nx := Aside0.mk (Nx.out.below hb); have Ny := Aside0.mk (Ny.out.below hb); have Hb := Aside0.mk (bthen (w := w) hb Hb.out); clear hb d0 d1 r0 r1 x0 x1 y0 y1 rf0 rf1; have d0 : v1.cell? ⟨w.heap.size, 0, none⟩ = some (.int .i64 x) := (blk_cell Bp.out 0).trans rfl; have d1 : v1.cell? ⟨w.heap.size, 1, none⟩ = some (.int .i64 y) := (blk_cell Bp.out 1).trans rfl; have r0 : v1.cell? ⟨w.heap.size + 1 + 1, 0, none⟩ = some (.int .i64 0) := (blk_cell R.out 0).trans rfl; have r1 : v1.cell? ⟨w.heap.size + 1 + 1, 1, none⟩ = some (.int .i64 0) := (blk_cell R.out 1).trans rfl; have x0 : v1.cell? ⟨gx, 0, none⟩ = some (.int .i64 sx) := (blk_cell Bx.out 0).trans rfl; have x1 : v1.cell? ⟨gx, 1, none⟩ = some (.slice Ax lx cx) := (blk_cell Bx.out 1).trans rfl; have y0 : v1.cell? ⟨gy, 0, none⟩ = some (.int .i64 sy) := (blk_cell By.out 0).trans rfl; have y1 : v1.cell? ⟨gy, 1, none⟩ = some (.slice Ay ly cy) := (blk_cell By.out 1).trans rfl; have rf0 := blk_frozen R.out 0; have rf1 := blk_frozen R.out 1))
    refine bodyPost_ret (results_list (rs := [.cell 6 28, .tmp 7]) rfl (by simp) (.cell (w.heap.size + 1 + 1) 28 #[.int .i64 0, .int .i64 0] (0, 0) _ rfl (blk_put (cs := #[.int .i64 0, .int .i64 0]) (blk_put (cs := #[.int .i64 0, .int .i64 0]) R.out 0 _ rfl) 1 _ rfl) Try.underlying28 rfl (by kernel_rfl) (.tmp .nil))) rfl ?_
    exact ⟨rfl, below_set2 Hb.out (by omega) _ _ _ _⟩
  cases c
  · have hr := hr.out; subst hr
    go_wp2_with (first | (go_at_call 25; refine (zelligeref06_Torus.calls _ _ _ ht.out).mono ?_; rintro e v1 ⟨rfl, hb⟩; have hb := hb.below; have Bp := Aside0.mk (blk_below Bp.out hb); have R := Aside0.mk (blk_below R.out hb); have Bx := Aside0.mk (blk_below Bx.out hb); have By := Aside0.mk (blk_below By.out hb); have Nx := Aside0.mk (Nx.out.below hb); have Ny := Aside0.mk (Ny.out.below hb); have Hb := Aside0.mk (bthen (w := w) hb Hb.out); clear hb d0 d1 r0 r1 x0 x1 y0 y1 rf0 rf1; have d0 : v1.cell? ⟨w.heap.size, 0, none⟩ = some (.int .i64 x) := (blk_cell Bp.out 0).trans rfl; have d1 : v1.cell? ⟨w.heap.size, 1, none⟩ = some (.int .i64 y) := (blk_cell Bp.out 1).trans rfl; have r0 : v1.cell? ⟨w.heap.size + 1 + 1, 0, none⟩ = some (.int .i64 0) := (blk_cell R.out 0).trans rfl; have r1 : v1.cell? ⟨w.heap.size + 1 + 1, 1, none⟩ = some (.int .i64 0) := (blk_cell R.out 1).trans rfl; have x0 : v1.cell? ⟨gx, 0, none⟩ = some (.int .i64 sx) := (blk_cell Bx.out 0).trans rfl; have x1 : v1.cell? ⟨gx, 1, none⟩ = some (.slice Ax lx cx) := (blk_cell Bx.out 1).trans rfl; have y0 : v1.cell? ⟨gy, 0, none⟩ = some (.int .i64 sy) := (blk_cell By.out 0).trans rfl; have y1 : v1.cell? ⟨gy, 1, none⟩ = some (.slice Ay ly cy) := (blk_cell By.out 1).trans rfl; have rf0 := blk_frozen R.out 0; have rf1 := blk_frozen R.out 1) | (go_at_call 16; refine (zelligeref06_Can.calls _ _ _ _ hc.out).mono ?_; rintro e v2 ⟨rfl, hb⟩; have Bp := Aside0.mk (blk_below Bp.out hb); have R := Aside0.mk (blk_below R.out hb); have Bx := Aside0.mk (blk_below Bx.out hb); have By := Aside0.mk (blk_below By.out hb); have Nx := Aside0.mk (Nx.out.below hb); have Ny := Aside0.mk (Ny.out.below hb); have Hb := Aside0.mk (bthen (w := w) hb Hb.out); clear hb d0 d1 r0 r1 x0 x1 y0 y1 rf0 rf1; have d0 : v2.cell? ⟨w.heap.size, 0, none⟩ = some (.int .i64 x) := (blk_cell Bp.out 0).trans rfl; have d1 : v2.cell? ⟨w.heap.size, 1, none⟩ = some (.int .i64 y) := (blk_cell Bp.out 1).trans rfl; have r0 : v2.cell? ⟨w.heap.size + 1 + 1, 0, none⟩ = some (.int .i64 0) := (blk_cell R.out 0).trans rfl; have r1 : v2.cell? ⟨w.heap.size + 1 + 1, 1, none⟩ = some (.int .i64 0) := (blk_cell R.out 1).trans rfl; have x0 : v2.cell? ⟨gx, 0, none⟩ = some (.int .i64 sx) := (blk_cell Bx.out 0).trans rfl; have x1 : v2.cell? ⟨gx, 1, none⟩ = some (.slice Ax lx cx) := (blk_cell Bx.out 1).trans rfl; have y0 : v2.cell? ⟨gy, 0, none⟩ = some (.int .i64 sy) := (blk_cell By.out 0).trans rfl; have y1 : v2.cell? ⟨gy, 1, none⟩ = some (.slice Ay ly cy) := (blk_cell By.out 1).trans rfl; have rf0 := blk_frozen R.out 0; have rf1 := blk_frozen R.out 1))
    refine bodyPost_ret (results_list (rs := [.cell 6 28, .tmp 7]) rfl (by simp) (.cell (w.heap.size + 1 + 1) 28 #[.int .i64 0, .int .i64 0] (0, 0) _ rfl (blk_put (cs := #[.int .i64 0, .int .i64 0]) (blk_put (cs := #[.int .i64 0, .int .i64 0]) R.out 0 _ rfl) 1 _ rfl) Try.underlying28 rfl (by kernel_rfl) (.tmp .nil))) rfl ?_
    exact ⟨rfl, below_set2 Hb.out (by omega) _ _ _ _⟩
  cases i
  · have hr := hr.out; subst hr
    go_wp2_with (first | (go_at_call 25; refine (zelligeref06_Torus.calls _ _ _ ht.out).mono ?_; rintro e v1 ⟨rfl, hb⟩; have hb := hb.below; have Bp := Aside0.mk (blk_below Bp.out hb); have R := Aside0.mk (blk_below R.out hb); have Bx := Aside0.mk (blk_below Bx.out hb); have By := Aside0.mk (blk_below By.out hb); have Nx := Aside0.mk (Nx.out.below hb); have Ny := Aside0.mk (Ny.out.below hb); have Hb := Aside0.mk (bthen (w := w) hb Hb.out); clear hb d0 d1 r0 r1 x0 x1 y0 y1 rf0 rf1; have d0 : v1.cell? ⟨w.heap.size, 0, none⟩ = some (.int .i64 x) := (blk_cell Bp.out 0).trans rfl; have d1 : v1.cell? ⟨w.heap.size, 1, none⟩ = some (.int .i64 y) := (blk_cell Bp.out 1).trans rfl; have r0 : v1.cell? ⟨w.heap.size + 1 + 1, 0, none⟩ = some (.int .i64 0) := (blk_cell R.out 0).trans rfl; have r1 : v1.cell? ⟨w.heap.size + 1 + 1, 1, none⟩ = some (.int .i64 0) := (blk_cell R.out 1).trans rfl; have x0 : v1.cell? ⟨gx, 0, none⟩ = some (.int .i64 sx) := (blk_cell Bx.out 0).trans rfl; have x1 : v1.cell? ⟨gx, 1, none⟩ = some (.slice Ax lx cx) := (blk_cell Bx.out 1).trans rfl; have y0 : v1.cell? ⟨gy, 0, none⟩ = some (.int .i64 sy) := (blk_cell By.out 0).trans rfl; have y1 : v1.cell? ⟨gy, 1, none⟩ = some (.slice Ay ly cy) := (blk_cell By.out 1).trans rfl; have rf0 := blk_frozen R.out 0; have rf1 := blk_frozen R.out 1) | (go_at_call 16; refine (zelligeref06_Can.calls _ _ _ _ hc.out).mono ?_; rintro e v2 ⟨rfl, hb⟩; have Bp := Aside0.mk (blk_below Bp.out hb); have R := Aside0.mk (blk_below R.out hb); have Bx := Aside0.mk (blk_below Bx.out hb); have By := Aside0.mk (blk_below By.out hb); have Nx := Aside0.mk (Nx.out.below hb); have Ny := Aside0.mk (Ny.out.below hb); have Hb := Aside0.mk (bthen (w := w) hb Hb.out); clear hb d0 d1 r0 r1 x0 x1 y0 y1 rf0 rf1; have d0 : v2.cell? ⟨w.heap.size, 0, none⟩ = some (.int .i64 x) := (blk_cell Bp.out 0).trans rfl; have d1 : v2.cell? ⟨w.heap.size, 1, none⟩ = some (.int .i64 y) := (blk_cell Bp.out 1).trans rfl; have r0 : v2.cell? ⟨w.heap.size + 1 + 1, 0, none⟩ = some (.int .i64 0) := (blk_cell R.out 0).trans rfl; have r1 : v2.cell? ⟨w.heap.size + 1 + 1, 1, none⟩ = some (.int .i64 0) := (blk_cell R.out 1).trans rfl; have x0 : v2.cell? ⟨gx, 0, none⟩ = some (.int .i64 sx) := (blk_cell Bx.out 0).trans rfl; have x1 : v2.cell? ⟨gx, 1, none⟩ = some (.slice Ax lx cx) := (blk_cell Bx.out 1).trans rfl; have y0 : v2.cell? ⟨gy, 0, none⟩ = some (.int .i64 sy) := (blk_cell By.out 0).trans rfl; have y1 : v2.cell? ⟨gy, 1, none⟩ = some (.slice Ay ly cy) := (blk_cell By.out 1).trans rfl; have rf0 := blk_frozen R.out 0; have rf1 := blk_frozen R.out 1) | (go_at_call 32; (with_reducible refine (in_c _ (x + ox * sd) Sx.out _ Nx.out).mono ?_); rw [hi.out]; rintro e v3 ⟨rfl, hb⟩; have Bp := Aside0.mk (blk_below Bp.out hb); have R := Aside0.mk (blk_below R.out hb); have Bx := Aside0.mk (blk_below Bx.out hb); have By := Aside0.mk (blk_below By.out hb); have Nx := Aside0.mk (Nx.out.below hb); have Ny := Aside0.mk (Ny.out.below hb); have Hb := Aside0.mk (bthen (w := w) hb Hb.out); clear hb d0 d1 r0 r1 x0 x1 y0 y1 rf0 rf1; have d0 : v3.cell? ⟨w.heap.size, 0, none⟩ = some (.int .i64 x) := (blk_cell Bp.out 0).trans rfl; have d1 : v3.cell? ⟨w.heap.size, 1, none⟩ = some (.int .i64 y) := (blk_cell Bp.out 1).trans rfl; have r0 : v3.cell? ⟨w.heap.size + 1 + 1, 0, none⟩ = some (.int .i64 0) := (blk_cell R.out 0).trans rfl; have r1 : v3.cell? ⟨w.heap.size + 1 + 1, 1, none⟩ = some (.int .i64 0) := (blk_cell R.out 1).trans rfl; have x0 : v3.cell? ⟨gx, 0, none⟩ = some (.int .i64 sx) := (blk_cell Bx.out 0).trans rfl; have x1 : v3.cell? ⟨gx, 1, none⟩ = some (.slice Ax lx cx) := (blk_cell Bx.out 1).trans rfl; have y0 : v3.cell? ⟨gy, 0, none⟩ = some (.int .i64 sy) := (blk_cell By.out 0).trans rfl; have y1 : v3.cell? ⟨gy, 1, none⟩ = some (.slice Ay ly cy) := (blk_cell By.out 1).trans rfl; have rf0 := blk_frozen R.out 0; have rf1 := blk_frozen R.out 1))
    refine bodyPost_ret (results_list (rs := [.cell 6 28, .tmp 7]) rfl (by simp) (.cell (w.heap.size + 1 + 1) 28 #[.int .i64 0, .int .i64 0] (0, 0) _ rfl (blk_put (cs := #[.int .i64 0, .int .i64 0]) (blk_put (cs := #[.int .i64 0, .int .i64 0]) R.out 0 _ rfl) 1 _ rfl) Try.underlying28 rfl (by kernel_rfl) (.tmp .nil))) rfl ?_
    exact ⟨rfl, below_set2 Hb.out (by omega) _ _ _ _⟩
  cases j
  · have hr := hr.out; subst hr
    go_wp2_with (first | (go_at_call 25; refine (zelligeref06_Torus.calls _ _ _ ht.out).mono ?_; rintro e v1 ⟨rfl, hb⟩; have hb := hb.below; have Bp := Aside0.mk (blk_below Bp.out hb); have R := Aside0.mk (blk_below R.out hb); have Bx := Aside0.mk (blk_below Bx.out hb); have By := Aside0.mk (blk_below By.out hb); have Nx := Aside0.mk (Nx.out.below hb); have Ny := Aside0.mk (Ny.out.below hb); have Hb := Aside0.mk (bthen (w := w) hb Hb.out); clear hb d0 d1 r0 r1 x0 x1 y0 y1 rf0 rf1; have d0 : v1.cell? ⟨w.heap.size, 0, none⟩ = some (.int .i64 x) := (blk_cell Bp.out 0).trans rfl; have d1 : v1.cell? ⟨w.heap.size, 1, none⟩ = some (.int .i64 y) := (blk_cell Bp.out 1).trans rfl; have r0 : v1.cell? ⟨w.heap.size + 1 + 1, 0, none⟩ = some (.int .i64 0) := (blk_cell R.out 0).trans rfl; have r1 : v1.cell? ⟨w.heap.size + 1 + 1, 1, none⟩ = some (.int .i64 0) := (blk_cell R.out 1).trans rfl; have x0 : v1.cell? ⟨gx, 0, none⟩ = some (.int .i64 sx) := (blk_cell Bx.out 0).trans rfl; have x1 : v1.cell? ⟨gx, 1, none⟩ = some (.slice Ax lx cx) := (blk_cell Bx.out 1).trans rfl; have y0 : v1.cell? ⟨gy, 0, none⟩ = some (.int .i64 sy) := (blk_cell By.out 0).trans rfl; have y1 : v1.cell? ⟨gy, 1, none⟩ = some (.slice Ay ly cy) := (blk_cell By.out 1).trans rfl; have rf0 := blk_frozen R.out 0; have rf1 := blk_frozen R.out 1) | (go_at_call 16; refine (zelligeref06_Can.calls _ _ _ _ hc.out).mono ?_; rintro e v2 ⟨rfl, hb⟩; have Bp := Aside0.mk (blk_below Bp.out hb); have R := Aside0.mk (blk_below R.out hb); have Bx := Aside0.mk (blk_below Bx.out hb); have By := Aside0.mk (blk_below By.out hb); have Nx := Aside0.mk (Nx.out.below hb); have Ny := Aside0.mk (Ny.out.below hb); have Hb := Aside0.mk (bthen (w := w) hb Hb.out); clear hb d0 d1 r0 r1 x0 x1 y0 y1 rf0 rf1; have d0 : v2.cell? ⟨w.heap.size, 0, none⟩ = some (.int .i64 x) := (blk_cell Bp.out 0).trans rfl; have d1 : v2.cell? ⟨w.heap.size, 1, none⟩ = some (.int .i64 y) := (blk_cell Bp.out 1).trans rfl; have r0 : v2.cell? ⟨w.heap.size + 1 + 1, 0, none⟩ = some (.int .i64 0) := (blk_cell R.out 0).trans rfl; have r1 : v2.cell? ⟨w.heap.size + 1 + 1, 1, none⟩ = some (.int .i64 0) := (blk_cell R.out 1).trans rfl; have x0 : v2.cell? ⟨gx, 0, none⟩ = some (.int .i64 sx) := (blk_cell Bx.out 0).trans rfl; have x1 : v2.cell? ⟨gx, 1, none⟩ = some (.slice Ax lx cx) := (blk_cell Bx.out 1).trans rfl; have y0 : v2.cell? ⟨gy, 0, none⟩ = some (.int .i64 sy) := (blk_cell By.out 0).trans rfl; have y1 : v2.cell? ⟨gy, 1, none⟩ = some (.slice Ay ly cy) := (blk_cell By.out 1).trans rfl; have rf0 := blk_frozen R.out 0; have rf1 := blk_frozen R.out 1) | (go_at_call 32; (with_reducible refine (in_c _ (x + ox * sd) Sx.out _ Nx.out).mono ?_); rw [hi.out]; rintro e v3 ⟨rfl, hb⟩; have Bp := Aside0.mk (blk_below Bp.out hb); have R := Aside0.mk (blk_below R.out hb); have Bx := Aside0.mk (blk_below Bx.out hb); have By := Aside0.mk (blk_below By.out hb); have Nx := Aside0.mk (Nx.out.below hb); have Ny := Aside0.mk (Ny.out.below hb); have Hb := Aside0.mk (bthen (w := w) hb Hb.out); clear hb d0 d1 r0 r1 x0 x1 y0 y1 rf0 rf1; have d0 : v3.cell? ⟨w.heap.size, 0, none⟩ = some (.int .i64 x) := (blk_cell Bp.out 0).trans rfl; have d1 : v3.cell? ⟨w.heap.size, 1, none⟩ = some (.int .i64 y) := (blk_cell Bp.out 1).trans rfl; have r0 : v3.cell? ⟨w.heap.size + 1 + 1, 0, none⟩ = some (.int .i64 0) := (blk_cell R.out 0).trans rfl; have r1 : v3.cell? ⟨w.heap.size + 1 + 1, 1, none⟩ = some (.int .i64 0) := (blk_cell R.out 1).trans rfl; have x0 : v3.cell? ⟨gx, 0, none⟩ = some (.int .i64 sx) := (blk_cell Bx.out 0).trans rfl; have x1 : v3.cell? ⟨gx, 1, none⟩ = some (.slice Ax lx cx) := (blk_cell Bx.out 1).trans rfl; have y0 : v3.cell? ⟨gy, 0, none⟩ = some (.int .i64 sy) := (blk_cell By.out 0).trans rfl; have y1 : v3.cell? ⟨gy, 1, none⟩ = some (.slice Ay ly cy) := (blk_cell By.out 1).trans rfl; have rf0 := blk_frozen R.out 0; have rf1 := blk_frozen R.out 1) | (go_at_call 32; (with_reducible refine (in_c _ (y + oy * sd) Sy.out _ Ny.out).mono ?_); rw [hj.out]; rintro e v4 ⟨rfl, hb⟩; have Bp := Aside0.mk (blk_below Bp.out hb); have R := Aside0.mk (blk_below R.out hb); have Bx := Aside0.mk (blk_below Bx.out hb); have By := Aside0.mk (blk_below By.out hb); have Nx := Aside0.mk (Nx.out.below hb); have Ny := Aside0.mk (Ny.out.below hb); have Hb := Aside0.mk (bthen (w := w) hb Hb.out); clear hb d0 d1 r0 r1 x0 x1 y0 y1 rf0 rf1; have d0 : v4.cell? ⟨w.heap.size, 0, none⟩ = some (.int .i64 x) := (blk_cell Bp.out 0).trans rfl; have d1 : v4.cell? ⟨w.heap.size, 1, none⟩ = some (.int .i64 y) := (blk_cell Bp.out 1).trans rfl; have r0 : v4.cell? ⟨w.heap.size + 1 + 1, 0, none⟩ = some (.int .i64 0) := (blk_cell R.out 0).trans rfl; have r1 : v4.cell? ⟨w.heap.size + 1 + 1, 1, none⟩ = some (.int .i64 0) := (blk_cell R.out 1).trans rfl; have x0 : v4.cell? ⟨gx, 0, none⟩ = some (.int .i64 sx) := (blk_cell Bx.out 0).trans rfl; have x1 : v4.cell? ⟨gx, 1, none⟩ = some (.slice Ax lx cx) := (blk_cell Bx.out 1).trans rfl; have y0 : v4.cell? ⟨gy, 0, none⟩ = some (.int .i64 sy) := (blk_cell By.out 0).trans rfl; have y1 : v4.cell? ⟨gy, 1, none⟩ = some (.slice Ay ly cy) := (blk_cell By.out 1).trans rfl; have rf0 := blk_frozen R.out 0; have rf1 := blk_frozen R.out 1))
    refine bodyPost_ret (results_list (rs := [.cell 6 28, .tmp 7]) rfl (by simp) (.cell (w.heap.size + 1 + 1) 28 #[.int .i64 0, .int .i64 0] (0, 0) _ rfl (blk_put (cs := #[.int .i64 0, .int .i64 0]) (blk_put (cs := #[.int .i64 0, .int .i64 0]) R.out 0 _ rfl) 1 _ rfl) Try.underlying28 rfl (by kernel_rfl) (.tmp .nil))) rfl ?_
    exact ⟨rfl, below_set2 Hb.out (by omega) _ _ _ _⟩
  have hl := hl.out rfl; have hr := hr.out; subst hr; have Lx := Aside0.mk hl.1; have Ly := Aside0.mk hl.2; clear hl
  go_wp2_with (first | (go_at_call 25; refine (zelligeref06_Torus.calls _ _ _ ht.out).mono ?_; rintro e v1 ⟨rfl, hb⟩; have hb := hb.below; have Bp := Aside0.mk (blk_below Bp.out hb); have R := Aside0.mk (blk_below R.out hb); have Bx := Aside0.mk (blk_below Bx.out hb); have By := Aside0.mk (blk_below By.out hb); have Nx := Aside0.mk (Nx.out.below hb); have Ny := Aside0.mk (Ny.out.below hb); have Hb := Aside0.mk (bthen (w := w) hb Hb.out); clear hb d0 d1 r0 r1 x0 x1 y0 y1 rf0 rf1; have d0 : v1.cell? ⟨w.heap.size, 0, none⟩ = some (.int .i64 x) := (blk_cell Bp.out 0).trans rfl; have d1 : v1.cell? ⟨w.heap.size, 1, none⟩ = some (.int .i64 y) := (blk_cell Bp.out 1).trans rfl; have r0 : v1.cell? ⟨w.heap.size + 1 + 1, 0, none⟩ = some (.int .i64 0) := (blk_cell R.out 0).trans rfl; have r1 : v1.cell? ⟨w.heap.size + 1 + 1, 1, none⟩ = some (.int .i64 0) := (blk_cell R.out 1).trans rfl; have x0 : v1.cell? ⟨gx, 0, none⟩ = some (.int .i64 sx) := (blk_cell Bx.out 0).trans rfl; have x1 : v1.cell? ⟨gx, 1, none⟩ = some (.slice Ax lx cx) := (blk_cell Bx.out 1).trans rfl; have y0 : v1.cell? ⟨gy, 0, none⟩ = some (.int .i64 sy) := (blk_cell By.out 0).trans rfl; have y1 : v1.cell? ⟨gy, 1, none⟩ = some (.slice Ay ly cy) := (blk_cell By.out 1).trans rfl; have rf0 := blk_frozen R.out 0; have rf1 := blk_frozen R.out 1) | (go_at_call 16; refine (zelligeref06_Can.calls _ _ _ _ hc.out).mono ?_; rintro e v2 ⟨rfl, hb⟩; have Bp := Aside0.mk (blk_below Bp.out hb); have R := Aside0.mk (blk_below R.out hb); have Bx := Aside0.mk (blk_below Bx.out hb); have By := Aside0.mk (blk_below By.out hb); have Nx := Aside0.mk (Nx.out.below hb); have Ny := Aside0.mk (Ny.out.below hb); have Hb := Aside0.mk (bthen (w := w) hb Hb.out); clear hb d0 d1 r0 r1 x0 x1 y0 y1 rf0 rf1; have d0 : v2.cell? ⟨w.heap.size, 0, none⟩ = some (.int .i64 x) := (blk_cell Bp.out 0).trans rfl; have d1 : v2.cell? ⟨w.heap.size, 1, none⟩ = some (.int .i64 y) := (blk_cell Bp.out 1).trans rfl; have r0 : v2.cell? ⟨w.heap.size + 1 + 1, 0, none⟩ = some (.int .i64 0) := (blk_cell R.out 0).trans rfl; have r1 : v2.cell? ⟨w.heap.size + 1 + 1, 1, none⟩ = some (.int .i64 0) := (blk_cell R.out 1).trans rfl; have x0 : v2.cell? ⟨gx, 0, none⟩ = some (.int .i64 sx) := (blk_cell Bx.out 0).trans rfl; have x1 : v2.cell? ⟨gx, 1, none⟩ = some (.slice Ax lx cx) := (blk_cell Bx.out 1).trans rfl; have y0 : v2.cell? ⟨gy, 0, none⟩ = some (.int .i64 sy) := (blk_cell By.out 0).trans rfl; have y1 : v2.cell? ⟨gy, 1, none⟩ = some (.slice Ay ly cy) := (blk_cell By.out 1).trans rfl; have rf0 := blk_frozen R.out 0; have rf1 := blk_frozen R.out 1) | (go_at_call 32; (with_reducible refine (in_c _ (x + ox * sd) Sx.out _ Nx.out).mono ?_); rw [hi.out]; rintro e v3 ⟨rfl, hb⟩; have Bp := Aside0.mk (blk_below Bp.out hb); have R := Aside0.mk (blk_below R.out hb); have Bx := Aside0.mk (blk_below Bx.out hb); have By := Aside0.mk (blk_below By.out hb); have Nx := Aside0.mk (Nx.out.below hb); have Ny := Aside0.mk (Ny.out.below hb); have Hb := Aside0.mk (bthen (w := w) hb Hb.out); clear hb d0 d1 r0 r1 x0 x1 y0 y1 rf0 rf1; have d0 : v3.cell? ⟨w.heap.size, 0, none⟩ = some (.int .i64 x) := (blk_cell Bp.out 0).trans rfl; have d1 : v3.cell? ⟨w.heap.size, 1, none⟩ = some (.int .i64 y) := (blk_cell Bp.out 1).trans rfl; have r0 : v3.cell? ⟨w.heap.size + 1 + 1, 0, none⟩ = some (.int .i64 0) := (blk_cell R.out 0).trans rfl; have r1 : v3.cell? ⟨w.heap.size + 1 + 1, 1, none⟩ = some (.int .i64 0) := (blk_cell R.out 1).trans rfl; have x0 : v3.cell? ⟨gx, 0, none⟩ = some (.int .i64 sx) := (blk_cell Bx.out 0).trans rfl; have x1 : v3.cell? ⟨gx, 1, none⟩ = some (.slice Ax lx cx) := (blk_cell Bx.out 1).trans rfl; have y0 : v3.cell? ⟨gy, 0, none⟩ = some (.int .i64 sy) := (blk_cell By.out 0).trans rfl; have y1 : v3.cell? ⟨gy, 1, none⟩ = some (.slice Ay ly cy) := (blk_cell By.out 1).trans rfl; have rf0 := blk_frozen R.out 0; have rf1 := blk_frozen R.out 1) | (go_at_call 32; (with_reducible refine (in_c _ (y + oy * sd) Sy.out _ Ny.out).mono ?_); rw [hj.out]; rintro e v4 ⟨rfl, hb⟩; have Bp := Aside0.mk (blk_below Bp.out hb); have R := Aside0.mk (blk_below R.out hb); have Bx := Aside0.mk (blk_below Bx.out hb); have By := Aside0.mk (blk_below By.out hb); have Nx := Aside0.mk (Nx.out.below hb); have Ny := Aside0.mk (Ny.out.below hb); have Hb := Aside0.mk (bthen (w := w) hb Hb.out); clear hb d0 d1 r0 r1 x0 x1 y0 y1 rf0 rf1; have d0 : v4.cell? ⟨w.heap.size, 0, none⟩ = some (.int .i64 x) := (blk_cell Bp.out 0).trans rfl; have d1 : v4.cell? ⟨w.heap.size, 1, none⟩ = some (.int .i64 y) := (blk_cell Bp.out 1).trans rfl; have r0 : v4.cell? ⟨w.heap.size + 1 + 1, 0, none⟩ = some (.int .i64 0) := (blk_cell R.out 0).trans rfl; have r1 : v4.cell? ⟨w.heap.size + 1 + 1, 1, none⟩ = some (.int .i64 0) := (blk_cell R.out 1).trans rfl; have x0 : v4.cell? ⟨gx, 0, none⟩ = some (.int .i64 sx) := (blk_cell Bx.out 0).trans rfl; have x1 : v4.cell? ⟨gx, 1, none⟩ = some (.slice Ax lx cx) := (blk_cell Bx.out 1).trans rfl; have y0 : v4.cell? ⟨gy, 0, none⟩ = some (.int .i64 sy) := (blk_cell By.out 0).trans rfl; have y1 : v4.cell? ⟨gy, 1, none⟩ = some (.slice Ay ly cy) := (blk_cell By.out 1).trans rfl; have rf0 := blk_frozen R.out 0; have rf1 := blk_frozen R.out 1) | (go_at_call 28; (with_reducible refine (small_c _ (x + ox * sd) Lx.out _ Nx.out).mono ?_); rintro e v5 ⟨rfl, hb⟩; have Bp := Aside0.mk (blk_below Bp.out hb); have R := Aside0.mk (blk_below R.out hb); have Bx := Aside0.mk (blk_below Bx.out hb); have By := Aside0.mk (blk_below By.out hb); have Nx := Aside0.mk (Nx.out.below hb); have Ny := Aside0.mk (Ny.out.below hb); have Hb := Aside0.mk (bthen (w := w) hb Hb.out); clear hb d0 d1 r0 r1 x0 x1 y0 y1 rf0 rf1; have d0 : v5.cell? ⟨w.heap.size, 0, none⟩ = some (.int .i64 x) := (blk_cell Bp.out 0).trans rfl; have d1 : v5.cell? ⟨w.heap.size, 1, none⟩ = some (.int .i64 y) := (blk_cell Bp.out 1).trans rfl; have r0 : v5.cell? ⟨w.heap.size + 1 + 1, 0, none⟩ = some (.int .i64 0) := (blk_cell R.out 0).trans rfl; have r1 : v5.cell? ⟨w.heap.size + 1 + 1, 1, none⟩ = some (.int .i64 0) := (blk_cell R.out 1).trans rfl; have x0 : v5.cell? ⟨gx, 0, none⟩ = some (.int .i64 sx) := (blk_cell Bx.out 0).trans rfl; have x1 : v5.cell? ⟨gx, 1, none⟩ = some (.slice Ax lx cx) := (blk_cell Bx.out 1).trans rfl; have y0 : v5.cell? ⟨gy, 0, none⟩ = some (.int .i64 sy) := (blk_cell By.out 0).trans rfl; have y1 : v5.cell? ⟨gy, 1, none⟩ = some (.slice Ay ly cy) := (blk_cell By.out 1).trans rfl; have rf0 := blk_frozen R.out 0; have rf1 := blk_frozen R.out 1) | (go_at_call 28; (with_reducible refine (small_c _ (y + oy * sd) Ly.out _ Ny.out).mono ?_); rintro e v6 ⟨rfl, hb⟩; have Bp := Aside0.mk (blk_below Bp.out hb); have R := Aside0.mk (blk_below R.out hb); have Bx := Aside0.mk (blk_below Bx.out hb); have By := Aside0.mk (blk_below By.out hb); have Nx := Aside0.mk (Nx.out.below hb); have Ny := Aside0.mk (Ny.out.below hb); have Hb := Aside0.mk (bthen (w := w) hb Hb.out); clear hb d0 d1 r0 r1 x0 x1 y0 y1 rf0 rf1; have d0 : v6.cell? ⟨w.heap.size, 0, none⟩ = some (.int .i64 x) := (blk_cell Bp.out 0).trans rfl; have d1 : v6.cell? ⟨w.heap.size, 1, none⟩ = some (.int .i64 y) := (blk_cell Bp.out 1).trans rfl; have r0 : v6.cell? ⟨w.heap.size + 1 + 1, 0, none⟩ = some (.int .i64 0) := (blk_cell R.out 0).trans rfl; have r1 : v6.cell? ⟨w.heap.size + 1 + 1, 1, none⟩ = some (.int .i64 0) := (blk_cell R.out 1).trans rfl; have x0 : v6.cell? ⟨gx, 0, none⟩ = some (.int .i64 sx) := (blk_cell Bx.out 0).trans rfl; have x1 : v6.cell? ⟨gx, 1, none⟩ = some (.slice Ax lx cx) := (blk_cell Bx.out 1).trans rfl; have y0 : v6.cell? ⟨gy, 0, none⟩ = some (.int .i64 sy) := (blk_cell By.out 0).trans rfl; have y1 : v6.cell? ⟨gy, 1, none⟩ = some (.slice Ay ly cy) := (blk_cell By.out 1).trans rfl; have rf0 := blk_frozen R.out 0; have rf1 := blk_frozen R.out 1))
  refine bodyPost_ret (results_list (rs := [.cell 6 28, .tmp 7]) rfl (by simp) (.cell (w.heap.size + 1 + 1) 28 #[.int .i64 (x + ox * sd), .int .i64 (y + oy * sd)] (0, 0) _ rfl (blk_put (cs := #[.int .i64 (x + ox * sd), .int .i64 0]) (blk_put (cs := #[.int .i64 0, .int .i64 0]) R.out 0 _ rfl) 1 _ rfl) Try.underlying28 rfl (by kernel_rfl) (.tmp .nil))) rfl ?_
  exact ⟨rfl, below_set2 Hb.out (by omega) _ _ _ _⟩
theorem mul_bd {a b : Int} (ha : -9223372036854775808 ≤ a ∧ a ≤ 9223372036854775807) (hb : -9223372036854775808 ≤ b ∧ b ≤ 9223372036854775807) : -85070591730234615865843651857942052864 ≤ a * b ∧ a * b ≤ 85070591730234615865843651857942052864 := by
  have h := Nat.mul_le_mul (show a.natAbs ≤ 9223372036854775808 by omega) (show b.natAbs ≤ 9223372036854775808 by omega)
  rw [← Int.natAbs_mul] at h
  omega
end Go.Proofs.Ytgjpemfjccajkaa.Whole
namespace Go.Proofs.Ytgjpemfjccajkaa.F
open Go Go.RowKit Go.Proofs.YtgjpemfjccajkaaW.PrintWords Go.Proofs.YtgjpemfjccajkaaW.PrintLast Go.Proofs.YtgjpemfjccajkaaW.PrintMore Go.Proofs.Ytgjpemfjccajkaa.Whole
theorem torus_f (s : Int) : zelligeref06_Torus.f s = some (decide (1 ≤ s ∧ s ≤ 1099511627776)) := by
  unfold zelligeref06_Torus.f
  by_cases h : s ≥ 1
  · rw [if_pos h]
    congr 1
    rw [decide_eq_decide]
    exact ⟨fun k => ⟨h, k⟩, fun k => k.2⟩
  · rw [if_neg h, decide_eq_false (fun k => h k.1)]
/-- What can be moved so far: the side, the point, the place. -/
abbrev AtOk (x y ox oy s : Int) : Prop := (1 ≤ s ∧ s ≤ 1099511627776) ∧ (InC x ∧ InC y) ∧ InC (x + ox * s) ∧ InC (y + oy * s)
def zelligeref06_At.f (a0_0 : Int) (a0_1 : Int) (a1_0 : Int) (a1_1 : Int) (a2 : Int) : Option (Int × Int × Bool) :=
  if I64 a0_0 ∧ I64 a0_1 ∧ I64 a1_0 ∧ I64 a1_1 ∧ I64 a2 then some (if AtOk a0_0 a0_1 a1_0 a1_1 a2 then (a0_0 + a1_0 * a2, a0_1 + a1_1 * a2, true) else (0, 0, false)) else none
theorem zelligeref06_At.calls (a0_0 : Int) (a0_1 : Int) (a1_0 : Int) (a1_1 : Int) (a2 : Int) (r1 r2 : Int) (r3 : Bool) (w : World) (h : zelligeref06_At.f a0_0 a0_1 a1_0 a1_1 a2 = some (r1, r2, r3)) :
    Calls Try.prog 14 #[.agg #[.int .i64 a0_0, .int .i64 a0_1], .agg #[.int .i64 a1_0, .int .i64 a1_1], .int .i64 a2] w fun e w' => e = .returned (.tuple #[.agg #[.int .i64 r1, .int .i64 r2], .bool r3]) ∧ Below w.heap.size w w' := by
  unfold zelligeref06_At.f at h
  by_cases hb : I64 a0_0 ∧ I64 a0_1 ∧ I64 a1_0 ∧ I64 a1_1 ∧ I64 a2
  · rw [if_pos hb] at h
    have h := Option.some.inj h
    obtain ⟨b1, b2, b3, b4, b5⟩ := hb
    have m1 := mul_bd b3 b5
    have m2 := mul_bd b4 b5
    have hcan : zelligeref06_Can.f a0_0 a0_1 = some (decide (InC a0_0 ∧ InC a0_1)) := if_pos ⟨b1, b2⟩
    refine at_walk a0_0 a0_1 a1_0 a1_1 a2 ⟨wf_of b1⟩ ⟨wf_of b2⟩ ⟨wf_of b3⟩ ⟨wf_of b4⟩ ⟨wf_of b5⟩ ⟨Sm.i64 b1⟩ ⟨Sm.i64 b2⟩ ⟨Sm.i64 b3⟩ ⟨Sm.i64 b4⟩ ⟨Sm.i64 b5⟩ ⟨Sm.of (by omega) (by omega)⟩ ⟨Sm.of (by omega) (by omega)⟩ ⟨Sm.of (by omega) (by omega)⟩ ⟨Sm.of (by omega) (by omega)⟩
      _ _ _ _ ⟨torus_f a2⟩ ⟨hcan⟩ ⟨rfl⟩ ⟨rfl⟩ ⟨?_⟩ _ ⟨?_⟩ w
    · intro hk
      simp only [Bool.and_eq_true, decide_eq_true_eq] at hk
      obtain ⟨⟨_, h3⟩, h4⟩ := hk
      exact ⟨⟨by omega, by omega⟩, ⟨by omega, by omega⟩⟩
    · by_cases ok : AtOk a0_0 a0_1 a1_0 a1_1 a2
      · rw [if_pos ok] at h
        injection h with h1 h
        injection h with h2 h3
        subst h1 h2 h3
        rw [if_pos]
        obtain ⟨o1, o2, o3, o4⟩ := ok
        rw [decide_eq_true o1, decide_eq_true o2, decide_eq_true o3, decide_eq_true o4]
        rfl
      · rw [if_neg ok] at h
        injection h with h1 h
        injection h with h2 h3
        subst h1 h2 h3
        rw [if_neg]
        intro hk
        simp only [Bool.and_eq_true, decide_eq_true_eq] at hk
        obtain ⟨⟨⟨h1, h2⟩, h3⟩, h4⟩ := hk
        exact ok ⟨h1, h2, h3, h4⟩
  · rw [if_neg hb] at h
    cases h
end Go.Proofs.Ytgjpemfjccajkaa.F
end

section
namespace Go.Proofs.Ytgjpemfjccajkaa.F
open Go.RowKit Go.Proofs.YtgjpemfjccajkaaW.PrintWords Go.Proofs.YtgjpemfjccajkaaW.PrintLast Go.Proofs.YtgjpemfjccajkaaW.PrintMore
attribute [local go_sem] max2_int min2_int max_two min_two max_three min_three max_four min_four   -- for this text's walks alone
set_option linter.unusedVariables false
set_option linter.unusedSimpArgs false

/-! ### zelligeref06_Window: function 21 -/
mutual
def zelligeref06_Window.j0 : Nat → Int → Int → List (S28) → Bool → Int → Int → Option ((List (S28)))
  | 0, _, _, _, _, _, _ => none
  | k + 1, x1, x2, x7, x18, x451000, x451001 => if x18 = true then (some x7) else (zelligeref06_Window.l0 k x1 x2 x7 (wrap64 (-x2)) x451000 x451001)
def zelligeref06_Window.l0 : Nat → Int → Int → List (S28) → Int → Int → Int → Option ((List (S28)))
  | 0, _, _, _, _, _, _ => none
  | k + 1, x1, x2, x7, x8, x451000, x451001 => if x8 ≤ x2 then (zelligeref06_Window.l1 k x1 x2 x7 x8 (wrap64 (-x2)) x451000 x451001) else (some x7)
def zelligeref06_Window.l1 : Nat → Int → Int → List (S28) → Int → Int → Int → Int → Option ((List (S28)))
  | 0, _, _, _, _, _, _, _ => none
  | k + 1, x1, x2, x7, x8, x9, x451000, x451001 => if x9 ≤ x2 then ((zelligeref06_At.f x451000 x451001 x8 x9 x1).bind fun bt454 => (if bt454.2.2 = true then (if x7.length < 8796093022208 then (zelligeref06_Window.l1 k x1 x2 (x7 ++ [(⟨bt454.1, bt454.2.1⟩ : S28)]) x8 (wrap64 (x9 + 1)) x451000 x451001) else (none)) else (some (([] : List (S28)))))) else (zelligeref06_Window.l0 k x1 x2 x7 (wrap64 (x8 + 1)) x451000 x451001)
end
def zelligeref06_Window.f (k : Nat) (a0_0 : Int) (a0_1 : Int) (a1 : Int) (a2 : Int) : Option ((List (S28))) := (some (([] : List (S28)) : List (S28))).bind fun y451 => (if a2 < 0 then (zelligeref06_Window.j0 k a1 a2 y451 true a0_0 a0_1) else (zelligeref06_Window.j0 k a1 a2 y451 (decide (a2 > 8)) a0_0 a0_1))
theorem zelligeref06_Window.mono_l : ∀ k, (∀ y0 y1 y2 y3 y4 y5, LeO (zelligeref06_Window.j0 k y0 y1 y2 y3 y4 y5) (zelligeref06_Window.j0 (k + 1) y0 y1 y2 y3 y4 y5)) ∧ (∀ y0 y1 y2 y3 y4 y5, LeO (zelligeref06_Window.l0 k y0 y1 y2 y3 y4 y5) (zelligeref06_Window.l0 (k + 1) y0 y1 y2 y3 y4 y5)) ∧ (∀ y0 y1 y2 y3 y4 y5 y6, LeO (zelligeref06_Window.l1 k y0 y1 y2 y3 y4 y5 y6) (zelligeref06_Window.l1 (k + 1) y0 y1 y2 y3 y4 y5 y6))
  | 0 => ⟨fun _ _ _ _ _ _ r h => by simp [zelligeref06_Window.j0] at h, fun _ _ _ _ _ _ r h => by simp [zelligeref06_Window.l0] at h, fun _ _ _ _ _ _ _ r h => by simp [zelligeref06_Window.l1] at h⟩
  | k + 1 => by
    obtain ⟨ih0, ih1, ih2⟩ := zelligeref06_Window.mono_l k
    refine ⟨?_, ?_, ?_⟩
    · intro y0 y1 y2 y3 y4 y5
      unfold zelligeref06_Window.j0
      repeat' first
      | (with_reducible exact ih0 _ _ _ _ _ _)
      | (with_reducible exact ih1 _ _ _ _ _ _)
      | (with_reducible exact ih2 _ _ _ _ _ _ _)
      | (with_reducible exact LeO.refl _)
      | (with_reducible exact LeO.none _)
      | (with_reducible refine LeO.ite ?_ ?_)
      | (with_reducible refine LeO.bind ?_ (fun _ => ?_))
      | exact ih0 _ _ _ _ _ _
      | exact ih1 _ _ _ _ _ _
      | exact ih2 _ _ _ _ _ _ _
      | exact LeO.none _
      | refine LeO.ite ?_ ?_
      | refine LeO.bind ?_ (fun _ => ?_)
    · intro y0 y1 y2 y3 y4 y5
      unfold zelligeref06_Window.l0
      repeat' first
      | (with_reducible exact ih0 _ _ _ _ _ _)
      | (with_reducible exact ih1 _ _ _ _ _ _)
      | (with_reducible exact ih2 _ _ _ _ _ _ _)
      | (with_reducible exact LeO.refl _)
      | (with_reducible exact LeO.none _)
      | (with_reducible refine LeO.ite ?_ ?_)
      | (with_reducible refine LeO.bind ?_ (fun _ => ?_))
      | exact ih0 _ _ _ _ _ _
      | exact ih1 _ _ _ _ _ _
      | exact ih2 _ _ _ _ _ _ _
      | exact LeO.none _
      | refine LeO.ite ?_ ?_
      | refine LeO.bind ?_ (fun _ => ?_)
    · intro y0 y1 y2 y3 y4 y5 y6
      unfold zelligeref06_Window.l1
      repeat' first
      | (with_reducible exact ih0 _ _ _ _ _ _)
      | (with_reducible exact ih1 _ _ _ _ _ _)
      | (with_reducible exact ih2 _ _ _ _ _ _ _)
      | (with_reducible exact LeO.refl _)
      | (with_reducible exact LeO.none _)
      | (with_reducible refine LeO.ite ?_ ?_)
      | (with_reducible refine LeO.bind ?_ (fun _ => ?_))
      | exact ih0 _ _ _ _ _ _
      | exact ih1 _ _ _ _ _ _
      | exact ih2 _ _ _ _ _ _ _
      | exact LeO.none _
      | refine LeO.ite ?_ ?_
      | refine LeO.bind ?_ (fun _ => ?_)
theorem zelligeref06_Window.mono : ∀ a0 a1 a2 a3 k, LeO (zelligeref06_Window.f k a0 a1 a2 a3) (zelligeref06_Window.f (k + 1) a0 a1 a2 a3) := by
  intro a0 a1 a2 a3 k
  obtain ⟨ih0, ih1, ih2⟩ := zelligeref06_Window.mono_l k
  unfold zelligeref06_Window.f
  repeat' first
      | (with_reducible exact ih0 _ _ _ _ _ _)
      | (with_reducible exact ih1 _ _ _ _ _ _)
      | (with_reducible exact ih2 _ _ _ _ _ _ _)
      | (with_reducible exact LeO.refl _)
      | (with_reducible exact LeO.none _)
      | (with_reducible refine LeO.ite ?_ ?_)
      | (with_reducible refine LeO.bind ?_ (fun _ => ?_))
      | exact ih0 _ _ _ _ _ _
      | exact ih1 _ _ _ _ _ _
      | exact ih2 _ _ _ _ _ _ _
      | exact LeO.none _
      | refine LeO.ite ?_ ?_
      | refine LeO.bind ?_ (fun _ => ?_)
set_option maxHeartbeats 8000000 in
set_option maxRecDepth 100000 in
theorem zelligeref06_Window.calls (k : Nat) (a0_0 : Int) (a0_1 : Int) (a1 : Int) (a2 : Int) (r : List (S28)) (w : World) (h : zelligeref06_Window.f k a0_0 a0_1 a1 a2 = some r) :
    Calls Try.prog 21 #[.agg #[.int .i64 a0_0, .int .i64 a0_1], .int .i64 a1, .int .i64 a2] w fun e w' => ∃ v0_ : Value, e = .returned (v0_) ∧ Kd.R k28 28 w' w.heap.size (fun _ => True) v0_ r ∧ Below w.heap.size w w' := by
  have hu28 := Try.underlying28
  have hu23 := Try.underlying23
  have HB := Aside0.mk (Below.refl w.heap.size w)
  have H : ((some (([] : List (S28)) : List (S28))).bind fun y451 => (if a2 < 0 then (zelligeref06_Window.j0 k a1 a2 y451 true a0_0 a0_1) else (zelligeref06_Window.j0 k a1 a2 y451 (decide (a2 > 8)) a0_0 a0_1))) = some r := h
  clear h
  obtain ⟨y451, hy451⟩ : ∃ y_ : List (S28), y_ = (([] : List (S28))) := ⟨_, rfl⟩
  replace H : (if a2 < 0 then (zelligeref06_Window.j0 k a1 a2 y451 true a0_0 a0_1) else (zelligeref06_Window.j0 k a1 a2 y451 (decide (a2 > 8)) a0_0 a0_1)) = some r := by first | (rw [hy451]; with_reducible exact H) | (have H2_ := (Option.bind_some _ _).symm.trans H; rw [hy451]; with_reducible exact H2_) | (have H2_ := (Option.bind_some _ _).symm.trans H; with_reducible exact H2_) | with_reducible exact H | (rw [hy451]; exact H) | exact H
  have Ny451 := Aside0.mk hy451
  clear hy451
  have HC4 := Aside0.mk H
  clear H
  go_enter Try.func21, Try.ntmps21
  go_upto_region 2 with (first | ((with_reducible refine gate_dst (N := 3) rfl ?_); refine box_event ?hg (N := 3) ?hd (cs := #[.int .i64 a0_0, .int .i64 a0_1]) (t := 28) ?hr ?_; (case hd => rfl); (case hg => rfl); (case hr => first | (go_simp; done) | (go_simp; rfl)); intro gb450 hg w5 hbox hb; have n0_ := Aside0.mk (below_step (by repeat (first | (with_reducible first | exact HB.out | apply below_alloc | apply pw_below_drewN | apply below_drew1) | exact HB.out)) hb); have n1_ := Aside0.mk (hbox); have n2_ := Aside0.mk ((by rw [hg]; exact (below_size (by repeat (first | (with_reducible first | exact HB.out | apply below_alloc | apply pw_below_drewN | apply below_drew1) | exact HB.out))) : w.heap.size ≤ gb450)); have n3_ := Aside0.mk ((by rw [hg]; exact (below_size (by repeat (first | (with_reducible first | exact HB.out | apply below_alloc | apply pw_below_drewN | apply below_drew1) | exact HB.out))) : w.heap.size ≤ gb450)); clear HB; have HB := n0_; have BK450 := n1_; have GW450 := n2_; have GE450 := n3_; clear n0_ n1_ n2_ n3_; clear hb hbox hg) | ((with_reducible refine gate_dst (N := 12) rfl ?_); refine Kd.R_lit k28 _ 28 ?hg (N := 12) ?hd (xs := ([] : List (S28))) (inner := []) (ok := fun _ => True) (okp := fun _ => True) ?hr ?hp (fun _ hk => hk) trivial (Below.refl _ _) (Nat.le_refl _) (by simp) ?_; (case hd => rfl); (case hg => rfl); (case hr => first | (go_simp; done) | (go_simp; rfl)); (case hp => exact (Reps.none _ _)); intro v452 w6 ho7 hb hg_ hnew_; clear hg_ hnew_; (first | rw [← Ny451.out] at ho7 | (simp only [Int.reduceToNat] at ho7; rw [← Ny451.out] at ho7)); have n0_ := Aside0.mk (Kd.R_lower (Kd.R_newB ho7 (g := gb450) (o := .cells #[.int .i64 a0_0, .int .i64 a0_1] 28 (0, 0)) (by (with_reducible repeat (first | refine blk_drewN ?_ _ | refine blk_drew ?_ | refine blk_alloc ?_ _)); exact BK450.out)) (below_size (by repeat (first | (with_reducible first | exact HB.out | apply below_alloc | apply pw_below_drewN | apply below_drew1 | refine below_set ?_ GE450.out) | exact HB.out)))); have n1_ := Aside0.mk (blk_below (g := gb450) (o := .cells #[.int .i64 a0_0, .int .i64 a0_1] 28 (0, 0)) (by (with_reducible repeat (first | refine blk_drewN ?_ _ | refine blk_drew ?_ | refine blk_alloc ?_ _)); exact BK450.out) hb); have n2_ := Aside0.mk (below_step (by repeat (first | (with_reducible first | exact HB.out | apply below_alloc | apply pw_below_drewN | apply below_drew1 | refine below_set ?_ GE450.out) | exact HB.out)) hb); clear BK450; clear HB; have HO453 := n0_; have BK450 := n1_; have HB := n2_; clear n0_ n1_ n2_; clear hb ho7))
  (try simp only [Act.put, List.setIfInBounds_toArray, List.set_cons_zero, List.set_cons_succ])
  go_cut [18] (fun v18 wc => ∃ (kq : Nat) (x18_3 : Bool), v18 = .bool x18_3 ∧ Aside0 (zelligeref06_Window.j0 kq a1 a2 y451 x18_3 a0_0 a0_1 = some r) ∧ Aside0 (kq ≤ k) ∧ Aside0 (Kd.R k28 28 wc w.heap.size (fun k_ => k_ ≠ gb450) v452 y451) ∧ Aside0 (wc.heap[gb450]? = some (.cells #[.int .i64 a0_0, .int .i64 a0_1] 28 (0, 0))) ∧ Aside0 (Below w.heap.size w wc))
  case first =>
    have H := HC4.out
    clear HC4
    by_cases c8 : a2 < 0
    · rw [if_pos c8] at H
      have c8b0 : decide (a2 < 0) = true := decide_eq_true c8
      clear c8
      (first | rw [c8b0] | (simp only [i64_w, i32_w]; rw [c8b0]) | skip)
      have H' := Aside0.mk H
      clear H
      go_wp2
      go_meet
      case rel => exact ⟨_, (true), (by first | rfl | (simp; done) | (simp [*]; done)), H', ⟨by first | omega | exact Nat.le_refl _⟩, ⟨by (with_reducible repeat (first | apply Kd.R_alloc | apply Kd.R_drewN | apply Kd.R_drew)); exact Kd.R_mono HO453.out (fun _ hk => hk.2)⟩, ⟨by (with_reducible repeat (first | refine blk_drewN ?_ _ | refine blk_drew ?_ | refine blk_alloc ?_ _)); exact BK450.out⟩, ⟨by repeat (first | (with_reducible first | exact HB.out | apply below_alloc | apply pw_below_drewN | apply below_drew1 | refine below_set ?_ GE450.out) | exact HB.out)⟩⟩
    · rw [if_neg c8] at H
      have c8b0 : decide (a2 < 0) = false := decide_eq_false c8
      clear c8
      (first | rw [c8b0] | (simp only [i64_w, i32_w]; rw [c8b0]) | skip)
      have H' := Aside0.mk H
      clear H
      go_wp2
      go_meet
      case rel => exact ⟨_, (decide (a2 > 8)), (by first | rfl | (simp; done) | (simp [*]; done)), H', ⟨by first | omega | exact Nat.le_refl _⟩, ⟨by (with_reducible repeat (first | apply Kd.R_alloc | apply Kd.R_drewN | apply Kd.R_drew)); exact Kd.R_mono HO453.out (fun _ hk => hk.2)⟩, ⟨by (with_reducible repeat (first | refine blk_drewN ?_ _ | refine blk_drew ?_ | refine blk_alloc ?_ _)); exact BK450.out⟩, ⟨by repeat (first | (with_reducible first | exact HB.out | apply below_alloc | apply pw_below_drewN | apply below_drew1 | refine below_set ?_ GE450.out) | exact HB.out)⟩⟩
  case rest =>
    clear HC4
    try clear c2
    try clear p2
    try clear c8
    try clear c8b0
    obtain ⟨kq, x18_3, rfl, HA, HJ3, HO_7, BK450, HB⟩ := hcut
    cases kq with
    | zero => exact absurd HA.out (by simp [zelligeref06_Window.j0])
    | succ kj3 =>
      have H := HA.out
      clear HA
      simp only [zelligeref06_Window.j0] at H
      by_cases c9 : x18_3 = true
      · subst c9
        have H1 : (some y451) = some r := by rw [if_pos rfl] at H; exact H
        clear H
        have H := H1
        clear H1
        obtain rfl := Option.some.inj H
        go_wp2
        go_ret
        exact ⟨_, by first | rfl | (simp [errW_none, errW_some] <;> rfl) | (simp [*, errW_none, errW_some] <;> rfl), by (with_reducible repeat (first | apply Kd.R_alloc | apply Kd.R_drewN | apply Kd.R_drew)); exact Kd.R_mono HO_7.out (fun _ hk => trivial), by repeat (first | (with_reducible first | exact HB.out | apply below_alloc | apply pw_below_drewN | apply below_drew1 | refine below_set ?_ GE450.out) | exact HB.out)⟩
      · replace c9 := Bool.eq_false_iff.mpr c9
        subst c9
        have H1 : (zelligeref06_Window.l0 kj3 a1 a2 y451 (wrap64 (-a2)) a0_0 a0_1) = some r := by rw [if_neg (show ¬ (false = true) by decide)] at H; exact H
        clear H
        have H := H1
        clear H1
        have H' := Aside0.mk H
        clear H
        go_wp2
        go_loopg [7, 8] kj3 (fun kq v7 v8 w' => ∃ (x7_2 : List (S28)) (x8_2 : Int), v8 = .int .i64 x8_2 ∧ Aside0 (zelligeref06_Window.l0 kq a1 a2 x7_2 x8_2 a0_0 a0_1 = some r) ∧ Aside0 (kq ≤ kj3) ∧ Aside0 (Kd.R k28 28 w' w.heap.size (fun k_ => k_ ≠ gb450) v7 x7_2) ∧ Aside0 (w'.heap[gb450]? = some (.cells #[.int .i64 a0_0, .int .i64 a0_1] 28 (0, 0))) ∧ Aside0 (Below w.heap.size w w'))
        case atStart => exact ⟨(y451), (wrap64 (-a2)), (by first | rfl | (simp; done) | (simp [*]; done)), H', ⟨Nat.le_refl _⟩, ⟨by (with_reducible repeat (first | apply Kd.R_alloc | apply Kd.R_drewN | apply Kd.R_drew)); exact HO_7.out⟩, ⟨by (with_reducible repeat (first | refine blk_drewN ?_ _ | refine blk_drew ?_ | refine blk_alloc ?_ _)); exact BK450.out⟩, ⟨by repeat (first | (with_reducible first | exact HB.out | apply below_alloc | apply pw_below_drewN | apply below_drew1 | refine below_set ?_ GE450.out) | exact HB.out)⟩⟩
        case round =>
          clear H'
          try clear c2
          try clear p2
          try clear p6
          try clear c8
          try clear c8b0
          try clear c9
          try clear p2
          obtain ⟨x7_2, x8_2, rfl, HA, HK2, HO_7, BK450, HB⟩ := hrel
          cases gk with
          | zero => exact absurd HA.out (by simp [zelligeref06_Window.l0])
          | succ k2 =>
            have H := HA.out
            clear HA
            simp only [zelligeref06_Window.l0] at H
            by_cases c10 : x8_2 ≤ a2
            · rw [if_pos c10] at H
              have c10b0 : decide (x8_2 ≤ a2) = true := decide_eq_true c10
              clear c10
              have H' := Aside0.mk H
              clear H
              go_wp2
              go_loopg [7, 9] k2 (fun kq v7 v9 w' => ∃ (x7_3 : List (S28)) (x9_3 : Int), v9 = .int .i64 x9_3 ∧ Aside0 (zelligeref06_Window.l1 kq a1 a2 x7_3 x8_2 x9_3 a0_0 a0_1 = some r) ∧ Aside0 (kq ≤ k2) ∧ Aside0 (Kd.R k28 28 w' w.heap.size (fun k_ => k_ ≠ gb450) v7 x7_3) ∧ Aside0 (w'.heap[gb450]? = some (.cells #[.int .i64 a0_0, .int .i64 a0_1] 28 (0, 0))) ∧ Aside0 (Below w.heap.size w w'))
              case atStart => exact ⟨(x7_2), (wrap64 (-a2)), (by first | rfl | (simp; done) | (simp [*]; done)), H', ⟨Nat.le_refl _⟩, ⟨by (with_reducible repeat (first | apply Kd.R_alloc | apply Kd.R_drewN | apply Kd.R_drew)); exact HO_7.out⟩, ⟨by (with_reducible repeat (first | refine blk_drewN ?_ _ | refine blk_drew ?_ | refine blk_alloc ?_ _)); exact BK450.out⟩, ⟨by repeat (first | (with_reducible first | exact HB.out | apply below_alloc | apply pw_below_drewN | apply below_drew1 | refine below_set ?_ GE450.out) | exact HB.out)⟩⟩
              case round =>
                clear H'
                try clear c1
                try clear c2
                try clear p2
                try clear p6
                try clear c8
                try clear c8b0
                try clear c9
                try clear c10
                try clear c10b0
                try clear p2
                try clear p6
                obtain ⟨x7_3, x9_3, rfl, HA, HK3, HO_7, BK450, HB⟩ := hrel
                cases gk with
                | zero => exact absurd HA.out (by simp [zelligeref06_Window.l1])
                | succ k3 =>
                  have H := HA.out
                  clear HA
                  simp only [zelligeref06_Window.l1] at H
                  by_cases c11 : x9_3 ≤ a2
                  · rw [if_pos c11] at H
                    have c11b0 : decide (x9_3 ≤ a2) = true := decide_eq_true c11
                    clear c11
                    replace H := Option.bind_eq_some_iff.mp H
                    obtain ⟨⟨t454, t455, t456⟩, A120, H⟩ := H
                    replace H : (if t456 = true then (if x7_3.length < 8796093022208 then (zelligeref06_Window.l1 k3 a1 a2 (x7_3 ++ [(⟨t454, t455⟩ : S28)]) x8_2 (wrap64 (x9_3 + 1)) a0_0 a0_1) else (none)) else (some (([] : List (S28))))) = some r := H
                    have A12 := Aside0.mk A120
                    clear A120
                    by_cases c13 : t456 = true
                    · subst c13
                      have H1 : (if x7_3.length < 8796093022208 then (zelligeref06_Window.l1 k3 a1 a2 (x7_3 ++ [(⟨t454, t455⟩ : S28)]) x8_2 (wrap64 (x9_3 + 1)) a0_0 a0_1) else (none)) = some r := by rw [if_pos rfl] at H; exact H
                      clear H
                      have H := H1
                      clear H1
                      by_cases c14 : x7_3.length < 8796093022208
                      · rw [if_pos c14] at H
                        have LMc14 := Aside0.mk c14
                        clear c14
                        obtain ⟨y458, hy458⟩ : ∃ y_ : List (S28), y_ = (x7_3 ++ [(⟨t454, t455⟩ : S28)]) := ⟨_, rfl⟩
                        replace H : (zelligeref06_Window.l1 k3 a1 a2 y458 x8_2 (wrap64 (x9_3 + 1)) a0_0 a0_1) = some r := by first | (rw [hy458]; with_reducible exact H) | (have H2_ := (Option.bind_some _ _).symm.trans H; rw [hy458]; with_reducible exact H2_) | (have H2_ := (Option.bind_some _ _).symm.trans H; with_reducible exact H2_) | with_reducible exact H | (rw [hy458]; exact H) | exact H
                        have Ny458 := Aside0.mk hy458
                        clear hy458
                        have H' := Aside0.mk H
                        clear H
                        have hcz15_0 : wr.cell? ⟨gb450, 0, none⟩ = some (.int .i64 a0_0) := (blk_cell BK450.out 0).trans rfl
                        have hcz15_1 : wr.cell? ⟨gb450, 1, none⟩ = some (.int .i64 a0_1) := (blk_cell BK450.out 1).trans rfl
                        have hfz15_0 := blk_frozen BK450.out 0
                        have hfz15_1 := blk_frozen BK450.out 1
                        go_wp2_with (first | ((with_reducible refine gate_callee (f := 14) rfl ?_); refine goesL_ (some 40) rfl rfl Try.func14 (by kernel_rfl) rfl #[.agg #[.int .i64 a0_0, .int .i64 a0_1], .agg #[.int .i64 x8_2, .int .i64 x9_3], .int .i64 a1] rfl (by (try simp only [List.map_toArray, List.map_cons, List.map_nil]); first | done | rfl | (simp only [List.length_drop, List.length_take]; rfl)) ?_; (with_reducible refine (zelligeref06_At.calls a0_0 a0_1 x8_2 x9_3 a1 t454 t455 true _ A12.out).mono ?_); rintro e w16 ⟨rfl, hb⟩; refine ⟨_, rfl, ?_⟩; have n0_ := Aside0.mk (Kd.R_below (by (with_reducible repeat (first | apply Kd.R_alloc | apply Kd.R_drewN | apply Kd.R_drew)); exact HO_7.out) hb); have n1_ := Aside0.mk (blk_below (g := gb450) (o := .cells #[.int .i64 a0_0, .int .i64 a0_1] 28 (0, 0)) (by (with_reducible repeat (first | refine blk_drewN ?_ _ | refine blk_drew ?_ | refine blk_alloc ?_ _)); exact BK450.out) hb); have n2_ := Aside0.mk (below_step (by repeat (first | (with_reducible first | exact HB.out | apply below_alloc | apply pw_below_drewN | apply below_drew1 | refine below_set ?_ GE450.out) | exact HB.out)) hb); clear HO_7; clear BK450; clear HB; have HO_7 := n0_; have BK450 := n1_; have HB := n2_; clear n0_ n1_ n2_; (try clear hb); (try clear hb2); (try clear hk); (try clear hi)) | ((with_reducible refine gate_dst (N := 10) rfl ?_); refine box_event ?hg (N := 10) ?hd (cs := #[.int .i64 0, .int .i64 0]) (t := 28) ?hr ?_; (case hd => rfl); (case hg => rfl); (case hr => first | (go_simp; done) | (go_simp; rfl)); intro gb457 hg w17 hbox hb; have n0_ := Aside0.mk (Kd.R_below (Kd.R_elderB (by (with_reducible repeat (first | apply Kd.R_alloc | apply Kd.R_drewN | apply Kd.R_drew)); exact HO_7.out) gb457 (Nat.le_of_eq hg.symm)) hb); have n1_ := Aside0.mk (blk_below (g := gb450) (o := .cells #[.int .i64 a0_0, .int .i64 a0_1] 28 (0, 0)) (by (with_reducible repeat (first | refine blk_drewN ?_ _ | refine blk_drew ?_ | refine blk_alloc ?_ _)); exact BK450.out) hb); have n2_ := Aside0.mk (below_step (by repeat (first | (with_reducible first | exact HB.out | apply below_alloc | apply pw_below_drewN | apply below_drew1 | refine below_set ?_ GE450.out) | exact HB.out)) hb); have n3_ := Aside0.mk (hbox); have n4_ := Aside0.mk ((by rw [hg]; exact (below_size (by repeat (first | (with_reducible first | exact HB.out | apply below_alloc | apply pw_below_drewN | apply below_drew1 | refine below_set ?_ GE450.out) | exact HB.out))) : w.heap.size ≤ gb457)); have n5_ := Aside0.mk ((by rw [hg]; exact (below_size (by repeat (first | (with_reducible first | exact HB.out | apply below_alloc | apply pw_below_drewN | apply below_drew1 | refine below_set ?_ GE450.out) | exact HB.out))) : w.heap.size ≤ gb457)); have n6_ := Aside0.mk ((by rw [hg]; exact Nat.ne_of_lt (blk_lt (g := gb450) (o := .cells #[.int .i64 a0_0, .int .i64 a0_1] 28 (0, 0)) (by (with_reducible repeat (first | refine blk_drewN ?_ _ | refine blk_drew ?_ | refine blk_alloc ?_ _)); exact BK450.out)) : gb450 ≠ gb457)); have n7_ := Aside0.mk ((by rw [hg]; exact Nat.ne_of_gt (blk_lt (g := gb450) (o := .cells #[.int .i64 a0_0, .int .i64 a0_1] 28 (0, 0)) (by (with_reducible repeat (first | refine blk_drewN ?_ _ | refine blk_drew ?_ | refine blk_alloc ?_ _)); exact BK450.out)) : gb457 ≠ gb450)); clear HO_7; clear BK450; clear HB; have HO_7 := n0_; have BK450 := n1_; have HB := n2_; have BK457 := n3_; have GW457 := n4_; have GE457 := n5_; have NB450_457 := n6_; have NB457_450 := n7_; clear n0_ n1_ n2_ n3_ n4_ n5_ n6_ n7_; clear hb hbox hg; have hnb18 := NB457_450.out; have hnc18 := NB450_457.out; have hcz19_0 : w17.cell? ⟨gb457, 0, none⟩ = some (.int .i64 0) := (blk_cell BK457.out 0).trans rfl; have hcz19_1 : w17.cell? ⟨gb457, 1, none⟩ = some (.int .i64 0) := (blk_cell BK457.out 1).trans rfl; have hfz19_0 := blk_frozen BK457.out 0; have hfz19_1 := blk_frozen BK457.out 1) | ((with_reducible refine gate_builtin (b := .append) (xs := #[.tmp 46, .tmp 48]) rfl ?_); at_builtin; refine Kd.R_append k28 (w0 := w) w.heap.size rfl (.tmp 46) (.tmp 48) 38 28 (.agg #[(.int .i64 0), (.int .i64 0)]) 16 rfl Try.underlying38 info28 rfl (by decide) (by omega) u7 x7_3 (⟨t454, t455⟩ : S28) [.int .i64 t454, .int .i64 t455] (fun k_ => k_ ≠ gb450 ∧ k_ ≠ gb457) (fun _ => False) rfl (by first | (go_simp; done) | (go_simp; rfl)) ?aP (fun _ hk => hk.elim) ?aF ?aO ?aB ?aS ?aL ?_; (case aP => exact k28_mkM _ _ _ (⟨t454, t455⟩ : S28)); (case aB => exact (by repeat (first | (with_reducible first | exact HB.out | apply below_alloc | apply pw_below_drewN | apply below_drew1 | refine below_set ?_ GE450.out | refine below_set ?_ GE457.out) | exact HB.out))); (case aF => exact (fun k_ hk => ⟨Kd.freshB (g := gb450) (o := .cells #[.int .i64 a0_0, .int .i64 a0_1] 28 (0, 0)) (by (with_reducible repeat (first | refine blk_drewN ?_ _ | refine blk_drew ?_ | refine blk_alloc ?_ _)); refine blk_far ?_ NB450_457.out _; (with_reducible repeat (first | refine blk_drewN ?_ _ | refine blk_drew ?_ | refine blk_alloc ?_ _)); refine blk_far ?_ NB450_457.out _; (with_reducible repeat (first | refine blk_drewN ?_ _ | refine blk_drew ?_ | refine blk_alloc ?_ _)); exact BK450.out) k_ hk, Kd.freshB (g := gb457) (o := .cells #[.int .i64 t454, .int .i64 t455] 28 (0, 0)) (by (with_reducible repeat (first | refine blk_drewN ?_ _ | refine blk_drew ?_ | refine blk_alloc ?_ _)); refine blk_put (cs := #[.int .i64 t454, .int .i64 0]) ?_ 1 _ rfl; (with_reducible repeat (first | refine blk_drewN ?_ _ | refine blk_drew ?_ | refine blk_alloc ?_ _)); refine blk_put (cs := #[.int .i64 0, .int .i64 0]) ?_ 0 _ rfl; (with_reducible repeat (first | refine blk_drewN ?_ _ | refine blk_drew ?_ | refine blk_alloc ?_ _)); exact BK457.out) k_ hk⟩)); (case aO => exact (by (with_reducible repeat (first | apply Kd.R_alloc | apply Kd.R_drewN | apply Kd.R_drew)); exact Kd.R_mono (Kd.R_far (p := ⟨gb457, 1, none⟩) (Kd.R_far (p := ⟨gb457, 0, none⟩) (Kd.R_mono HO_7.out (fun k_ hk => (⟨hk, hk.2⟩ : _ ∧ k_ ≠ gb457))) (fun _ hk => hk.2) (.int .i64 t454)) (fun _ hk => hk.2) (.int .i64 t455)) (fun _ hk => ⟨hk.1.1, hk.1.2⟩))); (case aS => exact (below_size (by repeat (first | (with_reducible first | exact HB.out | apply below_alloc | apply pw_below_drewN | apply below_drew1 | refine below_set ?_ GE450.out | refine below_set ?_ GE457.out) | exact HB.out)))); (case aL => have := LMc14.out; omega); intro v459 w20 ho hb hg hat; rw [← Ny458.out] at ho; have n0_ := Aside0.mk (blk_grown (g := gb450) (o := .cells #[.int .i64 a0_0, .int .i64 a0_1] 28 (0, 0)) (by (with_reducible repeat (first | refine blk_drewN ?_ _ | refine blk_drew ?_ | refine blk_alloc ?_ _)); refine blk_far ?_ NB450_457.out _; (with_reducible repeat (first | refine blk_drewN ?_ _ | refine blk_drew ?_ | refine blk_alloc ?_ _)); refine blk_far ?_ NB450_457.out _; (with_reducible repeat (first | refine blk_drewN ?_ _ | refine blk_drew ?_ | refine blk_alloc ?_ _)); exact BK450.out) hg (Kd.R_away HO_7.out (fun _ hk => hk.1))); have n1_ := Aside0.mk (blk_grown (g := gb457) (o := .cells #[.int .i64 t454, .int .i64 t455] 28 (0, 0)) (by (with_reducible repeat (first | refine blk_drewN ?_ _ | refine blk_drew ?_ | refine blk_alloc ?_ _)); refine blk_put (cs := #[.int .i64 t454, .int .i64 0]) ?_ 1 _ rfl; (with_reducible repeat (first | refine blk_drewN ?_ _ | refine blk_drew ?_ | refine blk_alloc ?_ _)); refine blk_put (cs := #[.int .i64 0, .int .i64 0]) ?_ 0 _ rfl; (with_reducible repeat (first | refine blk_drewN ?_ _ | refine blk_drew ?_ | refine blk_alloc ?_ _)); exact BK457.out) hg (Kd.R_away HO_7.out (fun _ hk => hk.2))); have n2_ := Aside0.mk (hb); have n3_ := Aside0.mk (ho); clear BK450; clear BK457; clear HB; clear HO_7; have BK450 := n0_; have BK457 := n1_; have HB := n2_; have HO460 := n3_; clear n0_ n1_ n2_ n3_; clear ho hb hg hat))
                        go_roundg k3
                        case measure => have := HJ3.out; have := HK2.out; have := HK3.out; omega
                        case rel => exact ⟨(y458), (wrap64 (x9_3 + 1)), (by first | rfl | (simp; done) | (simp [*]; done)), H', ⟨by have := HJ3.out; have := HK2.out; have := HK3.out; omega⟩, ⟨by (with_reducible repeat (first | apply Kd.R_alloc | apply Kd.R_drewN | apply Kd.R_drew)); exact Kd.R_mono HO460.out (fun _ hk => hk.1)⟩, ⟨by (with_reducible repeat (first | refine blk_drewN ?_ _ | refine blk_drew ?_ | refine blk_alloc ?_ _)); exact BK450.out⟩, ⟨by repeat (first | (with_reducible first | exact HB.out | apply below_alloc | apply pw_below_drewN | apply below_drew1 | refine below_set ?_ GE450.out | refine below_set ?_ GE457.out) | exact HB.out)⟩⟩
                      · rw [if_neg c14] at H
                        exact absurd H (by simp)
                    · replace c13 := Bool.eq_false_iff.mpr c13
                      subst c13
                      have H1 : (some (([] : List (S28)))) = some r := by rw [if_neg (show ¬ (false = true) by decide)] at H; exact H
                      clear H
                      have H := H1
                      clear H1
                      obtain ⟨y461, hy461⟩ : ∃ y_ : List (S28), y_ = (([] : List (S28))) := ⟨_, rfl⟩
                      replace H : (some y461) = some r := by first | (rw [hy461]; with_reducible exact H) | (have H2_ := (Option.bind_some _ _).symm.trans H; rw [hy461]; with_reducible exact H2_) | (have H2_ := (Option.bind_some _ _).symm.trans H; with_reducible exact H2_) | with_reducible exact H | (rw [hy461]; exact H) | exact H
                      have Ny461 := Aside0.mk hy461
                      clear hy461
                      obtain rfl := Option.some.inj H
                      have hcz21_0 : wr.cell? ⟨gb450, 0, none⟩ = some (.int .i64 a0_0) := (blk_cell BK450.out 0).trans rfl
                      have hcz21_1 : wr.cell? ⟨gb450, 1, none⟩ = some (.int .i64 a0_1) := (blk_cell BK450.out 1).trans rfl
                      have hfz21_0 := blk_frozen BK450.out 0
                      have hfz21_1 := blk_frozen BK450.out 1
                      go_wp2_with (first | ((with_reducible refine gate_callee (f := 14) rfl ?_); refine goesL_ (some 40) rfl rfl Try.func14 (by kernel_rfl) rfl #[.agg #[.int .i64 a0_0, .int .i64 a0_1], .agg #[.int .i64 x8_2, .int .i64 x9_3], .int .i64 a1] rfl (by (try simp only [List.map_toArray, List.map_cons, List.map_nil]); first | done | rfl | (simp only [List.length_drop, List.length_take]; rfl)) ?_; (with_reducible refine (zelligeref06_At.calls a0_0 a0_1 x8_2 x9_3 a1 t454 t455 false _ A12.out).mono ?_); rintro e w22 ⟨rfl, hb⟩; refine ⟨_, rfl, ?_⟩; have n0_ := Aside0.mk (Kd.R_below (by (with_reducible repeat (first | apply Kd.R_alloc | apply Kd.R_drewN | apply Kd.R_drew)); exact HO_7.out) hb); have n1_ := Aside0.mk (blk_below (g := gb450) (o := .cells #[.int .i64 a0_0, .int .i64 a0_1] 28 (0, 0)) (by (with_reducible repeat (first | refine blk_drewN ?_ _ | refine blk_drew ?_ | refine blk_alloc ?_ _)); exact BK450.out) hb); have n2_ := Aside0.mk (below_step (by repeat (first | (with_reducible first | exact HB.out | apply below_alloc | apply pw_below_drewN | apply below_drew1 | refine below_set ?_ GE450.out) | exact HB.out)) hb); clear HO_7; clear BK450; clear HB; have HO_7 := n0_; have BK450 := n1_; have HB := n2_; clear n0_ n1_ n2_; (try clear hb); (try clear hb2); (try clear hk); (try clear hi)) | ((with_reducible refine gate_dst (N := 10) rfl ?_); refine box_event ?hg (N := 10) ?hd (cs := #[.int .i64 0, .int .i64 0]) (t := 28) ?hr ?_; (case hd => rfl); (case hg => rfl); (case hr => first | (go_simp; done) | (go_simp; rfl)); intro gb457 hg w23 hbox hb; have n0_ := Aside0.mk (Kd.R_below (Kd.R_elderB (by (with_reducible repeat (first | apply Kd.R_alloc | apply Kd.R_drewN | apply Kd.R_drew)); exact HO_7.out) gb457 (Nat.le_of_eq hg.symm)) hb); have n1_ := Aside0.mk (blk_below (g := gb450) (o := .cells #[.int .i64 a0_0, .int .i64 a0_1] 28 (0, 0)) (by (with_reducible repeat (first | refine blk_drewN ?_ _ | refine blk_drew ?_ | refine blk_alloc ?_ _)); exact BK450.out) hb); have n2_ := Aside0.mk (below_step (by repeat (first | (with_reducible first | exact HB.out | apply below_alloc | apply pw_below_drewN | apply below_drew1 | refine below_set ?_ GE450.out) | exact HB.out)) hb); have n3_ := Aside0.mk (hbox); have n4_ := Aside0.mk ((by rw [hg]; exact (below_size (by repeat (first | (with_reducible first | exact HB.out | apply below_alloc | apply pw_below_drewN | apply below_drew1 | refine below_set ?_ GE450.out) | exact HB.out))) : w.heap.size ≤ gb457)); have n5_ := Aside0.mk ((by rw [hg]; exact (below_size (by repeat (first | (with_reducible first | exact HB.out | apply below_alloc | apply pw_below_drewN | apply below_drew1 | refine below_set ?_ GE450.out) | exact HB.out))) : w.heap.size ≤ gb457)); have n6_ := Aside0.mk ((by rw [hg]; exact Nat.ne_of_lt (blk_lt (g := gb450) (o := .cells #[.int .i64 a0_0, .int .i64 a0_1] 28 (0, 0)) (by (with_reducible repeat (first | refine blk_drewN ?_ _ | refine blk_drew ?_ | refine blk_alloc ?_ _)); exact BK450.out)) : gb450 ≠ gb457)); have n7_ := Aside0.mk ((by rw [hg]; exact Nat.ne_of_gt (blk_lt (g := gb450) (o := .cells #[.int .i64 a0_0, .int .i64 a0_1] 28 (0, 0)) (by (with_reducible repeat (first | refine blk_drewN ?_ _ | refine blk_drew ?_ | refine blk_alloc ?_ _)); exact BK450.out)) : gb457 ≠ gb450)); clear HO_7; clear BK450; clear HB; have HO_7 := n0_; have BK450 := n1_; have HB := n2_; have BK457 := n3_; have GW457 := n4_; have GE457 := n5_; have NB450_457 := n6_; have NB457_450 := n7_; clear n0_ n1_ n2_ n3_ n4_ n5_ n6_ n7_; clear hb hbox hg; have hnb24 := NB457_450.out; have hnc24 := NB450_457.out; have hcz25_0 : w23.cell? ⟨gb457, 0, none⟩ = some (.int .i64 0) := (blk_cell BK457.out 0).trans rfl; have hcz25_1 : w23.cell? ⟨gb457, 1, none⟩ = some (.int .i64 0) := (blk_cell BK457.out 1).trans rfl; have hfz25_0 := blk_frozen BK457.out 0; have hfz25_1 := blk_frozen BK457.out 1) | ((with_reducible refine gate_dst (N := 45) rfl ?_); refine Kd.R_lit k28 _ 28 ?hg (N := 45) ?hd (xs := ([] : List (S28))) (inner := []) (ok := fun _ => True) (okp := fun _ => True) ?hr ?hp (fun _ hk => hk) trivial (Below.refl _ _) (Nat.le_refl _) (by simp) ?_; (case hd => rfl); (case hg => rfl); (case hr => first | (go_simp; done) | (go_simp; rfl)); (case hp => exact (Reps.none _ _)); intro v462 w26 ho27 hb hg_ hnew_; clear hg_ hnew_; (first | rw [← Ny461.out] at ho27 | (simp only [Int.reduceToNat] at ho27; rw [← Ny461.out] at ho27)); have n0_ := Aside0.mk (Kd.R_elder' (by (with_reducible repeat (first | apply Kd.R_alloc | apply Kd.R_drewN | apply Kd.R_drew)); exact (Kd.R_mono (Kd.R_far (p := ⟨gb457, 1, none⟩) (Kd.R_far (p := ⟨gb457, 0, none⟩) (Kd.R_mono HO_7.out (fun k_ hk => (⟨hk, hk.2⟩ : _ ∧ k_ ≠ gb457))) (fun _ hk => hk.2) (.int .i64 t454)) (fun _ hk => hk.2) (.int .i64 t455)) (fun _ h_ => h_.1))) (Kd.R_base ho27) hb); have n1_ := Aside0.mk (Kd.R_lower (Kd.R_newB (Kd.R_newB (Kd.R_new' ho27 (Kd.R_lt (by (with_reducible repeat (first | apply Kd.R_alloc | apply Kd.R_drewN | apply Kd.R_drew)); exact (Kd.R_mono (Kd.R_far (p := ⟨gb457, 1, none⟩) (Kd.R_far (p := ⟨gb457, 0, none⟩) (Kd.R_mono HO_7.out (fun k_ hk => (⟨hk, hk.2⟩ : _ ∧ k_ ≠ gb457))) (fun _ hk => hk.2) (.int .i64 t454)) (fun _ hk => hk.2) (.int .i64 t455)) (fun _ h_ => h_.1))))) (g := gb450) (o := .cells #[.int .i64 a0_0, .int .i64 a0_1] 28 (0, 0)) (by (with_reducible repeat (first | refine blk_drewN ?_ _ | refine blk_drew ?_ | refine blk_alloc ?_ _)); refine blk_far ?_ NB450_457.out _; (with_reducible repeat (first | refine blk_drewN ?_ _ | refine blk_drew ?_ | refine blk_alloc ?_ _)); refine blk_far ?_ NB450_457.out _; (with_reducible repeat (first | refine blk_drewN ?_ _ | refine blk_drew ?_ | refine blk_alloc ?_ _)); exact BK450.out)) (g := gb457) (o := .cells #[.int .i64 t454, .int .i64 t455] 28 (0, 0)) (by (with_reducible repeat (first | refine blk_drewN ?_ _ | refine blk_drew ?_ | refine blk_alloc ?_ _)); refine blk_put (cs := #[.int .i64 t454, .int .i64 0]) ?_ 1 _ rfl; (with_reducible repeat (first | refine blk_drewN ?_ _ | refine blk_drew ?_ | refine blk_alloc ?_ _)); refine blk_put (cs := #[.int .i64 0, .int .i64 0]) ?_ 0 _ rfl; (with_reducible repeat (first | refine blk_drewN ?_ _ | refine blk_drew ?_ | refine blk_alloc ?_ _)); exact BK457.out)) (below_size (by repeat (first | (with_reducible first | exact HB.out | apply below_alloc | apply pw_below_drewN | apply below_drew1 | refine below_set ?_ GE450.out | refine below_set ?_ GE457.out) | exact HB.out)))); have n2_ := Aside0.mk (blk_below (g := gb450) (o := .cells #[.int .i64 a0_0, .int .i64 a0_1] 28 (0, 0)) (by (with_reducible repeat (first | refine blk_drewN ?_ _ | refine blk_drew ?_ | refine blk_alloc ?_ _)); refine blk_far ?_ NB450_457.out _; (with_reducible repeat (first | refine blk_drewN ?_ _ | refine blk_drew ?_ | refine blk_alloc ?_ _)); refine blk_far ?_ NB450_457.out _; (with_reducible repeat (first | refine blk_drewN ?_ _ | refine blk_drew ?_ | refine blk_alloc ?_ _)); exact BK450.out) hb); have n3_ := Aside0.mk (blk_below (g := gb457) (o := .cells #[.int .i64 t454, .int .i64 t455] 28 (0, 0)) (by (with_reducible repeat (first | refine blk_drewN ?_ _ | refine blk_drew ?_ | refine blk_alloc ?_ _)); refine blk_put (cs := #[.int .i64 t454, .int .i64 0]) ?_ 1 _ rfl; (with_reducible repeat (first | refine blk_drewN ?_ _ | refine blk_drew ?_ | refine blk_alloc ?_ _)); refine blk_put (cs := #[.int .i64 0, .int .i64 0]) ?_ 0 _ rfl; (with_reducible repeat (first | refine blk_drewN ?_ _ | refine blk_drew ?_ | refine blk_alloc ?_ _)); exact BK457.out) hb); have n4_ := Aside0.mk (below_step (by repeat (first | (with_reducible first | exact HB.out | apply below_alloc | apply pw_below_drewN | apply below_drew1 | refine below_set ?_ GE450.out | refine below_set ?_ GE457.out) | exact HB.out)) hb); clear HO_7; clear BK450; clear BK457; clear HB; have HO_7 := n0_; have HO463 := n1_; have BK450 := n2_; have BK457 := n3_; have HB := n4_; clear n0_ n1_ n2_ n3_ n4_; clear hb ho27))
                      go_ret
                      exact ⟨_, by first | rfl | (simp [errW_none, errW_some] <;> rfl) | (simp [*, errW_none, errW_some] <;> rfl), by (with_reducible repeat (first | apply Kd.R_alloc | apply Kd.R_drewN | apply Kd.R_drew)); exact Kd.R_mono HO463.out (fun _ hk => trivial), by repeat (first | (with_reducible first | exact HB.out | apply below_alloc | apply pw_below_drewN | apply below_drew1 | refine below_set ?_ GE450.out | refine below_set ?_ GE457.out) | exact HB.out)⟩
                  · rw [if_neg c11] at H
                    have c11b0 : decide (x9_3 ≤ a2) = false := decide_eq_false c11
                    clear c11
                    have H' := Aside0.mk H
                    clear H
                    go_wp2
                    go_roundg k3
                    case measure => have := HJ3.out; have := HK2.out; have := HK3.out; omega
                    case rel => exact ⟨(x7_3), (wrap64 (x8_2 + 1)), (by first | rfl | (simp; done) | (simp [*]; done)), H', ⟨by have := HJ3.out; have := HK2.out; have := HK3.out; omega⟩, ⟨by (with_reducible repeat (first | apply Kd.R_alloc | apply Kd.R_drewN | apply Kd.R_drew)); exact HO_7.out⟩, ⟨by (with_reducible repeat (first | refine blk_drewN ?_ _ | refine blk_drew ?_ | refine blk_alloc ?_ _)); exact BK450.out⟩, ⟨by repeat (first | (with_reducible first | exact HB.out | apply below_alloc | apply pw_below_drewN | apply below_drew1 | refine below_set ?_ GE450.out) | exact HB.out)⟩⟩
            · rw [if_neg c10] at H
              have c10b0 : decide (x8_2 ≤ a2) = false := decide_eq_false c10
              clear c10
              obtain rfl := Option.some.inj H
              go_wp2
              go_ret
              exact ⟨_, by first | rfl | (simp [errW_none, errW_some] <;> rfl) | (simp [*, errW_none, errW_some] <;> rfl), by (with_reducible repeat (first | apply Kd.R_alloc | apply Kd.R_drewN | apply Kd.R_drew)); exact Kd.R_mono HO_7.out (fun _ hk => trivial), by repeat (first | (with_reducible first | exact HB.out | apply below_alloc | apply pw_below_drewN | apply below_drew1 | refine below_set ?_ GE450.out) | exact HB.out)⟩

end Go.Proofs.Ytgjpemfjccajkaa.F
end

section
namespace Go.Proofs.Ytgjpemfjccajkaa.F
open Go.RowKit Go.Proofs.YtgjpemfjccajkaaW.PrintWords Go.Proofs.YtgjpemfjccajkaaW.PrintLast Go.Proofs.YtgjpemfjccajkaaW.PrintMore
attribute [local go_sem] max2_int min2_int max_two min_two max_three min_three max_four min_four   -- for this text's walks alone
set_option linter.unusedVariables false
set_option linter.unusedSimpArgs false

/-! ### zelligelaw06_LiftWindows: function 7 -/
def zelligelaw06_LiftWindows.l0 : Nat → Int → Int → List (S28) → Int → Int → Int → Option (Bool)
  | 0, _, _, _, _, _, _ => none
  | k + 1, x1, x2, x7, x8, x465000, x465001 => if x8 < (x7.length : Int) then (if 0 ≤ (wrap64 (x8 - 1)) then (if (wrap64 (x8 - 1)) < (x7.length : Int) then (if 0 ≤ x8 then ((lift_Cmp.f k ((rd_T28 x7 (wrap64 (x8 - 1))).f0) ((rd_T28 x7 (wrap64 (x8 - 1))).f1) ((rd_T28 x7 x8).f0) ((rd_T28 x7 x8).f1)).bind fun t470 => (if t470 ≥ 0 then (some false) else (zelligelaw06_LiftWindows.l0 k x1 x2 x7 (wrap64 (x8 + 1)) x465000 x465001))) else (none)) else (none)) else (none)) else ((zelligeref06_Window.f k x465000 x465001 x1 x2).bind fun t471 => ((zelligeref06_Same.f k x7 t471).bind fun t474 => (if t474 = true then ((zelligelaw06_lives.f k).bind fun t475 => (some t475)) else (some false))))
def zelligelaw06_LiftWindows.f (k : Nat) (a0_0 : Int) (a0_1 : Int) (a1 : Int) (a2 : Int) : Option (Bool) := (lift_Window.f k a0_0 a0_1 a1 a2).bind fun t465 => (zelligelaw06_LiftWindows.l0 k a1 a2 t465 1 a0_0 a0_1)
theorem zelligelaw06_LiftWindows.mono_l : ∀ k, (∀ y0 y1 y2 y3 y4 y5, LeO (zelligelaw06_LiftWindows.l0 k y0 y1 y2 y3 y4 y5) (zelligelaw06_LiftWindows.l0 (k + 1) y0 y1 y2 y3 y4 y5))
  | 0 => fun _ _ _ _ _ _ r h => by simp [zelligelaw06_LiftWindows.l0] at h
  | k + 1 => by
    have ih0 := zelligelaw06_LiftWindows.mono_l k
    · intro y0 y1 y2 y3 y4 y5
      unfold zelligelaw06_LiftWindows.l0
      repeat' first
      | (with_reducible exact ih0 _ _ _ _ _ _)
      | (with_reducible exact lift_Cmp.mono _ _ _ _ _)
      | (with_reducible exact lift_Window.mono _ _ _ _ _)
      | (with_reducible exact zelligelaw06_lives.mono _)
      | (with_reducible exact zelligeref06_Same.mono _ _ _)
      | (with_reducible exact zelligeref06_Window.mono _ _ _ _ _)
      | (with_reducible exact LeO.refl _)
      | (with_reducible exact LeO.none _)
      | (with_reducible refine LeO.ite ?_ ?_)
      | (with_reducible refine LeO.bind ?_ (fun _ => ?_))
      | exact ih0 _ _ _ _ _ _
      | exact lift_Cmp.mono _ _ _ _ _
      | exact lift_Window.mono _ _ _ _ _
      | exact zelligelaw06_lives.mono _
      | exact zelligeref06_Same.mono _ _ _
      | exact zelligeref06_Window.mono _ _ _ _ _
      | exact LeO.none _
      | refine LeO.ite ?_ ?_
      | refine LeO.bind ?_ (fun _ => ?_)
theorem zelligelaw06_LiftWindows.mono : ∀ a0 a1 a2 a3 k, LeO (zelligelaw06_LiftWindows.f k a0 a1 a2 a3) (zelligelaw06_LiftWindows.f (k + 1) a0 a1 a2 a3) := by
  intro a0 a1 a2 a3 k
  have ih0 := zelligelaw06_LiftWindows.mono_l k
  unfold zelligelaw06_LiftWindows.f
  repeat' first
      | (with_reducible exact ih0 _ _ _ _ _ _)
      | (with_reducible exact lift_Cmp.mono _ _ _ _ _)
      | (with_reducible exact lift_Window.mono _ _ _ _ _)
      | (with_reducible exact zelligelaw06_lives.mono _)
      | (with_reducible exact zelligeref06_Same.mono _ _ _)
      | (with_reducible exact zelligeref06_Window.mono _ _ _ _ _)
      | (with_reducible exact LeO.refl _)
      | (with_reducible exact LeO.none _)
      | (with_reducible refine LeO.ite ?_ ?_)
      | (with_reducible refine LeO.bind ?_ (fun _ => ?_))
      | exact ih0 _ _ _ _ _ _
      | exact lift_Cmp.mono _ _ _ _ _
      | exact lift_Window.mono _ _ _ _ _
      | exact zelligelaw06_lives.mono _
      | exact zelligeref06_Same.mono _ _ _
      | exact zelligeref06_Window.mono _ _ _ _ _
      | exact LeO.none _
      | refine LeO.ite ?_ ?_
      | refine LeO.bind ?_ (fun _ => ?_)
def zelligelaw06_LiftWindows.T5 : Bool × List (List Nat × List Nat) := (true, [([], []), ([], []), ([1], [1]), ([0, 2], [0, 2]), ([3], [3]), ([], []), ([], []), ([5, 6], [5, 6]), ([7], [7]), ([4, 8], [4, 8]), ([9], [9])])
def zelligelaw06_LiftWindows.B5 : List Nat := [0, 0, 2, 7, 15, 0, 0, 96, 224, 511, 1023]
theorem zelligelaw06_LiftWindows.tab5 : rtab .any (opsOf Try.f7 5) = zelligelaw06_LiftWindows.T5 := by kernel_rfl
theorem zelligelaw06_LiftWindows.bits5 : waitsOk zelligelaw06_LiftWindows.T5.2 zelligelaw06_LiftWindows.B5 = true := by kernel_rfl
set_option maxHeartbeats 8000000 in
set_option maxRecDepth 100000 in
theorem zelligelaw06_LiftWindows.calls (k : Nat) (a0_0 : Int) (a0_1 : Int) (a1 : Int) (a2 : Int) (r : Bool) (w : World) (h : zelligelaw06_LiftWindows.f k a0_0 a0_1 a1 a2 = some r) :
    Calls Try.prog 7 #[.agg #[.int .i64 a0_0, .int .i64 a0_1], .int .i64 a1, .int .i64 a2] w fun e w' => e = .returned (.bool r) ∧ Below w.heap.size w w' := by
  have hu28 := Try.underlying28
  have HB := Aside0.mk (Below.refl w.heap.size w)
  have H : ((lift_Window.f k a0_0 a0_1 a1 a2).bind fun t465 => (zelligelaw06_LiftWindows.l0 k a1 a2 t465 1 a0_0 a0_1)) = some r := h
  clear h
  replace H := Option.bind_eq_some_iff.mp H
  obtain ⟨t465, A40, H⟩ := H
  replace H : (zelligelaw06_LiftWindows.l0 k a1 a2 t465 1 a0_0 a0_1) = some r := H
  have A4 := Aside0.mk A40
  clear A40
  have H' := Aside0.mk H
  clear H
  go_enter Try.func7, Try.ntmps7
  go_wp2_with (first | ((with_reducible refine gate_dst (N := 3) rfl ?_); refine box_event ?hg (N := 3) ?hd (cs := #[.int .i64 a0_0, .int .i64 a0_1]) (t := 28) ?hr ?_; (case hd => rfl); (case hg => rfl); (case hr => first | (go_simp; done) | (go_simp; rfl)); intro gb464 hg w5 hbox hb; have n0_ := Aside0.mk (below_step (by repeat (first | (with_reducible first | exact HB.out | apply below_alloc | apply pw_below_drewN | apply below_drew1) | exact HB.out)) hb); have n1_ := Aside0.mk (hbox); have n2_ := Aside0.mk ((by rw [hg]; exact (below_size (by repeat (first | (with_reducible first | exact HB.out | apply below_alloc | apply pw_below_drewN | apply below_drew1) | exact HB.out))) : w.heap.size ≤ gb464)); have n3_ := Aside0.mk ((by rw [hg]; exact (below_size (by repeat (first | (with_reducible first | exact HB.out | apply below_alloc | apply pw_below_drewN | apply below_drew1) | exact HB.out))) : w.heap.size ≤ gb464)); clear HB; have HB := n0_; have BK464 := n1_; have GW464 := n2_; have GE464 := n3_; clear n0_ n1_ n2_ n3_; clear hb hbox hg; have hcz6_0 : w5.cell? ⟨gb464, 0, none⟩ = some (.int .i64 a0_0) := (blk_cell BK464.out 0).trans rfl; have hcz6_1 : w5.cell? ⟨gb464, 1, none⟩ = some (.int .i64 a0_1) := (blk_cell BK464.out 1).trans rfl; have hfz6_0 := blk_frozen BK464.out 0; have hfz6_1 := blk_frozen BK464.out 1) | ((with_reducible refine gate_callee (f := 19) rfl ?_); refine goesL_ (some 12) rfl rfl Try.func19 (by kernel_rfl) rfl #[.agg #[.int .i64 a0_0, .int .i64 a0_1], .int .i64 a1, .int .i64 a2] rfl (by (try simp only [List.map_toArray, List.map_cons, List.map_nil]); first | done | rfl | (simp only [List.length_drop, List.length_take]; rfl)) ?_; (with_reducible refine (lift_Window.calls k a0_0 a0_1 a1 a2 t465 _ A4.out).mono ?_); rintro e w7 ⟨v466, rfl, ho0, hb⟩; refine ⟨_, rfl, ?_⟩; have n0_ := Aside0.mk (Kd.R_lower (Kd.R_newB ho0 (g := gb464) (o := .cells #[.int .i64 a0_0, .int .i64 a0_1] 28 (0, 0)) (by (with_reducible repeat (first | refine blk_drewN ?_ _ | refine blk_drew ?_ | refine blk_alloc ?_ _)); exact BK464.out)) (below_size (by repeat (first | (with_reducible first | exact HB.out | apply below_alloc | apply pw_below_drewN | apply below_drew1 | refine below_set ?_ GE464.out) | exact HB.out)))); have n1_ := Aside0.mk (blk_below (g := gb464) (o := .cells #[.int .i64 a0_0, .int .i64 a0_1] 28 (0, 0)) (by (with_reducible repeat (first | refine blk_drewN ?_ _ | refine blk_drew ?_ | refine blk_alloc ?_ _)); exact BK464.out) hb); have n2_ := Aside0.mk (below_step (by repeat (first | (with_reducible first | exact HB.out | apply below_alloc | apply pw_below_drewN | apply below_drew1 | refine below_set ?_ GE464.out) | exact HB.out)) hb); clear BK464; clear HB; have HO467 := n0_; have BK464 := n1_; have HB := n2_; clear n0_ n1_ n2_; (try clear hb); (try clear hb2); (try clear hk); (try clear hi); (try clear ho0)))
  go_loopg [8] k (fun kq v8 w' => ∃ (x8_1 : Int), v8 = .int .i64 x8_1 ∧ Aside0 (zelligelaw06_LiftWindows.l0 kq a1 a2 t465 x8_1 a0_0 a0_1 = some r) ∧ Aside0 (kq ≤ k) ∧ Aside0 (Kd.R k28 28 w' w.heap.size (fun k_ => k_ ≠ gb464) v466 t465) ∧ Aside0 (w'.heap[gb464]? = some (.cells #[.int .i64 a0_0, .int .i64 a0_1] 28 (0, 0))) ∧ Aside0 (Below w.heap.size w w'))
  case atStart => exact ⟨(1), (by first | rfl | (simp; done) | (simp [*]; done)), H', ⟨Nat.le_refl _⟩, ⟨by (with_reducible repeat (first | apply Kd.R_alloc | apply Kd.R_drewN | apply Kd.R_drew)); exact Kd.R_mono HO467.out (fun _ hk => hk.2)⟩, ⟨by (with_reducible repeat (first | refine blk_drewN ?_ _ | refine blk_drew ?_ | refine blk_alloc ?_ _)); exact BK464.out⟩, ⟨by repeat (first | (with_reducible first | exact HB.out | apply below_alloc | apply pw_below_drewN | apply below_drew1 | refine below_set ?_ GE464.out) | exact HB.out)⟩⟩
  case round =>
    clear H'
    try clear c1
    try clear p2
    try clear c7
    try clear hcz6_0
    try clear hcz6_1
    try clear hfz6_0
    try clear hfz6_1
    obtain ⟨x8_1, rfl, HA, HK1, HO_7, BK464, HB⟩ := hrel
    cases gk with
    | zero => exact absurd HA.out (by simp [zelligelaw06_LiftWindows.l0])
    | succ k1 =>
      have H := HA.out
      clear HA
      simp only [zelligelaw06_LiftWindows.l0] at H
      by_cases c8 : x8_1 < (t465.length : Int)
      · rw [if_pos c8] at H
        have c8b0 : decide (x8_1 < (t465.length : Int)) = true := decide_eq_true c8
        clear c8
        obtain ⟨ji9, hji9⟩ : ∃ j_ : Int, (wrap64 (x8_1 - 1)) = j_ := ⟨_, rfl⟩
        replace H : (if 0 ≤ (ji9) then (if (ji9) < (t465.length : Int) then (if 0 ≤ x8_1 then ((lift_Cmp.f k1 ((rd_T28 t465 (ji9)).f0) ((rd_T28 t465 (ji9)).f1) ((rd_T28 t465 x8_1).f0) ((rd_T28 t465 x8_1).f1)).bind fun t470 => (if t470 ≥ 0 then (some false) else (zelligelaw06_LiftWindows.l0 k1 a1 a2 t465 (wrap64 (x8_1 + 1)) a0_0 a0_1))) else (none)) else (none)) else (none)) = some r := by first | (rw [hji9] at H; exact H) | (simp only [hji9] at H ⊢; exact H)
        have hji9w : (IntKind.i64.wrap (x8_1 - 1)) = ji9 := (i64_w _).trans hji9
        by_cases c10 : 0 ≤ (ji9)
        · rw [if_pos c10] at H
          have c10b0 : decide (0 ≤ (ji9)) = true := decide_eq_true c10
          clear c10
          by_cases c11 : (ji9) < (t465.length : Int)
          · rw [if_pos c11] at H
            have c11b0 : decide ((ji9) < (t465.length : Int)) = true := decide_eq_true c11
            clear c11
            by_cases c12 : 0 ≤ x8_1
            · rw [if_pos c12] at H
              have c12b0 : decide (0 ≤ x8_1) = true := decide_eq_true c12
              clear c12
              replace H := Option.bind_eq_some_iff.mp H
              obtain ⟨t470, A130, H⟩ := H
              replace H : (if t470 ≥ 0 then (some false) else (zelligelaw06_LiftWindows.l0 k1 a1 a2 t465 (wrap64 (x8_1 + 1)) a0_0 a0_1)) = some r := H
              have A13 := Aside0.mk A130
              clear A130
              by_cases c14 : t470 ≥ 0
              · rw [if_pos c14] at H
                have c14b0 : decide (0 ≤ t470) = true := decide_eq_true c14
                clear c14
                obtain rfl := Option.some.inj H
                obtain ⟨Ao15, co15, eo15⟩ := Kd.R_slice HO_7.out
                subst eo15
                try go_wp2
                have n0_ := Aside0.mk (Kd.R_drew HO_7.out)
                have n1_ := Aside0.mk (blk_drew BK464.out)
                have n2_ := Aside0.mk (below_drew1 HB.out)
                clear HO_7
                clear BK464
                clear HB
                have HO_7 := n0_
                have BK464 := n1_
                have HB := n2_
                clear n0_ n1_ n2_
                have p468 : 0 ≤ ((ji9) : Int) := of_decide_eq_true (by first | (with_reducible assumption) | assumption)
                have q468 : (ji9) < (t465.length : Int) := of_decide_eq_true (by first | (with_reducible assumption) | assumption)
                obtain ⟨ad468, e468, hx468_0, hx468_1⟩ := at_T28 (Kd.R_reads' HO_7.out).2.2 (ji9) p468 q468
                cases e468
                replace p468 := eq_true p468
                replace q468 := eq_true q468
                have p469 : 0 ≤ (x8_1 : Int) := of_decide_eq_true (by first | (with_reducible assumption) | assumption)
                have q469 : x8_1 < (t465.length : Int) := of_decide_eq_true (by first | (with_reducible assumption) | assumption)
                obtain ⟨ad469, e469, hx469_0, hx469_1⟩ := at_T28 (Kd.R_reads' HO_7.out).2.2 x8_1 p469 q469
                obtain rfl : ad468 = ad469 := (by injection e469)
                replace p469 := eq_true p469
                replace q469 := eq_true q469
                refine start_ (n := 11) (S := fun w' => w'.cell? (ad468.add (((ji9)).toNat * 2)) = some (.int .i64 ((rd_T28 t465 (ji9)).f0)) ∧ w'.cell? ⟨(ad468.add (((ji9)).toNat * 2)).block, (ad468.add (((ji9)).toNat * 2)).off + 1, none⟩ = some (.int .i64 ((rd_T28 t465 (ji9)).f1)) ∧ w'.cell? (ad468.add ((x8_1).toNat * 2)) = some (.int .i64 ((rd_T28 t465 x8_1).f0)) ∧ w'.cell? ⟨(ad468.add ((x8_1).toNat * 2)).block, (ad468.add ((x8_1).toNat * 2)).off + 1, none⟩ = some (.int .i64 ((rd_T28 t465 x8_1).f1))) (ds := []) #[false, false, false, false, false, false, false, false, false, false, false] (by kernel_rfl) rfl rfl ⟨hx468_0, hx468_1, hx469_0, hx469_1⟩ (fun hHeld => ?_); refine with_tabW zelligelaw06_LiftWindows.tab5 zelligelaw06_LiftWindows.bits5 (fun HT_ HW_ => ?_)
                generalize wr.drew = w16 at HO_7 BK464 HB hx468_0 hx468_1 hx469_0 hx469_1 hHeld ⊢
                refine pure_ (i := 0) (N := some 19) (v := ?_) (a' := ?_) #[true, false, false, false, false, false, false, false, false, false, false] rfl rfl (any_of HT_.out (by kernel_rfl)) (fun _ _ _ h => h) (Or.inl ⟨by rfl, ?_⟩) ?_ ?_
                rotate_left
                · intro w'
                  go_simp
                  with_reducible rfl
                rotate_left
                · simp only [Act.put, List.setIfInBounds_toArray, List.set_cons_zero, List.set_cons_succ, i64_w, i32_w]
                  rfl
                refine pure_ (i := 1) (N := some 20) (v := ?_) (a' := ?_) #[true, true, false, false, false, false, false, false, false, false, false] rfl rfl (any_of HT_.out (by kernel_rfl)) (fun _ _ _ h => h) (Or.inl ⟨by rfl, ?_⟩) ?_ ?_
                rotate_left
                · intro w'
                  go_simp
                  with_reducible rfl
                rotate_left
                · simp only [Act.put, List.setIfInBounds_toArray, List.set_cons_zero, List.set_cons_succ, i64_w, i32_w]
                  rfl
                refine pure_ (i := 2) (N := some 21) (v := ?_) (a' := ?_) #[true, true, true, false, false, false, false, false, false, false, false] rfl rfl (any_of HT_.out (by kernel_rfl)) (fun _ _ _ h => h) (Or.inl ⟨by rfl, ?_⟩) ?_ ?_
                rotate_left
                · intro w'
                  go_simp
                  with_reducible rfl
                rotate_left
                · simp only [Act.put, List.setIfInBounds_toArray, List.set_cons_zero, List.set_cons_succ, i64_w, i32_w]
                  rfl
                refine pure_ (i := 3) (N := some 22) (v := ?_) (a' := ?_) #[true, true, true, true, false, false, false, false, false, false, false] rfl rfl (any_of HT_.out (by kernel_rfl)) (fun _ _ _ h => h) (Or.inl ⟨by rfl, ?_⟩) ?_ ?_
                rotate_left
                · intro w'
                  go_simp
                  with_reducible rfl
                rotate_left
                · simp only [Act.put, List.setIfInBounds_toArray, List.set_cons_zero, List.set_cons_succ, i64_w, i32_w]
                  rfl
                refine pure_ (i := 5) (N := some 24) (v := ?_) (a' := ?_) #[true, true, true, true, false, true, false, false, false, false, false] rfl rfl (any_of HT_.out (by kernel_rfl)) (fun _ _ _ h => h) (Or.inl ⟨by rfl, ?_⟩) ?_ ?_
                rotate_left
                · intro w'
                  go_simp
                  with_reducible rfl
                rotate_left
                · simp only [Act.put, List.setIfInBounds_toArray, List.set_cons_zero, List.set_cons_succ, i64_w, i32_w]
                  rfl
                refine pure_ (i := 6) (N := some 25) (v := ?_) (a' := ?_) #[true, true, true, true, false, true, true, false, false, false, false] rfl rfl (any_of HT_.out (by kernel_rfl)) (fun _ _ _ h => h) (Or.inl ⟨by rfl, ?_⟩) ?_ ?_
                rotate_left
                · intro w'
                  go_simp
                  with_reducible rfl
                rotate_left
                · simp only [Act.put, List.setIfInBounds_toArray, List.set_cons_zero, List.set_cons_succ, i64_w, i32_w]
                  rfl
                refine pure_ (i := 7) (N := some 26) (v := ?_) (a' := ?_) #[true, true, true, true, false, true, true, true, false, false, false] rfl rfl (any_of HT_.out (by kernel_rfl)) (fun _ _ _ h => h) (Or.inl ⟨by rfl, ?_⟩) ?_ ?_
                rotate_left
                · intro w'
                  go_simp
                  with_reducible rfl
                rotate_left
                · simp only [Act.put, List.setIfInBounds_toArray, List.set_cons_zero, List.set_cons_succ, i64_w, i32_w]
                  rfl
                refine take_ (i := 4) (N := some 23) (v := ?_) (a' := ?_) #[true, true, true, true, true, true, true, true, false, false, false] rfl rfl (take_ofW HT_.out HW_.out (by kernel_rfl)) (fun _ _ _ h => h) (Or.inl ⟨by rfl, ?_⟩) hHeld ?_ ?_
                rotate_left
                · rintro w' ⟨s0, s1, s2, s3⟩
                  go_simp
                  with_reducible rfl
                rotate_left
                · simp only [Act.put, List.setIfInBounds_toArray, List.set_cons_zero, List.set_cons_succ, i64_w, i32_w]
                  rfl
                refine take_ (i := 8) (N := some 27) (v := ?_) (a' := ?_) #[true, true, true, true, true, true, true, true, true, false, false] rfl rfl (take_ofW HT_.out HW_.out (by kernel_rfl)) (fun _ _ _ h => h) (Or.inl ⟨by rfl, ?_⟩) hHeld ?_ ?_
                rotate_left
                · rintro w' ⟨s0, s1, s2, s3⟩
                  go_simp
                  with_reducible rfl
                rotate_left
                · simp only [Act.put, List.setIfInBounds_toArray, List.set_cons_zero, List.set_cons_succ, i64_w, i32_w]
                  rfl
                refine one_ (i := 9) (N := some 28) #[true, true, true, true, true, true, true, true, true, true, false] rfl rfl (one_of HT_.out (by kernel_rfl)) (by decide) (fun K hK => ?_)
                refine goes_ Try.func17 (by kernel_rfl) rfl #[.agg #[.int .i64 ((rd_T28 t465 (ji9)).f0), .int .i64 ((rd_T28 t465 (ji9)).f1)], .agg #[.int .i64 ((rd_T28 t465 x8_1).f0), .int .i64 ((rd_T28 t465 x8_1).f1)]] (by rfl) rfl rfl (by (try simp only [List.map_toArray, List.map_cons, List.map_nil]); first | done | (simp only [hji9]; rfl) | rfl | (simp only [List.length_drop, List.length_take]; rfl)) ?_
                with_reducible refine (lift_Cmp.calls k1 ((rd_T28 t465 (ji9)).f0) ((rd_T28 t465 (ji9)).f1) ((rd_T28 t465 x8_1).f0) ((rd_T28 t465 x8_1).f1) t470 _ A13.out).mono ?_
                rintro e w17 ⟨rfl, hb⟩
                have HS0_ := (hb.cell (World.block_lt_of_cell? _ _ (hHeld.1))).trans (hHeld.1)
                have HS1_ := (hb.cell (World.block_lt_of_cell? _ _ (hHeld.2.1))).trans (hHeld.2.1)
                have HS2_ := (hb.cell (World.block_lt_of_cell? _ _ (hHeld.2.2.1))).trans (hHeld.2.2.1)
                have HS3_ := (hb.cell (World.block_lt_of_cell? _ _ (hHeld.2.2.2))).trans (hHeld.2.2.2)
                refine ⟨_, rfl, ?_⟩
                have n0_ := Aside0.mk (Kd.R_below (by (with_reducible repeat (first | apply Kd.R_alloc | apply Kd.R_drewN | apply Kd.R_drew)); exact HO_7.out) hb)
                have n1_ := Aside0.mk (blk_below (g := gb464) (o := .cells #[.int .i64 a0_0, .int .i64 a0_1] 28 (0, 0)) (by (with_reducible repeat (first | refine blk_drewN ?_ _ | refine blk_drew ?_ | refine blk_alloc ?_ _)); exact BK464.out) hb)
                have n2_ := Aside0.mk (below_step (by repeat (first | (with_reducible first | exact HB.out | apply below_alloc | apply pw_below_drewN | apply below_drew1 | refine below_set ?_ GE464.out) | exact HB.out)) hb)
                clear HO_7
                clear BK464
                clear HB
                have HO_7 := n0_
                have BK464 := n1_
                have HB := n2_
                clear n0_ n1_ n2_
                (try clear hb)
                (try clear hb2)
                (try clear hk)
                (try clear hi)
                refine hK.out _ _ ⟨HS0_, HS1_, HS2_, HS3_⟩ (fun hHeld => ?_)
                clear hK K
                refine norm_ (a' := ?_) ?_ ?_
                rotate_left
                · show Act.put _ (some 28) _ = _
                  simp only [Act.put, List.setIfInBounds_toArray, List.set_cons_zero, List.set_cons_succ, i64_w, i32_w]
                  rfl
                refine pure_ (i := 10) (N := some 29) (v := ?_) (a' := ?_) #[true, true, true, true, true, true, true, true, true, true, true] rfl rfl (any_of HT_.out (by kernel_rfl)) (fun _ _ _ h => h) (Or.inl ⟨by rfl, ?_⟩) ?_ ?_
                rotate_left
                · intro w'
                  go_simp
                  with_reducible rfl
                rotate_left
                · simp only [Act.put, List.setIfInBounds_toArray, List.set_cons_zero, List.set_cons_succ, i64_w, i32_w]
                  rfl
                refine done_ (done_of HT_.out (by kernel_rfl)) ?_
                try go_wp2
                go_ret
                exact ⟨by first | rfl | (simp [errW_none, errW_some] <;> rfl) | (simp only [← hji9]; first | rfl | (simp [errW_none, errW_some] <;> rfl)) | (simp [*, errW_none, errW_some] <;> rfl), by repeat (first | (with_reducible first | exact HB.out | apply below_alloc | apply pw_below_drewN | apply below_drew1 | refine below_set ?_ GE464.out) | exact HB.out)⟩
              · rw [if_neg c14] at H
                have c14b0 : decide (0 ≤ t470) = false := decide_eq_false c14
                clear c14
                have H' := Aside0.mk H
                clear H
                obtain ⟨Ao18, co18, eo18⟩ := Kd.R_slice HO_7.out
                subst eo18
                try go_wp2
                have n0_ := Aside0.mk (Kd.R_drew HO_7.out)
                have n1_ := Aside0.mk (blk_drew BK464.out)
                have n2_ := Aside0.mk (below_drew1 HB.out)
                clear HO_7
                clear BK464
                clear HB
                have HO_7 := n0_
                have BK464 := n1_
                have HB := n2_
                clear n0_ n1_ n2_
                have p468 : 0 ≤ ((ji9) : Int) := of_decide_eq_true (by first | (with_reducible assumption) | assumption)
                have q468 : (ji9) < (t465.length : Int) := of_decide_eq_true (by first | (with_reducible assumption) | assumption)
                obtain ⟨ad468, e468, hx468_0, hx468_1⟩ := at_T28 (Kd.R_reads' HO_7.out).2.2 (ji9) p468 q468
                cases e468
                replace p468 := eq_true p468
                replace q468 := eq_true q468
                have p469 : 0 ≤ (x8_1 : Int) := of_decide_eq_true (by first | (with_reducible assumption) | assumption)
                have q469 : x8_1 < (t465.length : Int) := of_decide_eq_true (by first | (with_reducible assumption) | assumption)
                obtain ⟨ad469, e469, hx469_0, hx469_1⟩ := at_T28 (Kd.R_reads' HO_7.out).2.2 x8_1 p469 q469
                obtain rfl : ad468 = ad469 := (by injection e469)
                replace p469 := eq_true p469
                replace q469 := eq_true q469
                refine start_ (n := 11) (S := fun w' => w'.cell? (ad468.add (((ji9)).toNat * 2)) = some (.int .i64 ((rd_T28 t465 (ji9)).f0)) ∧ w'.cell? ⟨(ad468.add (((ji9)).toNat * 2)).block, (ad468.add (((ji9)).toNat * 2)).off + 1, none⟩ = some (.int .i64 ((rd_T28 t465 (ji9)).f1)) ∧ w'.cell? (ad468.add ((x8_1).toNat * 2)) = some (.int .i64 ((rd_T28 t465 x8_1).f0)) ∧ w'.cell? ⟨(ad468.add ((x8_1).toNat * 2)).block, (ad468.add ((x8_1).toNat * 2)).off + 1, none⟩ = some (.int .i64 ((rd_T28 t465 x8_1).f1))) (ds := []) #[false, false, false, false, false, false, false, false, false, false, false] (by kernel_rfl) rfl rfl ⟨hx468_0, hx468_1, hx469_0, hx469_1⟩ (fun hHeld => ?_); refine with_tabW zelligelaw06_LiftWindows.tab5 zelligelaw06_LiftWindows.bits5 (fun HT_ HW_ => ?_)
                generalize wr.drew = w19 at HO_7 BK464 HB hx468_0 hx468_1 hx469_0 hx469_1 hHeld ⊢
                refine pure_ (i := 0) (N := some 19) (v := ?_) (a' := ?_) #[true, false, false, false, false, false, false, false, false, false, false] rfl rfl (any_of HT_.out (by kernel_rfl)) (fun _ _ _ h => h) (Or.inl ⟨by rfl, ?_⟩) ?_ ?_
                rotate_left
                · intro w'
                  go_simp
                  with_reducible rfl
                rotate_left
                · simp only [Act.put, List.setIfInBounds_toArray, List.set_cons_zero, List.set_cons_succ, i64_w, i32_w]
                  rfl
                refine pure_ (i := 1) (N := some 20) (v := ?_) (a' := ?_) #[true, true, false, false, false, false, false, false, false, false, false] rfl rfl (any_of HT_.out (by kernel_rfl)) (fun _ _ _ h => h) (Or.inl ⟨by rfl, ?_⟩) ?_ ?_
                rotate_left
                · intro w'
                  go_simp
                  with_reducible rfl
                rotate_left
                · simp only [Act.put, List.setIfInBounds_toArray, List.set_cons_zero, List.set_cons_succ, i64_w, i32_w]
                  rfl
                refine pure_ (i := 2) (N := some 21) (v := ?_) (a' := ?_) #[true, true, true, false, false, false, false, false, false, false, false] rfl rfl (any_of HT_.out (by kernel_rfl)) (fun _ _ _ h => h) (Or.inl ⟨by rfl, ?_⟩) ?_ ?_
                rotate_left
                · intro w'
                  go_simp
                  with_reducible rfl
                rotate_left
                · simp only [Act.put, List.setIfInBounds_toArray, List.set_cons_zero, List.set_cons_succ, i64_w, i32_w]
                  rfl
                refine pure_ (i := 3) (N := some 22) (v := ?_) (a' := ?_) #[true, true, true, true, false, false, false, false, false, false, false] rfl rfl (any_of HT_.out (by kernel_rfl)) (fun _ _ _ h => h) (Or.inl ⟨by rfl, ?_⟩) ?_ ?_
                rotate_left
                · intro w'
                  go_simp
                  with_reducible rfl
                rotate_left
                · simp only [Act.put, List.setIfInBounds_toArray, List.set_cons_zero, List.set_cons_succ, i64_w, i32_w]
                  rfl
                refine pure_ (i := 5) (N := some 24) (v := ?_) (a' := ?_) #[true, true, true, true, false, true, false, false, false, false, false] rfl rfl (any_of HT_.out (by kernel_rfl)) (fun _ _ _ h => h) (Or.inl ⟨by rfl, ?_⟩) ?_ ?_
                rotate_left
                · intro w'
                  go_simp
                  with_reducible rfl
                rotate_left
                · simp only [Act.put, List.setIfInBounds_toArray, List.set_cons_zero, List.set_cons_succ, i64_w, i32_w]
                  rfl
                refine pure_ (i := 6) (N := some 25) (v := ?_) (a' := ?_) #[true, true, true, true, false, true, true, false, false, false, false] rfl rfl (any_of HT_.out (by kernel_rfl)) (fun _ _ _ h => h) (Or.inl ⟨by rfl, ?_⟩) ?_ ?_
                rotate_left
                · intro w'
                  go_simp
                  with_reducible rfl
                rotate_left
                · simp only [Act.put, List.setIfInBounds_toArray, List.set_cons_zero, List.set_cons_succ, i64_w, i32_w]
                  rfl
                refine pure_ (i := 7) (N := some 26) (v := ?_) (a' := ?_) #[true, true, true, true, false, true, true, true, false, false, false] rfl rfl (any_of HT_.out (by kernel_rfl)) (fun _ _ _ h => h) (Or.inl ⟨by rfl, ?_⟩) ?_ ?_
                rotate_left
                · intro w'
                  go_simp
                  with_reducible rfl
                rotate_left
                · simp only [Act.put, List.setIfInBounds_toArray, List.set_cons_zero, List.set_cons_succ, i64_w, i32_w]
                  rfl
                refine take_ (i := 4) (N := some 23) (v := ?_) (a' := ?_) #[true, true, true, true, true, true, true, true, false, false, false] rfl rfl (take_ofW HT_.out HW_.out (by kernel_rfl)) (fun _ _ _ h => h) (Or.inl ⟨by rfl, ?_⟩) hHeld ?_ ?_
                rotate_left
                · rintro w' ⟨s0, s1, s2, s3⟩
                  go_simp
                  with_reducible rfl
                rotate_left
                · simp only [Act.put, List.setIfInBounds_toArray, List.set_cons_zero, List.set_cons_succ, i64_w, i32_w]
                  rfl
                refine take_ (i := 8) (N := some 27) (v := ?_) (a' := ?_) #[true, true, true, true, true, true, true, true, true, false, false] rfl rfl (take_ofW HT_.out HW_.out (by kernel_rfl)) (fun _ _ _ h => h) (Or.inl ⟨by rfl, ?_⟩) hHeld ?_ ?_
                rotate_left
                · rintro w' ⟨s0, s1, s2, s3⟩
                  go_simp
                  with_reducible rfl
                rotate_left
                · simp only [Act.put, List.setIfInBounds_toArray, List.set_cons_zero, List.set_cons_succ, i64_w, i32_w]
                  rfl
                refine one_ (i := 9) (N := some 28) #[true, true, true, true, true, true, true, true, true, true, false] rfl rfl (one_of HT_.out (by kernel_rfl)) (by decide) (fun K hK => ?_)
                refine goes_ Try.func17 (by kernel_rfl) rfl #[.agg #[.int .i64 ((rd_T28 t465 (ji9)).f0), .int .i64 ((rd_T28 t465 (ji9)).f1)], .agg #[.int .i64 ((rd_T28 t465 x8_1).f0), .int .i64 ((rd_T28 t465 x8_1).f1)]] (by rfl) rfl rfl (by (try simp only [List.map_toArray, List.map_cons, List.map_nil]); first | done | (simp only [hji9]; rfl) | rfl | (simp only [List.length_drop, List.length_take]; rfl)) ?_
                with_reducible refine (lift_Cmp.calls k1 ((rd_T28 t465 (ji9)).f0) ((rd_T28 t465 (ji9)).f1) ((rd_T28 t465 x8_1).f0) ((rd_T28 t465 x8_1).f1) t470 _ A13.out).mono ?_
                rintro e w20 ⟨rfl, hb⟩
                have HS0_ := (hb.cell (World.block_lt_of_cell? _ _ (hHeld.1))).trans (hHeld.1)
                have HS1_ := (hb.cell (World.block_lt_of_cell? _ _ (hHeld.2.1))).trans (hHeld.2.1)
                have HS2_ := (hb.cell (World.block_lt_of_cell? _ _ (hHeld.2.2.1))).trans (hHeld.2.2.1)
                have HS3_ := (hb.cell (World.block_lt_of_cell? _ _ (hHeld.2.2.2))).trans (hHeld.2.2.2)
                refine ⟨_, rfl, ?_⟩
                have n0_ := Aside0.mk (Kd.R_below (by (with_reducible repeat (first | apply Kd.R_alloc | apply Kd.R_drewN | apply Kd.R_drew)); exact HO_7.out) hb)
                have n1_ := Aside0.mk (blk_below (g := gb464) (o := .cells #[.int .i64 a0_0, .int .i64 a0_1] 28 (0, 0)) (by (with_reducible repeat (first | refine blk_drewN ?_ _ | refine blk_drew ?_ | refine blk_alloc ?_ _)); exact BK464.out) hb)
                have n2_ := Aside0.mk (below_step (by repeat (first | (with_reducible first | exact HB.out | apply below_alloc | apply pw_below_drewN | apply below_drew1 | refine below_set ?_ GE464.out) | exact HB.out)) hb)
                clear HO_7
                clear BK464
                clear HB
                have HO_7 := n0_
                have BK464 := n1_
                have HB := n2_
                clear n0_ n1_ n2_
                (try clear hb)
                (try clear hb2)
                (try clear hk)
                (try clear hi)
                refine hK.out _ _ ⟨HS0_, HS1_, HS2_, HS3_⟩ (fun hHeld => ?_)
                clear hK K
                refine norm_ (a' := ?_) ?_ ?_
                rotate_left
                · show Act.put _ (some 28) _ = _
                  simp only [Act.put, List.setIfInBounds_toArray, List.set_cons_zero, List.set_cons_succ, i64_w, i32_w]
                  rfl
                refine pure_ (i := 10) (N := some 29) (v := ?_) (a' := ?_) #[true, true, true, true, true, true, true, true, true, true, true] rfl rfl (any_of HT_.out (by kernel_rfl)) (fun _ _ _ h => h) (Or.inl ⟨by rfl, ?_⟩) ?_ ?_
                rotate_left
                · intro w'
                  go_simp
                  with_reducible rfl
                rotate_left
                · simp only [Act.put, List.setIfInBounds_toArray, List.set_cons_zero, List.set_cons_succ, i64_w, i32_w]
                  rfl
                refine done_ (done_of HT_.out (by kernel_rfl)) ?_
                try go_wp2
                go_roundg k1
                case measure => have := HK1.out; omega
                case rel => exact ⟨(wrap64 (x8_1 + 1)), (by first | rfl | (simp; done) | (simp [*]; done)), H', ⟨by have := HK1.out; omega⟩, ⟨by (with_reducible repeat (first | apply Kd.R_alloc | apply Kd.R_drewN | apply Kd.R_drew)); exact HO_7.out⟩, ⟨by (with_reducible repeat (first | refine blk_drewN ?_ _ | refine blk_drew ?_ | refine blk_alloc ?_ _)); exact BK464.out⟩, ⟨by repeat (first | (with_reducible first | exact HB.out | apply below_alloc | apply pw_below_drewN | apply below_drew1 | refine below_set ?_ GE464.out) | exact HB.out)⟩⟩
            · rw [if_neg c12] at H
              exact absurd H (by simp)
          · rw [if_neg c11] at H
            exact absurd H (by simp)
        · rw [if_neg c10] at H
          exact absurd H (by simp)
      · rw [if_neg c8] at H
        have c8b0 : decide (x8_1 < (t465.length : Int)) = false := decide_eq_false c8
        clear c8
        replace H := Option.bind_eq_some_iff.mp H
        obtain ⟨t471, A210, H⟩ := H
        replace H : ((zelligeref06_Same.f k1 t465 t471).bind fun t474 => (if t474 = true then ((zelligelaw06_lives.f k1).bind fun t475 => (some t475)) else (some false))) = some r := H
        have A21 := Aside0.mk A210
        clear A210
        replace H := Option.bind_eq_some_iff.mp H
        obtain ⟨t474, A220, H⟩ := H
        replace H : (if t474 = true then ((zelligelaw06_lives.f k1).bind fun t475 => (some t475)) else (some false)) = some r := H
        have A22 := Aside0.mk A220
        clear A220
        by_cases c23 : t474 = true
        · subst c23
          have H1 : ((zelligelaw06_lives.f k1).bind fun t475 => (some t475)) = some r := by rw [if_pos rfl] at H; exact H
          clear H
          have H := H1
          clear H1
          replace H := Option.bind_eq_some_iff.mp H
          obtain ⟨t475, A240, H⟩ := H
          replace H : (some t475) = some r := H
          have A24 := Aside0.mk A240
          clear A240
          obtain rfl := Option.some.inj H
          obtain ⟨Ao25, co25, eo25⟩ := Kd.R_slice HO_7.out
          subst eo25
          have hcz26_0 : wr.cell? ⟨gb464, 0, none⟩ = some (.int .i64 a0_0) := (blk_cell BK464.out 0).trans rfl
          have hcz26_1 : wr.cell? ⟨gb464, 1, none⟩ = some (.int .i64 a0_1) := (blk_cell BK464.out 1).trans rfl
          have hfz26_0 := blk_frozen BK464.out 0
          have hfz26_1 := blk_frozen BK464.out 1
          go_wp2_with (first | ((with_reducible refine gate_callee (f := 21) rfl ?_); refine goesL_ (some 34) rfl rfl Try.func21 (by kernel_rfl) rfl #[.agg #[.int .i64 a0_0, .int .i64 a0_1], .int .i64 a1, .int .i64 a2] rfl (by (try simp only [List.map_toArray, List.map_cons, List.map_nil]); first | done | rfl | (simp only [List.length_drop, List.length_take]; rfl)) ?_; (with_reducible refine (zelligeref06_Window.calls k1 a0_0 a0_1 a1 a2 t471 _ A21.out).mono ?_); rintro e w27 ⟨v472, rfl, ho0, hb⟩; refine ⟨_, rfl, ?_⟩; have n0_ := Aside0.mk (Kd.R_elder' (by (with_reducible repeat (first | apply Kd.R_alloc | apply Kd.R_drewN | apply Kd.R_drew)); exact HO_7.out) (Kd.R_base ho0) hb); have n1_ := Aside0.mk (Kd.R_lower (Kd.R_newB (Kd.R_new' ho0 (Kd.R_lt (by (with_reducible repeat (first | apply Kd.R_alloc | apply Kd.R_drewN | apply Kd.R_drew)); exact HO_7.out))) (g := gb464) (o := .cells #[.int .i64 a0_0, .int .i64 a0_1] 28 (0, 0)) (by (with_reducible repeat (first | refine blk_drewN ?_ _ | refine blk_drew ?_ | refine blk_alloc ?_ _)); exact BK464.out)) (below_size (by repeat (first | (with_reducible first | exact HB.out | apply below_alloc | apply pw_below_drewN | apply below_drew1 | refine below_set ?_ GE464.out) | exact HB.out)))); have n2_ := Aside0.mk (blk_below (g := gb464) (o := .cells #[.int .i64 a0_0, .int .i64 a0_1] 28 (0, 0)) (by (with_reducible repeat (first | refine blk_drewN ?_ _ | refine blk_drew ?_ | refine blk_alloc ?_ _)); exact BK464.out) hb); have n3_ := Aside0.mk (below_step (by repeat (first | (with_reducible first | exact HB.out | apply below_alloc | apply pw_below_drewN | apply below_drew1 | refine below_set ?_ GE464.out) | exact HB.out)) hb); clear HO_7; clear BK464; clear HB; have HO_7 := n0_; have HO473 := n1_; have BK464 := n2_; have HB := n3_; clear n0_ n1_ n2_ n3_; (try clear hb); (try clear hb2); (try clear hk); (try clear hi); (try clear ho0); obtain ⟨Ao28, co28, eo28⟩ := Kd.R_slice HO473.out; subst eo28) | ((with_reducible refine gate_callee (f := 20) rfl ?_); refine goesL_ (some 35) rfl rfl Try.func20 (by kernel_rfl) rfl #[.slice Ao25 t465.length co25, .slice Ao28 t471.length co28] rfl (by (try simp only [List.map_toArray, List.map_cons, List.map_nil]); first | done | rfl | (simp only [List.length_drop, List.length_take]; rfl)) ?_; (with_reducible refine (zelligeref06_Same.calls k1 _ _ t465 _ _ t471 true _ ?side1 ?side2 ?side3 ?side4 A22.out).mono ?_); (case side1 => repeat (first | exact (Kd.R_reads' HO_7.out).2.2 | (with_reducible refine Kd.C_alloc ?_ _) | (with_reducible refine Kd.C_drewN ?_ _) | (with_reducible refine Kd.C_drew ?_))); (case side2 => exact (Kd.R_reads' HO_7.out).2.1); (case side3 => repeat (first | exact (Kd.R_reads' HO473.out).2.2 | (with_reducible refine Kd.C_alloc ?_ _) | (with_reducible refine Kd.C_drewN ?_ _) | (with_reducible refine Kd.C_drew ?_))); (case side4 => exact (Kd.R_reads' HO473.out).2.1); rintro e w' ⟨rfl, ⟨nd, rfl⟩⟩; refine ⟨_, rfl, ?_⟩) | (go_at_call 10; (with_reducible refine (zelligelaw06_lives.calls k1  t475 _ A24.out).mono ?_); rintro e w29 ⟨rfl, hb⟩; have n0_ := Aside0.mk (Kd.R_below (by (with_reducible repeat (first | apply Kd.R_alloc | apply Kd.R_drewN | apply Kd.R_drew)); exact HO_7.out) hb); have n1_ := Aside0.mk (Kd.R_below (by (with_reducible repeat (first | apply Kd.R_alloc | apply Kd.R_drewN | apply Kd.R_drew)); exact HO473.out) hb); have n2_ := Aside0.mk (blk_below (g := gb464) (o := .cells #[.int .i64 a0_0, .int .i64 a0_1] 28 (0, 0)) (by (with_reducible repeat (first | refine blk_drewN ?_ _ | refine blk_drew ?_ | refine blk_alloc ?_ _)); exact BK464.out) hb); have n3_ := Aside0.mk (below_step (by repeat (first | (with_reducible first | exact HB.out | apply below_alloc | apply pw_below_drewN | apply below_drew1 | refine below_set ?_ GE464.out) | exact HB.out)) hb); clear HO_7; clear HO473; clear BK464; clear HB; have HO_7 := n0_; have HO473 := n1_; have BK464 := n2_; have HB := n3_; clear n0_ n1_ n2_ n3_; (try clear hb); (try clear hb2); (try clear hk); (try clear hi)))
          go_ret
          exact ⟨by first | rfl | (simp [errW_none, errW_some] <;> rfl) | (simp [*, errW_none, errW_some] <;> rfl), by repeat (first | (with_reducible first | exact HB.out | apply below_alloc | apply pw_below_drewN | apply below_drew1 | refine below_set ?_ GE464.out) | exact HB.out)⟩
        · replace c23 := Bool.eq_false_iff.mpr c23
          subst c23
          have H1 : (some false) = some r := by rw [if_neg (show ¬ (false = true) by decide)] at H; exact H
          clear H
          have H := H1
          clear H1
          obtain rfl := Option.some.inj H
          obtain ⟨Ao30, co30, eo30⟩ := Kd.R_slice HO_7.out
          subst eo30
          have hcz31_0 : wr.cell? ⟨gb464, 0, none⟩ = some (.int .i64 a0_0) := (blk_cell BK464.out 0).trans rfl
          have hcz31_1 : wr.cell? ⟨gb464, 1, none⟩ = some (.int .i64 a0_1) := (blk_cell BK464.out 1).trans rfl
          have hfz31_0 := blk_frozen BK464.out 0
          have hfz31_1 := blk_frozen BK464.out 1
          go_wp2_with (first | ((with_reducible refine gate_callee (f := 21) rfl ?_); refine goesL_ (some 34) rfl rfl Try.func21 (by kernel_rfl) rfl #[.agg #[.int .i64 a0_0, .int .i64 a0_1], .int .i64 a1, .int .i64 a2] rfl (by (try simp only [List.map_toArray, List.map_cons, List.map_nil]); first | done | rfl | (simp only [List.length_drop, List.length_take]; rfl)) ?_; (with_reducible refine (zelligeref06_Window.calls k1 a0_0 a0_1 a1 a2 t471 _ A21.out).mono ?_); rintro e w32 ⟨v472, rfl, ho0, hb⟩; refine ⟨_, rfl, ?_⟩; have n0_ := Aside0.mk (Kd.R_elder' (by (with_reducible repeat (first | apply Kd.R_alloc | apply Kd.R_drewN | apply Kd.R_drew)); exact HO_7.out) (Kd.R_base ho0) hb); have n1_ := Aside0.mk (Kd.R_lower (Kd.R_newB (Kd.R_new' ho0 (Kd.R_lt (by (with_reducible repeat (first | apply Kd.R_alloc | apply Kd.R_drewN | apply Kd.R_drew)); exact HO_7.out))) (g := gb464) (o := .cells #[.int .i64 a0_0, .int .i64 a0_1] 28 (0, 0)) (by (with_reducible repeat (first | refine blk_drewN ?_ _ | refine blk_drew ?_ | refine blk_alloc ?_ _)); exact BK464.out)) (below_size (by repeat (first | (with_reducible first | exact HB.out | apply below_alloc | apply pw_below_drewN | apply below_drew1 | refine below_set ?_ GE464.out) | exact HB.out)))); have n2_ := Aside0.mk (blk_below (g := gb464) (o := .cells #[.int .i64 a0_0, .int .i64 a0_1] 28 (0, 0)) (by (with_reducible repeat (first | refine blk_drewN ?_ _ | refine blk_drew ?_ | refine blk_alloc ?_ _)); exact BK464.out) hb); have n3_ := Aside0.mk (below_step (by repeat (first | (with_reducible first | exact HB.out | apply below_alloc | apply pw_below_drewN | apply below_drew1 | refine below_set ?_ GE464.out) | exact HB.out)) hb); clear HO_7; clear BK464; clear HB; have HO_7 := n0_; have HO473 := n1_; have BK464 := n2_; have HB := n3_; clear n0_ n1_ n2_ n3_; (try clear hb); (try clear hb2); (try clear hk); (try clear hi); (try clear ho0); obtain ⟨Ao33, co33, eo33⟩ := Kd.R_slice HO473.out; subst eo33) | ((with_reducible refine gate_callee (f := 20) rfl ?_); refine goesL_ (some 35) rfl rfl Try.func20 (by kernel_rfl) rfl #[.slice Ao30 t465.length co30, .slice Ao33 t471.length co33] rfl (by (try simp only [List.map_toArray, List.map_cons, List.map_nil]); first | done | rfl | (simp only [List.length_drop, List.length_take]; rfl)) ?_; (with_reducible refine (zelligeref06_Same.calls k1 _ _ t465 _ _ t471 false _ ?side1 ?side2 ?side3 ?side4 A22.out).mono ?_); (case side1 => repeat (first | exact (Kd.R_reads' HO_7.out).2.2 | (with_reducible refine Kd.C_alloc ?_ _) | (with_reducible refine Kd.C_drewN ?_ _) | (with_reducible refine Kd.C_drew ?_))); (case side2 => exact (Kd.R_reads' HO_7.out).2.1); (case side3 => repeat (first | exact (Kd.R_reads' HO473.out).2.2 | (with_reducible refine Kd.C_alloc ?_ _) | (with_reducible refine Kd.C_drewN ?_ _) | (with_reducible refine Kd.C_drew ?_))); (case side4 => exact (Kd.R_reads' HO473.out).2.1); rintro e w' ⟨rfl, ⟨nd, rfl⟩⟩; refine ⟨_, rfl, ?_⟩))
          go_ret
          exact ⟨by first | rfl | (simp [errW_none, errW_some] <;> rfl) | (simp [*, errW_none, errW_some] <;> rfl), by repeat (first | (with_reducible first | exact HB.out | apply below_alloc | apply pw_below_drewN | apply below_drew1 | refine below_set ?_ GE464.out) | exact HB.out)⟩

end Go.Proofs.Ytgjpemfjccajkaa.F
end

section
namespace Go.Proofs.Ytgjpemfjccajkaa.F
open Go.RowKit Go.Proofs.YtgjpemfjccajkaaW.PrintWords Go.Proofs.YtgjpemfjccajkaaW.PrintLast Go.Proofs.YtgjpemfjccajkaaW.PrintMore
attribute [local go_sem] max2_int min2_int max_two min_two max_three min_three max_four min_four   -- for this text's walks alone
set_option linter.unusedVariables false
set_option linter.unusedSimpArgs false

/-! ### lift_At: function 13 -/
def lift_At.f (k : Nat) (a0_0 : Int) (a0_1 : Int) (a1_0 : Int) (a1_1 : Int) (a2 : Int) : Option (Int × Int × Bool) := (lift_at.f k a0_0 a0_1 a1_0 a1_1 a2).bind fun bt376 => (some (bt376.1, bt376.2.1, bt376.2.2))
theorem lift_At.mono : ∀ a0 a1 a2 a3 a4 k, LeO (lift_At.f k a0 a1 a2 a3 a4) (lift_At.f (k + 1) a0 a1 a2 a3 a4) := by
  intro a0 a1 a2 a3 a4 k
  unfold lift_At.f
  repeat' first
      | (with_reducible exact lift_at.mono _ _ _ _ _ _)
      | (with_reducible exact LeO.refl _)
      | (with_reducible exact LeO.none _)
      | (with_reducible refine LeO.ite ?_ ?_)
      | (with_reducible refine LeO.bind ?_ (fun _ => ?_))
      | exact lift_at.mono _ _ _ _ _ _
      | exact LeO.none _
      | refine LeO.ite ?_ ?_
      | refine LeO.bind ?_ (fun _ => ?_)
set_option maxHeartbeats 8000000 in
set_option maxRecDepth 100000 in
theorem lift_At.calls (k : Nat) (a0_0 : Int) (a0_1 : Int) (a1_0 : Int) (a1_1 : Int) (a2 : Int) (r1 : Int) (r2 : Int) (r3 : Bool) (w : World) (h : lift_At.f k a0_0 a0_1 a1_0 a1_1 a2 = some (r1, r2, r3)) :
    Calls Try.prog 13 #[.agg #[.int .i64 a0_0, .int .i64 a0_1], .agg #[.int .i64 a1_0, .int .i64 a1_1], .int .i64 a2] w fun e w' => e = .returned (.tuple #[.agg #[.int .i64 r1, .int .i64 r2], .bool r3]) ∧ Below w.heap.size w w' := by
  have hu28 := Try.underlying28
  have hu23 := Try.underlying23
  have HB := Aside0.mk (Below.refl w.heap.size w)
  have H : ((lift_at.f k a0_0 a0_1 a1_0 a1_1 a2).bind fun bt376 => (some (bt376.1, bt376.2.1, bt376.2.2))) = some (r1, r2, r3) := h
  clear h
  replace H := Option.bind_eq_some_iff.mp H
  obtain ⟨⟨t376, t377, t378⟩, A40, H⟩ := H
  replace H : (some (t376, t377, t378)) = some (r1, r2, r3) := H
  have A4 := Aside0.mk A40
  clear A40
  simp only [Option.some.injEq, Prod.mk.injEq] at H
  obtain ⟨rfl, rfl, rfl⟩ := H
  go_enter Try.func13, Try.ntmps13
  go_wp2_with (first | ((with_reducible refine gate_dst (N := 3) rfl ?_); refine box_event ?hg (N := 3) ?hd (cs := #[.int .i64 a0_0, .int .i64 a0_1]) (t := 28) ?hr ?_; (case hd => rfl); (case hg => rfl); (case hr => first | (go_simp; done) | (go_simp; rfl)); intro gb373 hg w5 hbox hb; have n0_ := Aside0.mk (below_step (by repeat (first | (with_reducible first | exact HB.out | apply below_alloc | apply pw_below_drewN | apply below_drew1) | exact HB.out)) hb); have n1_ := Aside0.mk (hbox); have n2_ := Aside0.mk ((by rw [hg]; exact (below_size (by repeat (first | (with_reducible first | exact HB.out | apply below_alloc | apply pw_below_drewN | apply below_drew1) | exact HB.out))) : w.heap.size ≤ gb373)); have n3_ := Aside0.mk ((by rw [hg]; exact (below_size (by repeat (first | (with_reducible first | exact HB.out | apply below_alloc | apply pw_below_drewN | apply below_drew1) | exact HB.out))) : w.heap.size ≤ gb373)); clear HB; have HB := n0_; have BK373 := n1_; have GW373 := n2_; have GE373 := n3_; clear n0_ n1_ n2_ n3_; clear hb hbox hg) | ((with_reducible refine gate_dst (N := 4) rfl ?_); refine box_event ?hg (N := 4) ?hd (cs := #[.int .i64 a1_0, .int .i64 a1_1]) (t := 23) ?hr ?_; (case hd => rfl); (case hg => rfl); (case hr => first | (go_simp; done) | (go_simp; rfl)); intro gb374 hg w6 hbox hb; have n0_ := Aside0.mk (blk_below (g := gb373) (o := .cells #[.int .i64 a0_0, .int .i64 a0_1] 28 (0, 0)) (by (with_reducible repeat (first | refine blk_drewN ?_ _ | refine blk_drew ?_ | refine blk_alloc ?_ _)); exact BK373.out) hb); have n1_ := Aside0.mk (below_step (by repeat (first | (with_reducible first | exact HB.out | apply below_alloc | apply pw_below_drewN | apply below_drew1 | refine below_set ?_ GE373.out) | exact HB.out)) hb); have n2_ := Aside0.mk (hbox); have n3_ := Aside0.mk ((by rw [hg]; exact (below_size (by repeat (first | (with_reducible first | exact HB.out | apply below_alloc | apply pw_below_drewN | apply below_drew1 | refine below_set ?_ GE373.out) | exact HB.out))) : w.heap.size ≤ gb374)); have n4_ := Aside0.mk ((by rw [hg]; exact (below_size (by repeat (first | (with_reducible first | exact HB.out | apply below_alloc | apply pw_below_drewN | apply below_drew1 | refine below_set ?_ GE373.out) | exact HB.out))) : w.heap.size ≤ gb374)); have n5_ := Aside0.mk ((by rw [hg]; exact Nat.ne_of_lt (blk_lt (g := gb373) (o := .cells #[.int .i64 a0_0, .int .i64 a0_1] 28 (0, 0)) (by (with_reducible repeat (first | refine blk_drewN ?_ _ | refine blk_drew ?_ | refine blk_alloc ?_ _)); exact BK373.out)) : gb373 ≠ gb374)); have n6_ := Aside0.mk ((by rw [hg]; exact Nat.ne_of_gt (blk_lt (g := gb373) (o := .cells #[.int .i64 a0_0, .int .i64 a0_1] 28 (0, 0)) (by (with_reducible repeat (first | refine blk_drewN ?_ _ | refine blk_drew ?_ | refine blk_alloc ?_ _)); exact BK373.out)) : gb374 ≠ gb373)); clear BK373; clear HB; have BK373 := n0_; have HB := n1_; have BK374 := n2_; have GW374 := n3_; have GE374 := n4_; have NB373_374 := n5_; have NB374_373 := n6_; clear n0_ n1_ n2_ n3_ n4_ n5_ n6_; clear hb hbox hg) | ((with_reducible refine gate_dst (N := 6) rfl ?_); refine box_event ?hg (N := 6) ?hd (cs := #[.int .i64 0, .int .i64 0]) (t := 28) ?hr ?_; (case hd => rfl); (case hg => rfl); (case hr => first | (go_simp; done) | (go_simp; rfl)); intro gb375 hg w7 hbox hb; have n0_ := Aside0.mk (blk_below (g := gb373) (o := .cells #[.int .i64 a0_0, .int .i64 a0_1] 28 (0, 0)) (by (with_reducible repeat (first | refine blk_drewN ?_ _ | refine blk_drew ?_ | refine blk_alloc ?_ _)); exact BK373.out) hb); have n1_ := Aside0.mk (blk_below (g := gb374) (o := .cells #[.int .i64 a1_0, .int .i64 a1_1] 23 (0, 0)) (by (with_reducible repeat (first | refine blk_drewN ?_ _ | refine blk_drew ?_ | refine blk_alloc ?_ _)); exact BK374.out) hb); have n2_ := Aside0.mk (below_step (by repeat (first | (with_reducible first | exact HB.out | apply below_alloc | apply pw_below_drewN | apply below_drew1 | refine below_set ?_ GE373.out | refine below_set ?_ GE374.out) | exact HB.out)) hb); have n3_ := Aside0.mk (hbox); have n4_ := Aside0.mk ((by rw [hg]; exact (below_size (by repeat (first | (with_reducible first | exact HB.out | apply below_alloc | apply pw_below_drewN | apply below_drew1 | refine below_set ?_ GE373.out | refine below_set ?_ GE374.out) | exact HB.out))) : w.heap.size ≤ gb375)); have n5_ := Aside0.mk ((by rw [hg]; exact (below_size (by repeat (first | (with_reducible first | exact HB.out | apply below_alloc | apply pw_below_drewN | apply below_drew1 | refine below_set ?_ GE373.out | refine below_set ?_ GE374.out) | exact HB.out))) : w.heap.size ≤ gb375)); have n6_ := Aside0.mk ((by rw [hg]; exact Nat.ne_of_lt (blk_lt (g := gb373) (o := .cells #[.int .i64 a0_0, .int .i64 a0_1] 28 (0, 0)) (by (with_reducible repeat (first | refine blk_drewN ?_ _ | refine blk_drew ?_ | refine blk_alloc ?_ _)); exact BK373.out)) : gb373 ≠ gb375)); have n7_ := Aside0.mk ((by rw [hg]; exact Nat.ne_of_gt (blk_lt (g := gb373) (o := .cells #[.int .i64 a0_0, .int .i64 a0_1] 28 (0, 0)) (by (with_reducible repeat (first | refine blk_drewN ?_ _ | refine blk_drew ?_ | refine blk_alloc ?_ _)); exact BK373.out)) : gb375 ≠ gb373)); have n8_ := Aside0.mk ((by rw [hg]; exact Nat.ne_of_lt (blk_lt (g := gb374) (o := .cells #[.int .i64 a1_0, .int .i64 a1_1] 23 (0, 0)) (by (with_reducible repeat (first | refine blk_drewN ?_ _ | refine blk_drew ?_ | refine blk_alloc ?_ _)); exact BK374.out)) : gb374 ≠ gb375)); have n9_ := Aside0.mk ((by rw [hg]; exact Nat.ne_of_gt (blk_lt (g := gb374) (o := .cells #[.int .i64 a1_0, .int .i64 a1_1] 23 (0, 0)) (by (with_reducible repeat (first | refine blk_drewN ?_ _ | refine blk_drew ?_ | refine blk_alloc ?_ _)); exact BK374.out)) : gb375 ≠ gb374)); clear BK373; clear BK374; clear HB; have BK373 := n0_; have BK374 := n1_; have HB := n2_; have BK375 := n3_; have GW375 := n4_; have GE375 := n5_; have NB373_375 := n6_; have NB375_373 := n7_; have NB374_375 := n8_; have NB375_374 := n9_; clear n0_ n1_ n2_ n3_ n4_ n5_ n6_ n7_ n8_ n9_; clear hb hbox hg; have hnb8 := NB373_374.out; have hnc8 := NB374_373.out; have hnb9 := NB373_375.out; have hnc9 := NB375_373.out; have hcz10_0 : w7.cell? ⟨gb373, 0, none⟩ = some (.int .i64 a0_0) := (blk_cell BK373.out 0).trans rfl; have hcz10_1 : w7.cell? ⟨gb373, 1, none⟩ = some (.int .i64 a0_1) := (blk_cell BK373.out 1).trans rfl; have hfz10_0 := blk_frozen BK373.out 0; have hfz10_1 := blk_frozen BK373.out 1; have hnb11 := NB374_375.out; have hnc11 := NB375_374.out; have hcz12_0 : w7.cell? ⟨gb374, 0, none⟩ = some (.int .i64 a1_0) := (blk_cell BK374.out 0).trans rfl; have hcz12_1 : w7.cell? ⟨gb374, 1, none⟩ = some (.int .i64 a1_1) := (blk_cell BK374.out 1).trans rfl; have hfz12_0 := blk_frozen BK374.out 0; have hfz12_1 := blk_frozen BK374.out 1) | ((with_reducible refine gate_callee (f := 29) rfl ?_); refine goesL_ (some 11) rfl rfl Try.func29 (by kernel_rfl) rfl #[.agg #[.int .i64 a0_0, .int .i64 a0_1], .agg #[.int .i64 a1_0, .int .i64 a1_1], .int .i64 a2] rfl (by (try simp only [List.map_toArray, List.map_cons, List.map_nil]); first | done | rfl | (simp only [List.length_drop, List.length_take]; rfl)) ?_; (with_reducible refine (lift_at.calls k a0_0 a0_1 a1_0 a1_1 a2 t376 t377 t378 _ A4.out).mono ?_); rintro e w13 ⟨rfl, hb⟩; refine ⟨_, rfl, ?_⟩; have n0_ := Aside0.mk (blk_below (g := gb373) (o := .cells #[.int .i64 a0_0, .int .i64 a0_1] 28 (0, 0)) (by (with_reducible repeat (first | refine blk_drewN ?_ _ | refine blk_drew ?_ | refine blk_alloc ?_ _)); exact BK373.out) hb); have n1_ := Aside0.mk (blk_below (g := gb374) (o := .cells #[.int .i64 a1_0, .int .i64 a1_1] 23 (0, 0)) (by (with_reducible repeat (first | refine blk_drewN ?_ _ | refine blk_drew ?_ | refine blk_alloc ?_ _)); exact BK374.out) hb); have n2_ := Aside0.mk (blk_below (g := gb375) (o := .cells #[.int .i64 0, .int .i64 0] 28 (0, 0)) (by (with_reducible repeat (first | refine blk_drewN ?_ _ | refine blk_drew ?_ | refine blk_alloc ?_ _)); exact BK375.out) hb); have n3_ := Aside0.mk (below_step (by repeat (first | (with_reducible first | exact HB.out | apply below_alloc | apply pw_below_drewN | apply below_drew1 | refine below_set ?_ GE373.out | refine below_set ?_ GE374.out | refine below_set ?_ GE375.out) | exact HB.out)) hb); clear BK373; clear BK374; clear BK375; clear HB; have BK373 := n0_; have BK374 := n1_; have BK375 := n2_; have HB := n3_; clear n0_ n1_ n2_ n3_; (try clear hb); (try clear hb2); (try clear hk); (try clear hi); have hcz14_0 : w13.cell? ⟨gb375, 0, none⟩ = some (.int .i64 0) := (blk_cell BK375.out 0).trans rfl; have hcz14_1 : w13.cell? ⟨gb375, 1, none⟩ = some (.int .i64 0) := (blk_cell BK375.out 1).trans rfl; have hfz14_0 := blk_frozen BK375.out 0; have hfz14_1 := blk_frozen BK375.out 1))
  refine bodyPost_ret (results_ct rfl _ _ gb375 28 #[.int .i64 t376, .int .i64 t377] (0, 0) _ rfl (by (with_reducible repeat (first | refine blk_drewN ?_ _ | refine blk_drew ?_ | refine blk_alloc ?_ _)); refine blk_put (cs := #[.int .i64 t376, .int .i64 0]) ?_ 1 _ rfl; (with_reducible repeat (first | refine blk_drewN ?_ _ | refine blk_drew ?_ | refine blk_alloc ?_ _)); refine blk_put (cs := #[.int .i64 0, .int .i64 0]) ?_ 0 _ rfl; (with_reducible repeat (first | refine blk_drewN ?_ _ | refine blk_drew ?_ | refine blk_alloc ?_ _)); exact BK375.out) Try.underlying28 rfl (by kernel_rfl)) rfl ?_
  exact ⟨by first | rfl | (simp [errW_none, errW_some] <;> rfl) | (simp [*, errW_none, errW_some] <;> rfl), by repeat (first | (with_reducible first | exact HB.out | apply below_alloc | apply pw_below_drewN | apply below_drew1 | refine below_set ?_ GE373.out | refine below_set ?_ GE374.out | refine below_set ?_ GE375.out) | exact HB.out)⟩

end Go.Proofs.Ytgjpemfjccajkaa.F
end

section
namespace Go.Proofs.Ytgjpemfjccajkaa.F
open Go.RowKit Go.Proofs.YtgjpemfjccajkaaW.PrintWords Go.Proofs.YtgjpemfjccajkaaW.PrintLast Go.Proofs.YtgjpemfjccajkaaW.PrintMore
attribute [local go_sem] max2_int min2_int max_two min_two max_three min_three max_four min_four   -- for this text's walks alone
set_option linter.unusedVariables false
set_option linter.unusedSimpArgs false

/-! ### lift_Can: function 15 -/
def lift_Can.f (a0_0 : Int) (a0_1 : Int) : Option (Bool) := (lift_can.f a0_0 a0_1).bind fun t401 => (some t401)
set_option maxHeartbeats 8000000 in
set_option maxRecDepth 100000 in
theorem lift_Can.calls (a0_0 : Int) (a0_1 : Int) (r : Bool) (w : World) (h : lift_Can.f a0_0 a0_1 = some r) :
    Calls Try.prog 15 #[.agg #[.int .i64 a0_0, .int .i64 a0_1]] w fun e w' => e = .returned (.bool r) ∧ Below w.heap.size w w' := by
  have hu28 := Try.underlying28
  have HB := Aside0.mk (Below.refl w.heap.size w)
  have H : ((lift_can.f a0_0 a0_1).bind fun t401 => (some t401)) = some r := h
  clear h
  replace H := Option.bind_eq_some_iff.mp H
  obtain ⟨t401, A20, H⟩ := H
  replace H : (some t401) = some r := H
  have A2 := Aside0.mk A20
  clear A20
  obtain rfl := Option.some.inj H
  go_enter Try.func15, Try.ntmps15
  go_wp2_with (first | ((with_reducible refine gate_dst (N := 1) rfl ?_); refine box_event ?hg (N := 1) ?hd (cs := #[.int .i64 a0_0, .int .i64 a0_1]) (t := 28) ?hr ?_; (case hd => rfl); (case hg => rfl); (case hr => first | (go_simp; done) | (go_simp; rfl)); intro gb400 hg w3 hbox hb; have n0_ := Aside0.mk (below_step (by repeat (first | (with_reducible first | exact HB.out | apply below_alloc | apply pw_below_drewN | apply below_drew1) | exact HB.out)) hb); have n1_ := Aside0.mk (hbox); have n2_ := Aside0.mk ((by rw [hg]; exact (below_size (by repeat (first | (with_reducible first | exact HB.out | apply below_alloc | apply pw_below_drewN | apply below_drew1) | exact HB.out))) : w.heap.size ≤ gb400)); have n3_ := Aside0.mk ((by rw [hg]; exact (below_size (by repeat (first | (with_reducible first | exact HB.out | apply below_alloc | apply pw_below_drewN | apply below_drew1) | exact HB.out))) : w.heap.size ≤ gb400)); clear HB; have HB := n0_; have BK400 := n1_; have GW400 := n2_; have GE400 := n3_; clear n0_ n1_ n2_ n3_; clear hb hbox hg; have hcz4_0 : w3.cell? ⟨gb400, 0, none⟩ = some (.int .i64 a0_0) := (blk_cell BK400.out 0).trans rfl; have hcz4_1 : w3.cell? ⟨gb400, 1, none⟩ = some (.int .i64 a0_1) := (blk_cell BK400.out 1).trans rfl; have hfz4_0 := blk_frozen BK400.out 0; have hfz4_1 := blk_frozen BK400.out 1) | ((with_reducible refine gate_callee (f := 23) rfl ?_); refine goesL_ (some 4) rfl rfl Try.func23 (by kernel_rfl) rfl #[.agg #[.int .i64 a0_0, .int .i64 a0_1]] rfl (by (try simp only [List.map_toArray, List.map_cons, List.map_nil]); first | done | rfl | (simp only [List.length_drop, List.length_take]; rfl)) ?_; (with_reducible refine (lift_can.calls a0_0 a0_1 t401 _ A2.out).mono ?_); rintro e w5 ⟨rfl, hb⟩; refine ⟨_, rfl, ?_⟩; have n0_ := Aside0.mk (blk_below (g := gb400) (o := .cells #[.int .i64 a0_0, .int .i64 a0_1] 28 (0, 0)) (by (with_reducible repeat (first | refine blk_drewN ?_ _ | refine blk_drew ?_ | refine blk_alloc ?_ _)); exact BK400.out) hb); have n1_ := Aside0.mk (below_step (by repeat (first | (with_reducible first | exact HB.out | apply below_alloc | apply pw_below_drewN | apply below_drew1 | refine below_set ?_ GE400.out) | exact HB.out)) hb); clear BK400; clear HB; have BK400 := n0_; have HB := n1_; clear n0_ n1_; (try clear hb); (try clear hb2); (try clear hk); (try clear hi)))
  go_ret
  exact ⟨by first | rfl | (simp [errW_none, errW_some] <;> rfl) | (simp [*, errW_none, errW_some] <;> rfl), by repeat (first | (with_reducible first | exact HB.out | apply below_alloc | apply pw_below_drewN | apply below_drew1 | refine below_set ?_ GE400.out) | exact HB.out)⟩

end Go.Proofs.Ytgjpemfjccajkaa.F
end
