/- lives: a vertex is put and found. -/
import Derived.Test.YtfangodjmppooaaNearW
import Derived.Test.YtfangodjmppooaaGridP
namespace Go.Proofs.Ytfangodjmppooaa.Rd
open Go Go.RowKit Go.Proofs.YtfangodjmppooaaW.PrintWords Go.Proofs.YtfangodjmppooaaW.PrintLast Go.Proofs.YtfangodjmppooaaW.PrintMore Go.Proofs.Ytfangodjmppooaa.F
set_option linter.unusedVariables false
set_option linter.unusedSimpArgs false
theorem nils_at {m j : Nat} (h : j < m) : (nils m)[j]? = some (.slice none 0 0) := by
  simp [nils, madeCells, h]
  rw [Nat.mod_one]
  rfl
theorem min_one (h c : Nat) (hc : Array Value) (v : Int) (hv : hc[0]? = some (.int .i64 v)) : MinOk h 1 c hc v := fun W hW => by
  have c0 := (blk_cell hW 0).trans hv
  go_enter Try.func23, Try.ntmps23
  go_wp2_with fail
  refine wp_loop_rounds 1 ?_
  rw [rounds_succ]
  go_wp2_with fail
  go_ret
  exact ⟨rfl, rfl⟩
def one7 (j : Nat) : Option Int := if j = 0 then some 7 else none
theorem near7 {r : Int} (h : NearR 5 4 4 one7 r) : r = 7 := by
  rcases h with ⟨f, pre, p, _, _, _, _, hr⟩ | ⟨_, hall⟩
  · unfold hit one7 at hr
    split at hr
    · exact (Option.some.inj hr).symm
    · cases hr
  · have h1 := hall 1 (by decide) (1, 1) (by decide)
    exact absurd h1 (by decide)
theorem home_a : lift_Home.f 20 9 (-1) 10 = some (9, 9, 0, -1, true) := by decide +kernel
theorem home_b : lift_Home.f 20 1 1 10 = some (1, 1, 0, 0, true) := by decide +kernel
theorem home_c : lift_Home.f 20 9 9 10 = some (9, 9, 0, 0, true) := by decide +kernel
theorem cell_a {g : Nat} {v : Value} {m : Int} {W : World} (hg : W.heap[g]? = some (.cells #[.int .i64 10, .int .i64 5, v, .int .i64 m] 48 (0, 0))) : CellAt (.pointer (some ⟨g, 0, none⟩)) 9 (-1) 4 4 true W := by
  have h := CellAt.grid 20 g 10 5 9 (-1) 9 9 0 (-1) true W v m (by decide) (by decide) (by decide) (fun _ => by decide) hg home_a
  exact h
theorem cell_b {g : Nat} {v : Value} {m : Int} {W : World} (hg : W.heap[g]? = some (.cells #[.int .i64 10, .int .i64 5, v, .int .i64 m] 48 (0, 0))) : CellAt (.pointer (some ⟨g, 0, none⟩)) 1 1 0 0 true W := by
  have h := CellAt.grid 20 g 10 5 1 1 1 1 0 0 true W v m (by decide) (by decide) (by decide) (fun _ => by decide) hg home_b
  exact h
theorem cell_d {g : Nat} {v : Value} {m : Int} {W : World} (hg : W.heap[g]? = some (.cells #[.int .i64 10, .int .i64 5, v, .int .i64 m] 48 (0, 0))) : CellAt (.pointer (some ⟨g, 0, none⟩)) 9 9 4 4 true W := by
  have h := CellAt.grid 20 g 10 5 9 9 9 9 0 0 true W v m (by decide) (by decide) (by decide) (fun _ => by decide) hg home_c
  exact h
theorem near_l (g b h c : Nat) (cells : Array Value) (w : World) (hg : w.heap[g]? = some (.cells #[.int .i64 10, .int .i64 5, .slice (some ⟨b, 0, none⟩) 25 25, .int .i64 (0 + 1)] 48 (0, 0))) (hb : w.heap[b]? = some (.cells ((nils 25).setIfInBounds 0 (.slice (some ⟨h, 0, none⟩) 1 c)) 57 (0, 0))) (hh : w.heap[h]? = some (.cells cells 3 (0, 0))) (hv : cells[0]? = some (.int .i64 7)) :
    Calls Try.prog 12 #[.pointer (some ⟨g, 0, none⟩), .agg #[.int .i64 9, .int .i64 9]] w fun e w' => e = .returned (.int .i64 7) ∧ Below w.heap.size w w' := by
  refine (near_c g b 25 10 5 (0 + 1) 9 9 4 4 _ one7 w (cell_d hg) (by decide) (by decide) (by decide) (by decide) (by decide) (by decide) (by decide) (by decide) hg hb ?_ ?_).mono ?_
  · intro j v hj
    unfold one7 at hj
    by_cases hj0 : j = 0
    · rw [if_pos hj0] at hj
      cases hj
      subst hj0
      refine ⟨h, 1, c, cells, ?_, by decide, hh, min_one h c cells 7 hv⟩
      rw [Array.getElem?_setIfInBounds_self_of_lt]
      simp [nils, size_madeCells]
    · rw [if_neg hj0] at hj; cases hj
  · intro j hj hn
    have hj0 : j ≠ 0 := fun e => by subst e; cases hn
    rw [Array.getElem?_setIfInBounds_ne (fun e => hj0 e.symm)]
    exact nils_at hj
  · rintro e w' ⟨r, rfl, hr, hb'⟩
    rw [near7 hr]
    exact ⟨rfl, hb'⟩
set_option maxHeartbeats 4000000 in
theorem lives_c (w : World) : Calls Try.prog 11 #[] w fun e w' => e = .returned (.bool true) ∧ Below w.heap.size w w' := by
  have s1 : (w.alloc (.cells (nils 25) 57)).heap.size = w.heap.size + 1 := World.size_alloc _ _
  have HB := Aside0.mk (below_alloc (below_alloc (Below.refl w.heap.size w) (.cells (nils 25) 57)) (.cells #[.int .i64 10, .int .i64 5, .slice (some ⟨w.heap.size, 0, none⟩) 25 25, .int .i64 0] 48))
  have hg0 := blk_new (w.alloc (.cells (nils 25) 57)) (.cells #[.int .i64 10, .int .i64 5, .slice (some ⟨w.heap.size, 0, none⟩) 25 25, .int .i64 0] 48)
  rw [s1] at hg0
  have HG := Aside0.mk hg0
  have HR := Aside0.mk (blk_alloc (blk_new w (.cells (nils 25) 57)) (.cells #[.int .i64 10, .int .i64 5, .slice (some ⟨w.heap.size, 0, none⟩) 25 25, .int .i64 0] 48))
  clear hg0 s1
  go_enter Try.func11, Try.ntmps11
  go_wp2_with (first | (with_reducible go_at_call 8; with_reducible refine (new_some 10 5 25 w (by decide) (by decide) (by decide) (by decide) (by decide)).mono ?_; rintro e w1 ⟨rfl, hw1⟩; rw [← hw1] at HB HG HR; clear hw1) | (with_reducible go_at_call 9; with_reducible refine (Cell_at _ 9 (-1) 4 4 true _ (cell_a HG.out)).mono ?_; rintro e w2 ⟨rfl, hb⟩; have HB2 := Aside0.mk (below_step HB.out hb); have HG2 := Aside0.mk (blk_below HG.out hb); have HR2 := Aside0.mk (blk_below HR.out hb); clear hb HB HG HR) | (with_reducible go_at_call 13; refine (put_c (w.heap.size + 1) w.heap.size 25 0 10 5 0 7 1 1 0 0 (nils 25) _ (cell_b HG2.out) (by decide) (by decide) (by decide) (by decide) (by decide) (by decide) (by decide) (by decide) (by decide) (by decide) HG2.out HR2.out (nils_at (by decide))).mono ?_; rintro e w3 ⟨⟨v3, rfl⟩, h, c, cells, hg3, hr3, hh3, hc3, hb3⟩; have HB3 := Aside0.mk (HB2.out.trans (hb3 w.heap.size (by omega) (Nat.le_refl _))); have HN := Aside0.mk (near_l _ _ h c cells w3 hg3 hr3 hh3 hc3); have HG3 := Aside0.mk hg3; clear hg3 hr3 hh3 hc3 hb3 HB2 HG2 HR2) | (with_reducible go_at_call 12; with_reducible refine HN.out.mono ?_; rintro e w4 ⟨rfl, hb⟩; have HB4 := Aside0.mk (below_step HB3.out hb); have z3 : w4.cell? ⟨w.heap.size + 1, 3, none⟩ = some (.int .i64 1) := (blk_cell (blk_below HG3.out hb) 3).trans rfl; clear hb HB3 HG3 HN) | (with_reducible go_at_call 14; with_reducible refine (len_c _ 1 _ z3).mono ?_; rintro e w5 ⟨rfl, rfl⟩) | fail)
  go_ret
  exact ⟨rfl, HB4.out⟩
end Go.Proofs.Ytfangodjmppooaa.Rd
