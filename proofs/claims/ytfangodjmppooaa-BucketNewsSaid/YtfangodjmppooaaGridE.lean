/- Near, where nothing is to be looked for. -/
import Derived.Test.YtfangodjmppooaaGridL
namespace Go.Proofs.Ytfangodjmppooaa.Rd
open Go Go.RowKit Go.Proofs.YtfangodjmppooaaW.PrintWords Go.Proofs.YtfangodjmppooaaW.PrintLast Go.Proofs.YtfangodjmppooaaW.PrintMore Go.Proofs.Ytfangodjmppooaa.F
set_option linter.unusedVariables false
set_option linter.unusedSimpArgs false
theorem three_blk (w : World) (o0 o1 o2 : Obj) : (((w.alloc o0).alloc o1).alloc o2).heap[w.heap.size]? = some o0 ∧ (((w.alloc o0).alloc o1).alloc o2).heap[w.heap.size + 1 + 1]? = some o2 := by
  refine ⟨blk_alloc (blk_alloc (blk_new w o0) _) _, ?_⟩
  have h := blk_new ((w.alloc o0).alloc o1) o2
  have e : ((w.alloc o0).alloc o1).heap.size = w.heap.size + 1 + 1 := by rw [World.size_alloc, World.size_alloc]
  rw [e] at h
  exact h
set_option maxHeartbeats 4000000 in
theorem near_off (px py x y : Int) (w : World) (pp : Option Addr) (H : CellAt (.pointer pp) px py x y false w) : Calls Try.prog 12 #[.pointer pp, .agg #[.int .i64 px, .int .i64 py]] w fun e w' => e = .returned (.int .i64 (-1)) ∧ Below w.heap.size w w' := by
  have HB := Aside0.mk (below_alloc (below_alloc (below_alloc (Below.refl w.heap.size w) (.cells #[.pointer pp] 26)) (.cells #[.int .i64 px, .int .i64 py] 23)) (.cells #[.int .i64 0] 3))
  have HN := Aside0.mk (three_blk w (.cells #[.pointer pp] 26) (.cells #[.int .i64 px, .int .i64 py] 23) (.cells #[.int .i64 0] 3))
  have HH := Aside0.mk (H _ HB.out)
  clear H
  go_enter Try.func12, Try.ntmps12
  go_wp2_with (first | (with_reducible go_at_call 19; with_reducible refine HH.out.mono ?_; rintro e w2 ⟨rfl, hb2⟩; have HB2 := Aside0.mk (below_step HB.out hb2); have N4 := Aside0.mk (blk_below HN.out.2 hb2); have k4 : ((w2.alloc (.cells #[.int .i64 x] 3)).alloc (.cells #[.int .i64 y] 3)).cell? ⟨w.heap.size + 1 + 1, 0, none⟩ = some (.int .i64 0) := (blk_cell (blk_alloc (blk_alloc N4.out _) _) 0).trans rfl; have f4 := blk_frozen (blk_alloc (blk_alloc N4.out (.cells #[.int .i64 x] 3)) (.cells #[.int .i64 y] 3)) 0; have k2 : ((w2.alloc (.cells #[.int .i64 x] 3)).alloc (.cells #[.int .i64 y] 3)).cell? ⟨w.heap.size, 0, none⟩ = some (.pointer pp) := (blk_cell (blk_alloc (blk_alloc (blk_below HN.out.1 hb2) _) _) 0).trans rfl; clear hb2) | fail)
  have hS := below_set (g := w.heap.size + 1 + 1) (j := 0) (v := .int .i64 (-1)) (below_alloc (below_alloc HB2.out (.cells #[.int .i64 x] 3)) (.cells #[.int .i64 y] 3)) (by omega)
  have hc5 : (((w2.alloc (.cells #[.int .i64 x] 3)).alloc (.cells #[.int .i64 y] 3)).setCell ⟨w.heap.size + 1 + 1, 0, none⟩ (.int .i64 (-1))).cell? ⟨w.heap.size + 1 + 1, 0, none⟩ = some (.int .i64 (-1)) := (blk_cell (blk_put (cs' := #[.int .i64 (-1)]) (blk_alloc (blk_alloc N4.out _) _) 0 (.int .i64 (-1)) rfl) 0).trans rfl
  (try simp only [Exit.inBlock, Exit.then])
  refine bodyPost_ret (v := .int .i64 (-1)) ?_ rfl ⟨rfl, hS⟩
  simp [results, Try.f12, go_sem, hc5]
set_option maxHeartbeats 4000000 in
theorem near_empty (px py x y : Int) (w : World) (g : Nat) (cs : Array Value) (hg : w.heap[g]? = some (.cells cs 48 (0, 0))) (hm : cs[3]? = some (.int .i64 0)) (H : CellAt (.pointer (some ⟨g, 0, none⟩)) px py x y true w) : Calls Try.prog 12 #[.pointer (some ⟨g, 0, none⟩), .agg #[.int .i64 px, .int .i64 py]] w fun e w' => e = .returned (.int .i64 (-1)) ∧ Below w.heap.size w w' := by
  have HB := Aside0.mk (below_alloc (below_alloc (below_alloc (Below.refl w.heap.size w) (.cells #[.pointer (some ⟨g, 0, none⟩)] 26)) (.cells #[.int .i64 px, .int .i64 py] 23)) (.cells #[.int .i64 0] 3))
  have HN := Aside0.mk (three_blk w (.cells #[.pointer (some ⟨g, 0, none⟩)] 26) (.cells #[.int .i64 px, .int .i64 py] 23) (.cells #[.int .i64 0] 3))
  have HH := Aside0.mk (H _ HB.out)
  clear H
  have HG := Aside0.mk hg
  clear hg
  go_enter Try.func12, Try.ntmps12
  go_wp2_with (first | (with_reducible go_at_call 19; with_reducible refine HH.out.mono ?_; rintro e w2 ⟨rfl, hb2⟩; have HB2 := Aside0.mk (below_step HB.out hb2); have N4 := Aside0.mk (blk_below HN.out.2 hb2); have k4 : ((w2.alloc (.cells #[.int .i64 x] 3)).alloc (.cells #[.int .i64 y] 3)).cell? ⟨w.heap.size + 1 + 1, 0, none⟩ = some (.int .i64 0) := (blk_cell (blk_alloc (blk_alloc N4.out _) _) 0).trans rfl; have f4 := blk_frozen (blk_alloc (blk_alloc N4.out (.cells #[.int .i64 x] 3)) (.cells #[.int .i64 y] 3)) 0; have k2 : ((w2.alloc (.cells #[.int .i64 x] 3)).alloc (.cells #[.int .i64 y] 3)).cell? ⟨w.heap.size, 0, none⟩ = some (.pointer (some ⟨g, 0, none⟩)) := (blk_cell (blk_alloc (blk_alloc (blk_below HN.out.1 hb2) _) _) 0).trans rfl; have k3 := (blk_cell (blk_alloc (blk_alloc (blk_below HG.out HB2.out) (.cells #[.int .i64 x] 3)) (.cells #[.int .i64 y] 3)) 3).trans hm; clear hb2) | fail)
  have hS := below_set (g := w.heap.size + 1 + 1) (j := 0) (v := .int .i64 (-1)) (below_alloc (below_alloc HB2.out (.cells #[.int .i64 x] 3)) (.cells #[.int .i64 y] 3)) (by omega)
  have hc5 : (((w2.alloc (.cells #[.int .i64 x] 3)).alloc (.cells #[.int .i64 y] 3)).setCell ⟨w.heap.size + 1 + 1, 0, none⟩ (.int .i64 (-1))).cell? ⟨w.heap.size + 1 + 1, 0, none⟩ = some (.int .i64 (-1)) := (blk_cell (blk_put (cs' := #[.int .i64 (-1)]) (blk_alloc (blk_alloc N4.out _) _) 0 (.int .i64 (-1)) rfl) 0).trans rfl
  (try simp only [Exit.inBlock, Exit.then])
  refine bodyPost_ret (v := .int .i64 (-1)) ?_ rfl ⟨rfl, hS⟩
  simp [results, Try.f12, go_sem, hc5]
end Go.Proofs.Ytfangodjmppooaa.Rd
