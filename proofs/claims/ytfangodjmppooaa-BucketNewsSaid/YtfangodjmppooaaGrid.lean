/- The grid's small functions, walked by hand. -/
import Derived.Test.YtfangodjmppooaaRound
import Derived.Test.YtfangodjmppooaaProg
import Derived.BigRegion
import Derived.Test.YtfangodjmppooaaFliftHome
namespace Go.Proofs.Ytfangodjmppooaa.Rd
open Go Go.RowKit Go.Proofs.YtfangodjmppooaaW.PrintWords Go.Proofs.YtfangodjmppooaaW.PrintLast Go.Proofs.YtfangodjmppooaaW.PrintMore Go.Proofs.Ytfangodjmppooaa.F
set_option linter.unusedVariables false
set_option linter.unusedSimpArgs false
def idx (n x y : Int) : Int := (x + n) % n * n + (y + n) % n
theorem w64s {x : Int} (h : -9000000000000000000 ≤ x ∧ x ≤ 9000000000000000000) : IntKind.i64.wrap x = x := by rw [IntKind.wrap_i64]; omega
theorem at_c (g : Nat) (n x y : Int) (w : World) (h1 : 1 ≤ n) (h2 : n ≤ 64) (hx : -n ≤ x) (hx2 : x ≤ 1000) (hy : -n ≤ y) (hy2 : y ≤ 1000) (hc : w.cell? ⟨g, 1, none⟩ = some (.int .i64 n)) :
    Calls Try.prog 22 #[.pointer (some ⟨g, 0, none⟩), .int .i64 x, .int .i64 y] w fun e w' => e = .returned (.int .i64 (idx n x y)) ∧ w' = w.drew := by
  have a1 : 0 ≤ (x + n) % n := Int.emod_nonneg _ (by omega)
  have a2 : (x + n) % n < n := Int.emod_lt_of_pos _ (by omega)
  have b1 : 0 ≤ (y + n) % n := Int.emod_nonneg _ (by omega)
  have b2 : (y + n) % n < n := Int.emod_lt_of_pos _ (by omega)
  have t1 : Int.tmod (x + n) n = (x + n) % n := Int.tmod_eq_emod_of_nonneg (by omega)
  have t2 : Int.tmod (y + n) n = (y + n) % n := Int.tmod_eq_emod_of_nonneg (by omega)
  have w1 : IntKind.i64.wrap (x + n) = x + n := w64s (by omega)
  have w2 : IntKind.i64.wrap (y + n) = y + n := w64s (by omega)
  obtain ⟨r, hr⟩ : ∃ r, (x + n) % n = r := ⟨_, rfl⟩
  obtain ⟨s, hs⟩ : ∃ s, (y + n) % n = s := ⟨_, rfl⟩
  unfold idx
  rw [hr] at a1 a2 t1 ⊢
  rw [hs] at b1 b2 t2 ⊢
  have m1 : 0 ≤ r * n := Int.mul_nonneg a1 (by omega)
  have m2 : r * n ≤ 63 * 64 := Int.mul_le_mul (by omega) (by omega) (by omega) (by omega)
  have w3 : IntKind.i64.wrap (r * n) = r * n := w64s (by omega)
  have w4 : IntKind.i64.wrap (r * n + s) = r * n + s := w64s (by omega)
  have nz : (n == 0) = false := beq_eq_false_iff_ne.mpr (by omega)
  have nz2 : ¬ n = 0 := by omega
  clear a1 a2 b1 b2 m1 m2 hr hs
  go_enter Try.func22, Try.ntmps22
  go_wp2_with fail
  go_region
  go_wp2_with fail
  go_ret
  exact ⟨rfl, rfl⟩
set_option maxHeartbeats 4000000 in
/-- cell, where there is no grid. -/
theorem cell_nil (px py : Int) (w : World) : Calls Try.prog 19 #[.pointer none, .agg #[.int .i64 px, .int .i64 py]] w fun e w' => e = .returned (.tuple #[.int .i64 (-1), .int .i64 (-1), .bool false]) ∧ Below w.heap.size w w' := by
  have HB := Aside0.mk (below_alloc (Below.refl w.heap.size w) (.cells #[.int .i64 px, .int .i64 py] 23))
  go_enter Try.func19, Try.ntmps19
  go_wp2_with fail
  go_ret3
  exact ⟨rfl, HB.out⟩
theorem below_weaken2 {w0 W' : World} {n : Nat} (h : Below w0.heap.size w0 W') (hn : n ≤ w0.heap.size) : Below n w0 W' := below_then (Below.refl n w0) hn h
end Go.Proofs.Ytfangodjmppooaa.Rd
