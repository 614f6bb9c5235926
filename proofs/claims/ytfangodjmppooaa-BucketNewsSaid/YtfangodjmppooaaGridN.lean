/- New, Cell, Len, and Put, Drop where there is no grid. -/
import Derived.Test.YtfangodjmppooaaGridC
namespace Go.Proofs.Ytfangodjmppooaa.Rd
open Go Go.RowKit Go.Proofs.YtfangodjmppooaaW.PrintWords Go.Proofs.YtfangodjmppooaaW.PrintLast Go.Proofs.YtfangodjmppooaaW.PrintMore Go.Proofs.Ytfangodjmppooaa.F
set_option linter.unusedVariables false
set_option linter.unusedSimpArgs false
theorem info57 : (Try.prog.info? 57).map (fun i => (i.zero, i.size, i.bytes)) = some (some (.slice none 0 0), 1, 24) := by kernel_rfl
def nils (m : Nat) : Array Value := madeCells #[.slice none 0 0] m
theorem make_c (m : Nat) (hm : m ≤ 4096) (w : World) : (Instr.makeSlice 46 (.int .i64 (m : Int)) (.int .i64 (m : Int))).run Try.prog w = .ok (.slice (some ⟨w.heap.size, 0, none⟩) m m) (w.alloc (.cells (nils m) 57)) := by
  obtain ⟨i0, hi, hz0, hz1, hz2⟩ := info_parts info57
  have hr := run_make (P := Try.prog) w 46 57 i0 (.slice none 0 0) Try.underlying46 hi hz0 .i64 .i64 (m : Int) (m : Int) (by omega) (by omega) (by rw [hz2]; omega) (by omega)
  simp only [Int.toNat_natCast] at hr
  rw [hz1] at hr
  rw [Nat.mul_one] at hr
  exact hr
set_option maxHeartbeats 4000000 in
theorem new_some (side n : Int) (m : Nat) (w : World) (h1 : 1 ≤ side) (h2 : side ≤ 17179869184) (h3 : 1 ≤ n) (h4 : n ≤ 64) (hm : (m : Int) = n * n) :
    Calls Try.prog 8 #[.int .i64 side, .int .i64 n] w fun e w' => e = .returned (.pointer (some ⟨w.heap.size + 1, 0, none⟩)) ∧ w' = (w.alloc (.cells (nils m) 57)).alloc (.cells #[.int .i64 side, .int .i64 n, .slice (some ⟨w.heap.size, 0, none⟩) m m, .int .i64 0] 48) := by
  have hb : n * n ≤ 64 * 64 := Int.mul_le_mul (by omega) (by omega) (by omega) (by omega)
  have hmk := make_c m (by omega) w
  have c1 : decide (side < 1) = false := decide_eq_false (by omega)
  have c2 : decide (17179869184 < side) = false := decide_eq_false (by omega)
  have c3 : decide (n < 1) = false := decide_eq_false (by omega)
  have c4 : decide (64 < n) = false := decide_eq_false (by omega)
  have wm : IntKind.i64.wrap (n * n) = (m : Int) := by rw [w64s (by omega)]; omega
  clear hm hb
  go_enter Try.func8, Try.ntmps8
  go_wp2_with fail
  go_ret
  exact ⟨rfl, rfl⟩
set_option maxHeartbeats 4000000 in
theorem new_none (side n : Int) (w : World) (h : ¬ (1 ≤ side ∧ side ≤ 17179869184 ∧ 1 ≤ n ∧ n ≤ 64)) :
    Calls Try.prog 8 #[.int .i64 side, .int .i64 n] w fun e w' => e = .returned (.pointer none) ∧ w' = w := by
  by_cases a1 : side < 1
  · have c1 : decide (side < 1) = true := decide_eq_true a1
    go_enter Try.func8, Try.ntmps8
    go_wp2_with fail
    go_ret
    exact ⟨rfl, rfl⟩
  have c1 : decide (side < 1) = false := decide_eq_false a1
  by_cases a2 : 17179869184 < side
  · have c2 : decide (17179869184 < side) = true := decide_eq_true a2
    go_enter Try.func8, Try.ntmps8
    go_wp2_with fail
    go_ret
    exact ⟨rfl, rfl⟩
  have c2 : decide (17179869184 < side) = false := decide_eq_false a2
  by_cases a3 : n < 1
  · have c3 : decide (n < 1) = true := decide_eq_true a3
    go_enter Try.func8, Try.ntmps8
    go_wp2_with fail
    go_ret
    exact ⟨rfl, rfl⟩
  have c3 : decide (n < 1) = false := decide_eq_false a3
  have c4 : decide (64 < n) = true := decide_eq_true (by omega)
  go_enter Try.func8, Try.ntmps8
  go_wp2_with fail
  go_ret
  exact ⟨rfl, rfl⟩
theorem len_nil (w : World) : Calls Try.prog 14 #[.pointer none] w fun e w' => e = .returned (.int .i64 0) ∧ w' = w := by
  go_enter Try.func14, Try.ntmps14
  go_wp2_with fail
  go_ret
  exact ⟨rfl, rfl⟩
theorem len_c (g : Nat) (m : Int) (w : World) (hc : w.cell? ⟨g, 3, none⟩ = some (.int .i64 m)) : Calls Try.prog 14 #[.pointer (some ⟨g, 0, none⟩)] w fun e w' => e = .returned (.int .i64 m) ∧ w' = w := by
  go_enter Try.func14, Try.ntmps14
  go_wp2_with fail
  go_ret
  exact ⟨rfl, rfl⟩
/-- What (*Grid).cell is known to do at this pointer and point. -/
def CellAt (v : Value) (px py x y : Int) (ok : Bool) (W : World) : Prop := ∀ w, Below W.heap.size W w → Calls Try.prog 19 #[v, .agg #[.int .i64 px, .int .i64 py]] w fun e w' => e = .returned (.tuple #[.int .i64 x, .int .i64 y, .bool ok]) ∧ Below w.heap.size w w'
theorem CellAt.nil (px py : Int) (W : World) : CellAt (.pointer none) px py (-1) (-1) false W := fun w _ => cell_nil px py w
theorem CellAt.step {v : Value} {px py x y : Int} {ok : Bool} {W W1 : World} (h : CellAt v px py x y ok W) (hb : Below W.heap.size W W1) : CellAt v px py x y ok W1 := fun w hw => h w (below_step hb hw)
theorem CellAt.grid (k g : Nat) (side n px py q1 q2 r1 r2 : Int) (ok : Bool) (W : World) (v : Value) (m : Int) (hs1 : 1 ≤ side) (hn1 : 1 ≤ n) (hn2 : n ≤ 64) (hq1 : ok = true → 0 ≤ q1 ∧ q1 < side ∧ 0 ≤ q2 ∧ q2 < side ∧ side ≤ 100000000000) (hg : W.heap[g]? = some (.cells #[.int .i64 side, .int .i64 n, v, .int .i64 m] 48 (0, 0))) (h : lift_Home.f k px py side = some (q1, q2, r1, r2, ok)) :
    CellAt (.pointer (some ⟨g, 0, none⟩)) px py (if ok then q1 * n / side else -1) (if ok then q2 * n / side else -1) ok W := fun w hw =>
  have hb := blk_below hg hw
  cell_c k g side n px py q1 q2 r1 r2 ok w (blk_lt hb) hs1 hn1 hn2 hq1 ((blk_cell hb 0).trans rfl) ((blk_cell hb 1).trans rfl) h
set_option maxHeartbeats 4000000 in
theorem Cell_at (v : Value) (px py x y : Int) (ok : Bool) (w : World) (h : CellAt v px py x y ok w) : Calls Try.prog 9 #[v, .agg #[.int .i64 px, .int .i64 py]] w fun e w' => e = .returned (.tuple #[.int .i64 x, .int .i64 y]) ∧ Below w.heap.size w w' := by
  have HB := Aside0.mk (below_alloc (Below.refl w.heap.size w) (.cells #[.int .i64 px, .int .i64 py] 23))
  have H := Aside0.mk (h _ HB.out)
  clear h
  go_enter Try.func9, Try.ntmps9
  go_wp2_with (first | (with_reducible go_at_call 19; with_reducible refine H.out.mono ?_; rintro e w2 ⟨rfl, hb⟩; have HB2 := Aside0.mk (below_step HB.out hb); clear hb) | fail)
  go_ret2
  exact ⟨rfl, HB2.out⟩
end Go.Proofs.Ytfangodjmppooaa.Rd
