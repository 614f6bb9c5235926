/- The iterator of bucket.about: the cells of a ring, one after the other. -/
import Derived.Test.YtfangodjmppooaaRound
import Derived.Test.YtfangodjmppooaaProg
import Derived.RangeFuncNested
import Derived.Shelf.Abstract
import Derived.WalkKit
import Derived.TacticsInMore
import Derived.LoopNIn
import Derived.LoopIn
namespace Go.Proofs.Ytfangodjmppooaa.Rd
open Go Go.RowKit Go.Proofs.YtfangodjmppooaaW.PrintWords Go.Proofs.YtfangodjmppooaaW.PrintLast Go.Proofs.YtfangodjmppooaaW.PrintMore
attribute [local go_sem] Oper.semAt_some
set_option linter.unusedVariables false
set_option linter.unusedSimpArgs false
def mx4 (a b c d : Int) : Int :=
  if (if (if a < b then b else a) < c then c else (if a < b then b else a)) < d then d else (if (if a < b then b else a) < c then c else (if a < b then b else a))
def mx (x y : Int) : Int := mx4 x (-x) y (-y)
theorem max_ints (ats : Array TypeId) (ty : TypeId) (k : IntKind) (a b c d : Int) : Builtin.max_ ats ty #[.int k a, .int k b, .int k c, .int k d] = pure (.int k (mx4 a b c d)) := by
  rw [max_four]
  simp only [max2_int, pure_bind]
  rfl
attribute [local go_sem] max_ints
def ringRow (n x : Int) : Nat → Int → List (Int × Int)
  | 0, _ => []
  | k + 1, y => if mx x y = n then (x, y) :: ringRow n x k (y + 1) else ringRow n x k (y + 1)
def ringRows (n : Int) : Nat → Int → List (Int × Int)
  | 0, _ => []
  | k + 1, x => ringRow n x (2 * n.toNat + 1) (-n) ++ ringRows n k (x + 1)
/-- The cells so far off, row for row. -/
def ring (n : Int) : List (Int × Int) := ringRows n (2 * n.toNat + 1) (-n)
abbrev encs (p : Int × Int) : Array Value := #[.int .i64 p.1, .int .i64 p.2]
set_option maxHeartbeats 4000000 in
theorem about_stops (F : Fence) (n : Nat) (h34 : F.fn 34) (hro : F.round = none) (hn : 1 ≤ n) (B n₀ : Nat) (hB : B < n₀) (far : Int) (h0 : 0 ≤ far) (h1 : far ≤ 100) (w : World) (hw : n₀ ≤ w.heap.size) (hb : w.cell? ⟨B, 0, none⟩ = some (.int .i64 far)) :
    SeqStopsK F n Try.prog 34 #[.pointer (some ⟨B, 0, none⟩)] encs (Below n₀) (fun xs => xs = ring far) (fun pre => pre <+: ring far) (ring far).length w := fun l J Jx W hW _ _ hY hJ0 => by
  have hbW : W.cell? ⟨B, 0, none⟩ = some (.int .i64 far) := (hW.cell (p := ⟨B, 0, none⟩) (by show B < w.heap.size; omega)).trans hb
  refine callsIn_of_wp Try.func34 rfl h34 ?_ hro
  simp only [Try.ntmps34, List.size_toArray, List.length_cons, List.length_nil, Nat.reduceAdd, Nat.reduceSub, Array.replicate_succ, Array.replicate_zero, List.push_toArray, List.append_toArray, List.nil_append, List.cons_append]
  have wneg : IntKind.i64.wrap (-far) = -far := by rw [IntKind.wrap_i64]; omega
  gi_wp2
  gi_loopw [3] (fun t3 wr => ∃ (k : Nat) (x : Int) (pre : List (Int × Int)), t3 = .int .i64 x ∧ x = far + 1 - k ∧ k ≤ 2 * far.toNat + 1 ∧ pre ++ ringRows far k x = ring far ∧ J pre wr ∧ wr.cell? ⟨B, 0, none⟩ = some (.int .i64 far))
    (fun t3 _ => (far + 1 - intOf t3).toNat)
  case atStart =>
    exact ⟨2 * far.toNat + 1, -far, [], rfl, by omega, by omega, rfl, hJ0, hbW⟩
  case round =>
    obtain ⟨k, x, pre, rfl, hx, hk, hpre, hJ, hbr⟩ := hrel
    have HX := Aside0.mk (And.intro hx hk)
    have HP := Aside0.mk hpre
    have HJ := Aside0.mk hJ
    have x0 : -far ≤ x := by omega
    have x1 : x ≤ far + 1 := by omega
    have wx : IntKind.i64.wrap (-x) = -x := by rw [IntKind.wrap_i64]; omega
    have wx1 : IntKind.i64.wrap (x + 1) = x + 1 := by rw [IntKind.wrap_i64]; omega
    have wx2 : wrap64 (x + 1) = x + 1 := by unfold wrap64; omega
    clear hx hk hpre hJ
    cases k with
    | zero =>
      have hd : decide (x ≤ far) = false := decide_eq_false (by have := HX.out; omega)
      gi_wp2
      go_end0
      refine ⟨⟨_, rfl⟩, .inl ⟨pre, ?_, HJ.out⟩⟩
      rw [← HP.out]; exact (List.append_nil _).symm
    | succ k =>
      have hd : decide (x ≤ far) = true := decide_eq_true (by have := HX.out; omega)
      gi_wp2
      gi_loopw [4] (fun t4 wr => ∃ (j : Nat) (y : Int) (pre : List (Int × Int)), t4 = .int .i64 y ∧ y = far + 1 - j ∧ j ≤ 2 * far.toNat + 1 ∧ pre ++ (ringRow far x j y ++ ringRows far k (x + 1)) = ring far ∧ J pre wr ∧ wr.cell? ⟨B, 0, none⟩ = some (.int .i64 far))
        (fun t4 _ => (far + 1 - intOf t4).toNat)
      case atStart =>
        exact ⟨2 * far.toNat + 1, -far, pre, rfl, by omega, by omega, HP.out, HJ.out, hbr⟩
      case round =>
        obtain ⟨j, y, pre, rfl, hy, hj, hpre, hJ, hbr⟩ := hrel
        have HY := Aside0.mk (And.intro hy hj)
        have HP := Aside0.mk hpre
        have HJ := Aside0.mk hJ
        have y0 : -far ≤ y := by omega
        have y1 : y ≤ far + 1 := by omega
        have wy : IntKind.i64.wrap (-y) = -y := by rw [IntKind.wrap_i64]; omega
        have wy1 : IntKind.i64.wrap (y + 1) = y + 1 := by rw [IntKind.wrap_i64]; omega
        have wy2 : wrap64 (y + 1) = y + 1 := by unfold wrap64; omega
        clear hy hj hpre hJ
        cases j with
        | zero =>
          have hdy : decide (y ≤ far) = false := decide_eq_false (by have := HY.out; omega)
          gi_wp2
          refine ⟨⟨k, x + 1, pre, rfl, ?_, ?_, ?_, HJ.out, hbr⟩, ?_⟩
          · have := HX.out; omega
          · have := HX.out; omega
          · exact HP.out
          · show (far + 1 - (x + 1)).toNat < (far + 1 - x).toNat
            have := HX.out; omega
        | succ j =>
          have hdy : decide (y ≤ far) = true := decide_eq_true (by have := HY.out; omega)
          by_cases hmx : mx x y = far
          · have hme : (mx4 x (-x) y (-y) == far) = true := beq_iff_eq.mpr hmx
            have hlen : pre.length < (ring far).length := by
              rw [← HP.out]
              have e : ringRow far x (j + 1) y = (x, y) :: ringRow far x j (y + 1) := by rw [ringRow, if_pos hmx]
              rw [e]; simp
            obtain ⟨fn, tmps, assign, body, hyl, hR⟩ := hY pre (x, y) wr HJ.out hlen
            dsimp only [encs] at hyl
            gi_wp2
            refine hR.mono ?_
            rintro e W3 (⟨rfl, hJ3, hk3⟩ | ⟨rfl, hJx3⟩)
            · have hb3 : W3.cell? ⟨B, 0, none⟩ = some (.int .i64 far) := (hk3.cell (p := ⟨B, 0, none⟩) hB).trans hbr
              gi_wp2
              refine ⟨⟨j, y + 1, pre ++ [(x, y)], rfl, ?_, ?_, ?_, hJ3, hb3⟩, ?_⟩
              · have := HY.out; omega
              · have := HY.out; omega
              · rw [← HP.out, ringRow, if_pos hmx]; simp
              · show (far + 1 - (y + 1)).toNat < (far + 1 - y).toNat
                have := HY.out; omega
            · gi_wp2
              refine bodyPost_ret (results_none rfl _ _ _) rfl ?_
              refine ⟨⟨_, rfl⟩, .inr ⟨pre ++ [(x, y)], ⟨ringRow far x j (y + 1) ++ ringRows far k (x + 1), ?_⟩, hJx3⟩⟩
              rw [← HP.out, ringRow, if_pos hmx]; simp
          · have hme : (mx4 x (-x) y (-y) == far) = false := beq_eq_false_iff_ne.mpr hmx
            gi_wp2
            refine ⟨fun _ h => (by cases h), ?_⟩
            gi_wp2
            refine ⟨⟨j, y + 1, pre, rfl, ?_, ?_, ?_, HJ.out, hbr⟩, ?_⟩
            · have := HY.out; omega
            · have := HY.out; omega
            · rw [← HP.out, ringRow, if_neg hmx]
            · show (far + 1 - (y + 1)).toNat < (far + 1 - y).toNat
              have := HY.out; omega
end Go.Proofs.Ytfangodjmppooaa.Rd
