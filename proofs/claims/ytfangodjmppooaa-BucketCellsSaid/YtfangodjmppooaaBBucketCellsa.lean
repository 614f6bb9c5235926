/- BucketCells: own texts in one (part 1 of 4): contracts of the functions that the law reaches. -/
import Derived.WalkKit
import Derived.ProofKit
import Derived.OpenShut
import Derived.ShutString
import Derived.ChangeOld
import Derived.Below
import Derived.SizedLaws
import Derived.Carry
import Derived.Lib.SmallJoins
import Derived.Test.YtfangodjmppooaaWMore
import Derived.RangeFuncNested
import Derived.RangeFuncBound
import Derived.RangeFuncCalls
import Derived.RangeFuncLeaves
import Derived.OwnWalkIn
import Derived.Test.YtfangodjmppooaaProg
import Derived.Shelf.Abstract
import Derived.TacticsInMore
import Derived.LoopNIn
import Derived.LoopIn
import Derived.Deep.Draws
import Derived.Deep.AppendLies
import Derived.Maps.AppendAt
import Derived.OwnWalk
import Derived.Laws.BytesArg
import Derived.Laws.MakeOwn
import Derived.Laws.OwnMore
import Derived.Deep.OwnRows
import Derived.Tactics
import Derived.Lib.ConvBytes
import Derived.Laws.Slices
import Derived.KernelRfl
import Derived.RowKit3
import Derived.Deep.LoopGhost
import Derived.Deep.QuietTactic
import Derived.BigQuiet
import Derived.WideLaws
import Derived.Deep.DeepCutAuto
import Derived.Deep.CutBlock
import Derived.Deep.RegionHeld3
import Derived.Laws.Rows
import Derived.Lib.AppendStr
import Derived.ArgAppend
import Derived.Laws.IdiomCopy
import Derived.OrdersHeld
import Derived.Laws.BitsLemmas
import Derived.RowKit
import Derived.Test.YtfangodjmppooaaWWords
import Derived.Test.YtfangodjmppooaaWLast
import Derived.Test.YtfangodjmppooaaWTab
import Derived.Test.YtfangodjmppooaaWFour
import Derived.Test.YtfangodjmppooaaWQPut
import Derived.Test.YtfangodjmppooaaWApart
import Derived.Test.YtfangodjmppooaaWArr
import Derived.Test.YtfangodjmppooaaWZeros
import Derived.Test.YtfangodjmppooaaWFoot
import Derived.Test.YtfangodjmppooaaWKept
import Derived.Test.YtfangodjmppooaaWShare
import Derived.Test.YtfangodjmppooaaWN
import Derived.Test.YtfangodjmppooaaWFootNe
import Derived.Test.YtfangodjmppooaaWAt
import Derived.Test.YtfangodjmppooaaWEqStruct
import Derived.Test.YtfangodjmppooaaWRepsOne
import Derived.Test.YtfangodjmppooaaWInv
import Derived.Test.YtfangodjmppooaaWInvWords
import Derived.Test.YtfangodjmppooaaWGuard
import Derived.Test.YtfangodjmppooaaWNEv
import Derived.BigRegion
import Derived.RangeFuncFrom

section
/- A law's row out of its contract: whatever the parameters' types, a law that answers true and leaves all elder memory as it was meets its given statement. -/
namespace Go.Proofs.Ytfangodjmppooaa.RK
open Go Go.ChangeShapes Go.WideShapes Go.ChangeAt Go.RowKit Go.WideElems Go.Maps Go.Deep
variable {H : Type} {enc : TypeId × Value → H} {P : Program}

/-- All arguments read behind the call as they read before. -/
theorem all_below (hl : laidOutB P = true) {W W' : World} (hb : Below W.heap.size W W') : ∀ (ts : List TypeId) (vs : List Value) (ds : List (DataW H)) (ps : List MemPlace),
    (ts.all fun t => P.readableRec t && decide (t < P.types.size)) = true → DataW.TrodAll enc P W 0 (fun _ => true) true ts vs ds ps → (∀ x ∈ ps, x.block < W.heap.size) →
    DataW.TrodAll enc P W' 0 (fun b => decide (b < W.heap.size)) true ts vs ds ps
  | [], vs, ds, ps, _, h, _ => by
    obtain ⟨rfl, rfl, rfl⟩ := trodAll_nil h
    exact trodAll_mk0
  | t :: ts, vs, ds, ps, hr, h, hp => by
    obtain ⟨v, vs', d, ds', p, q, rfl, rfl, rfl, h1, h2⟩ := trodAll_cons h
    rw [List.all_cons, Bool.and_eq_true, Bool.and_eq_true] at hr
    exact trodAll_cons_mk (Below.trod hl hr.1.1 (of_decide_eq_true hr.1.2) h1 hb (fun x hx => hp x (List.mem_append_left _ hx)))
      (all_below hl hb ts vs' ds' q hr.2 h2 (fun x hx => hp x (List.mem_append_right _ hx)))

/-- The law's end: it answered true, elder memory is as it was. -/
theorem post_true {W W' : World} {f : Func} {s : ChangeSpec} {args : Array Value} {ds : List (DataW H)} {ps : List MemPlace} {tb : TypeId} (hl : laidOutB P = true)
    (hr : (f.params.toList.all fun t => P.readableRec t && decide (t < P.types.size)) = true) (ht : f.resultTypes = #[tb]) (hu : P.underlying tb = some .bool) (hv : s.vars = [])
    (hfn : s.fn H (ds ++ []) = { results := [.lit (.bool true)], args := ds })
    (hA : DataW.TrodAll enc P W 0 (fun _ => true) true f.params.toList args.toList ds ps)
    (hW : DataW.Whole enc P f.params.toList s.vars false W args.toList ds [] ps) (hb : Below W.heap.size W W') :
    s.post enc P f false true false false W args (.bool true) W' := by
  refine ⟨ds, [], ps, [], ps, [], hW, ?_, ?_, ?_, hb.frame _, fun h => by cases h⟩
  · rw [hfn, ht]
    exact trodAll_mk1 (shut_bool hu _)
  · rw [hfn]
    exact all_below hl hb _ _ _ _ hr hA hW.lt
  · rw [hfn, hv]
    rfl

/-- A struct of two whole numbers, by value. -/
theorem open_two {w : World} {sp : Nat → Bool} {held : Bool} {r : Reach} {b0 base : Nat} {t : TypeId} {f0 f1 : Field} {k0 k1 : IntKind} {v : Value} {d : DataW H} {p : List MemPlace}
    (hs : P.underlying t = some (.struct #[f0, f1])) (hone : oneCellFields P #[f0, f1] = true) (hC : P.cellsOf t = 2) (h0 : P.underlying f0.type = some (.int k0)) (h1 : P.underlying f1.type = some (.int k1))
    (hv : Value.okWide P w r b0 t v) (h : DataW.Trod enc P w base sp held t v d p) :
    ∃ a b : Int, v = .agg #[.int k0 a, .int k1 b] ∧ (Lit.int k0 a).wf = true ∧ (Lit.int k1 b).wf = true := by
  obtain ⟨c0, c1, y0, y1, m, rfl, rfl, rfl, hy0, hy1⟩ := Joins.open_agg2 hs hone hC hv h
  obtain ⟨a, e0, _, wa⟩ := DataW.trod_int h0 hy0
  obtain ⟨b, e1, _, wb⟩ := DataW.trod_int h1 hy1
  simp at e0 e1
  subst e0 e1
  exact ⟨a, b, rfl, wa, wb⟩
end Go.Proofs.Ytfangodjmppooaa.RK
end

section
/- A region of open order in a round of a range over a function, inside the wide fence: by the plain words. -/
namespace Go.Proofs.Ytfangodjmppooaa.Rd
open Go Go.RowKit Go.Proofs.YtfangodjmppooaaW.PrintWords Go.Proofs.YtfangodjmppooaaW.PrintLast Go.Proofs.YtfangodjmppooaaW.PrintMore
set_option linter.unusedVariables false
section
variable {P : Program} {ops : Array Oper} {Q : Exit → Act → World → Prop}
theorem opsIn_of_ops (hno : ¬ LetsOut Q) (hnd : ∀ (i : Nat) (o : Oper), ops[i]? = some o → ∀ c, o.op ≠ .defer c) (l n : Nat) : ∀ (list : List Nat) (a : Act) (w : World), wpOps P ops Q list a w → wpOpsIn (Fence.wide.inRound l) n P ops Q list a w := by
  intro list
  induction list with
  | nil => exact fun a w h => h
  | cons i rest ih =>
    intro a w h
    unfold wpOps at h
    unfold wpOpsIn
    cases ho : ops[i]? with
    | none => rw [ho] at h; exact ih a w h
    | some o =>
      rw [ho] at h
      dsimp only at h ⊢
      by_cases hw : Region.wanted o (yielded ops a.tmps) = true
      · rw [if_pos hw] at h ⊢
        rcases h with h | h
        · refine ⟨fun f _ => trivial, ?_⟩
          rw [Oper.semAt_eq _ _ _ (hnd i o ho)]
          unfold Oper.wp at h
          generalize (execOp a.eval o).run P w = r at h ⊢
          unfold Oper.upon at h
          unfold Oper.uponIn
          split at h
          · exact ih _ _ h
          · exact ih _ _ h
          · exact ih _ _ h
          · refine ⟨fun e => by simp [Fence.wide] at e, CallsIn.inRound l (callsIn_wide.2 (h.mono ?_))⟩
            intro e w' he
            cases e with
            | returned v => exact ih _ _ he
            | panicked c => exact he
            | outgrown => exact he
          · refine ⟨fun e => by simp [Fence.wide] at e, fun c cs hroom => ?_⟩
            obtain ⟨v, w', h1, h2⟩ := h c cs
            exact ⟨v, w', ih _ _ h1, stepsIn_wide.2 h2⟩
          · exact h
          · exact h.elim
        · exact absurd h.2 hno
      · rw [if_neg hw] at h ⊢
        exact ⟨fun f _ => trivial, ih _ _ h⟩
variable {S : World → Prop} {ds : List Nat}
/-- As start_, in a round. -/
theorem startR_ {id n m l : Nat} {a : Act} {w : World} (hno : ¬ LetsOut Q) (hnd : (ops.toList.all fun o => match o.op with | .defer _ => false | _ => true) = true) (L : Array Bool) (hm : P.follows .mixedOrders = true) (hn : ops.size = n) (hl : Array.replicate n false = L) (hS : S w.drew)
    (h : S w.drew → wpAnyLast P .any ops Q S ds n L a w.drew) : (Code.region id ops true).wpIn (Fence.wide.inRound l) m P Q a w := by
  subst hn
  subst hl
  refine wpIn_region_draw fun t => ?_
  refine opsIn_of_ops hno (fun i o ho c hc => ?_) l m _ _ _ ?_
  · have h1 := List.all_eq_true.1 hnd o (by rw [Array.mem_toList_iff]; exact Array.mem_of_getElem? ho)
    rw [hc] at h1
    simp at h1
  · simp only [Region.schedule, hm, Bool.true_or, if_true]
    exact wpAny_sound ops.size t _ a _ (wpAny_of_last _ _ _ _ (h hS))
end
end Go.Proofs.Ytfangodjmppooaa.Rd
end

section
/- The iterator of bucket.about: the cells of a ring, one after the other. -/
namespace Go.Proofs.Ytfangodjmppooaa.Rd
open Go Go.RowKit Go.Proofs.YtfangodjmppooaaW.PrintWords Go.Proofs.YtfangodjmppooaaW.PrintLast Go.Proofs.YtfangodjmppooaaW.PrintMore
attribute [local go_sem] Oper.semAt_some
set_option linter.unusedVariables false
set_option linter.unusedSimpArgs false
def mx4 (a b c d : Int) : Int :=
  if (if (if a < b then b else a) < c then c else (if a < b then b else a)) < d then d else (if (if a < b then b else a) < c then c else (if a < b then b else a))
def mx (x y : Int) : Int := mx4 x (-x) y (-y)
theorem max_ints (ats : Array TypeId) (ty : TypeId) (k : IntKind) (a b c d : Int) : Builtin.max_ ats ty #[.int k a, .int k b, .int k c, .int k d] = pure (.int k (mx4 a b c d)) := by
  rw [max_four]
  simp only [max2_int, pure_bind]
  rfl
attribute [local go_sem] max_ints
def ringRow (n x : Int) : Nat → Int → List (Int × Int)
  | 0, _ => []
  | k + 1, y => if mx x y = n then (x, y) :: ringRow n x k (y + 1) else ringRow n x k (y + 1)
def ringRows (n : Int) : Nat → Int → List (Int × Int)
  | 0, _ => []
  | k + 1, x => ringRow n x (2 * n.toNat + 1) (-n) ++ ringRows n k (x + 1)
/-- The cells so far off, row for row. -/
def ring (n : Int) : List (Int × Int) := ringRows n (2 * n.toNat + 1) (-n)
abbrev encs (p : Int × Int) : Array Value := #[.int .i64 p.1, .int .i64 p.2]
set_option maxHeartbeats 4000000 in
theorem about_stops (F : Fence) (n : Nat) (h34 : F.fn 34) (hro : F.round = none) (hn : 1 ≤ n) (B n₀ : Nat) (hB : B < n₀) (far : Int) (h0 : 0 ≤ far) (h1 : far ≤ 100) (w : World) (hw : n₀ ≤ w.heap.size) (hb : w.cell? ⟨B, 0, none⟩ = some (.int .i64 far)) :
    SeqStopsK F n Try.prog 34 #[.pointer (some ⟨B, 0, none⟩)] encs (Below n₀) (fun xs => xs = ring far) (fun pre => pre <+: ring far) (ring far).length w := fun l J Jx W hW _ _ hY hJ0 => by
  have hbW : W.cell? ⟨B, 0, none⟩ = some (.int .i64 far) := (hW.cell (p := ⟨B, 0, none⟩) (by show B < w.heap.size; omega)).trans hb
  refine callsIn_of_wp Try.func34 rfl h34 ?_ hro
  simp only [Try.ntmps34, List.size_toArray, List.length_cons, List.length_nil, Nat.reduceAdd, Nat.reduceSub, Array.replicate_succ, Array.replicate_zero, List.push_toArray, List.append_toArray, List.nil_append, List.cons_append]
  have wneg : IntKind.i64.wrap (-far) = -far := by rw [IntKind.wrap_i64]; omega
  gi_wp2
  gi_loopw [3] (fun t3 wr => ∃ (k : Nat) (x : Int) (pre : List (Int × Int)), t3 = .int .i64 x ∧ x = far + 1 - k ∧ k ≤ 2 * far.toNat + 1 ∧ pre ++ ringRows far k x = ring far ∧ J pre wr ∧ wr.cell? ⟨B, 0, none⟩ = some (.int .i64 far))
    (fun t3 _ => (far + 1 - intOf t3).toNat)
  case atStart =>
    exact ⟨2 * far.toNat + 1, -far, [], rfl, by omega, by omega, rfl, hJ0, hbW⟩
  case round =>
    obtain ⟨k, x, pre, rfl, hx, hk, hpre, hJ, hbr⟩ := hrel
    have HX := Aside0.mk (And.intro hx hk)
    have HP := Aside0.mk hpre
    have HJ := Aside0.mk hJ
    have x0 : -far ≤ x := by omega
    have x1 : x ≤ far + 1 := by omega
    have wx : IntKind.i64.wrap (-x) = -x := by rw [IntKind.wrap_i64]; omega
    have wx1 : IntKind.i64.wrap (x + 1) = x + 1 := by rw [IntKind.wrap_i64]; omega
    have wx2 : wrap64 (x + 1) = x + 1 := by unfold wrap64; omega
    clear hx hk hpre hJ
    cases k with
    | zero =>
      have hd : decide (x ≤ far) = false := decide_eq_false (by have := HX.out; omega)
      gi_wp2
      go_end0
      refine ⟨⟨_, rfl⟩, .inl ⟨pre, ?_, HJ.out⟩⟩
      rw [← HP.out]; exact (List.append_nil _).symm
    | succ k =>
      have hd : decide (x ≤ far) = true := decide_eq_true (by have := HX.out; omega)
      gi_wp2
      gi_loopw [4] (fun t4 wr => ∃ (j : Nat) (y : Int) (pre : List (Int × Int)), t4 = .int .i64 y ∧ y = far + 1 - j ∧ j ≤ 2 * far.toNat + 1 ∧ pre ++ (ringRow far x j y ++ ringRows far k (x + 1)) = ring far ∧ J pre wr ∧ wr.cell? ⟨B, 0, none⟩ = some (.int .i64 far))
        (fun t4 _ => (far + 1 - intOf t4).toNat)
      case atStart =>
        exact ⟨2 * far.toNat + 1, -far, pre, rfl, by omega, by omega, HP.out, HJ.out, hbr⟩
      case round =>
        obtain ⟨j, y, pre, rfl, hy, hj, hpre, hJ, hbr⟩ := hrel
        have HY := Aside0.mk (And.intro hy hj)
        have HP := Aside0.mk hpre
        have HJ := Aside0.mk hJ
        have y0 : -far ≤ y := by omega
        have y1 : y ≤ far + 1 := by omega
        have wy : IntKind.i64.wrap (-y) = -y := by rw [IntKind.wrap_i64]; omega
        have wy1 : IntKind.i64.wrap (y + 1) = y + 1 := by rw [IntKind.wrap_i64]; omega
        have wy2 : wrap64 (y + 1) = y + 1 := by unfold wrap64; omega
        clear hy hj hpre hJ
        cases j with
        | zero =>
          have hdy : decide (y ≤ far) = false := decide_eq_false (by have := HY.out; omega)
          gi_wp2
          refine ⟨⟨k, x + 1, pre, rfl, ?_, ?_, ?_, HJ.out, hbr⟩, ?_⟩
          · have := HX.out; omega
          · have := HX.out; omega
          · exact HP.out
          · show (far + 1 - (x + 1)).toNat < (far + 1 - x).toNat
            have := HX.out; omega
        | succ j =>
          have hdy : decide (y ≤ far) = true := decide_eq_true (by have := HY.out; omega)
          by_cases hmx : mx x y = far
          · have hme : (mx4 x (-x) y (-y) == far) = true := beq_iff_eq.mpr hmx
            have hlen : pre.length < (ring far).length := by
              rw [← HP.out]
              have e : ringRow far x (j + 1) y = (x, y) :: ringRow far x j (y + 1) := by rw [ringRow, if_pos hmx]
              rw [e]; simp
            obtain ⟨fn, tmps, assign, body, hyl, hR⟩ := hY pre (x, y) wr HJ.out hlen
            dsimp only [encs] at hyl
            gi_wp2
            refine hR.mono ?_
            rintro e W3 (⟨rfl, hJ3, hk3⟩ | ⟨rfl, hJx3⟩)
            · have hb3 : W3.cell? ⟨B, 0, none⟩ = some (.int .i64 far) := (hk3.cell (p := ⟨B, 0, none⟩) hB).trans hbr
              gi_wp2
              refine ⟨⟨j, y + 1, pre ++ [(x, y)], rfl, ?_, ?_, ?_, hJ3, hb3⟩, ?_⟩
              · have := HY.out; omega
              · have := HY.out; omega
              · rw [← HP.out, ringRow, if_pos hmx]; simp
              · show (far + 1 - (y + 1)).toNat < (far + 1 - y).toNat
                have := HY.out; omega
            · gi_wp2
              refine bodyPost_ret (results_none rfl _ _ _) rfl ?_
              refine ⟨⟨_, rfl⟩, .inr ⟨pre ++ [(x, y)], ⟨ringRow far x j (y + 1) ++ ringRows far k (x + 1), ?_⟩, hJx3⟩⟩
              rw [← HP.out, ringRow, if_pos hmx]; simp
          · have hme : (mx4 x (-x) y (-y) == far) = false := beq_eq_false_iff_ne.mpr hmx
            gi_wp2
            refine ⟨fun _ h => (by cases h), ?_⟩
            gi_wp2
            refine ⟨⟨j, y + 1, pre, rfl, ?_, ?_, ?_, HJ.out, hbr⟩, ?_⟩
            · have := HY.out; omega
            · have := HY.out; omega
            · rw [← HP.out, ringRow, if_neg hmx]
            · show (far + 1 - (y + 1)).toNat < (far + 1 - y).toNat
              have := HY.out; omega
end Go.Proofs.Ytfangodjmppooaa.Rd
end

section
namespace Go.Proofs.Ytfangodjmppooaa.F
open Go.RowKit Go.Proofs.YtfangodjmppooaaW.PrintWords Go.Proofs.YtfangodjmppooaaW.PrintLast Go.Proofs.YtfangodjmppooaaW.PrintMore
attribute [local go_sem] max2_int min2_int max_two min_two max_three min_three max_four min_four   -- for this text's walks alone
set_option linter.unusedVariables false
set_option linter.unusedSimpArgs false



def errW : Option Int → Value
  | none => .nilIface
  | some c => .iface 0 (.int .i64 c)
theorem errW_none : errW none = .nilIface := rfl
theorem errW_some (c : Int) : errW (some c) = .iface 0 (.int .i64 c) := rfl

theorem info3 : (Try.prog.info? 3).map (fun i => (i.zero, i.size, i.bytes)) = some (some (.int .i64 0), 1, 8) := by kernel_rfl
theorem info63 : (Try.prog.info? 63).map (fun i => (i.zero, i.size, i.bytes)) = some (some (.agg #[(.int .i64 0), (.int .i64 0), (.int .i64 0)]), 3, 24) := by kernel_rfl
theorem info87 : (Try.prog.info? 87).map (fun i => (i.zero, i.size, i.bytes)) = some (some (.int .u32 0), 1, 4) := by kernel_rfl
-- the values' own types
def rd_L1 (xs : List (List Int)) (i : Int) : (List Int) := xs.getD i.toNat ([] : List Int)
theorem at_L1 {w : World} {A : Option Addr} {n : Nat} {xs : List (List Int)} (h : Kd.C (Kd.slice 3 (Kd.int .i64)) w A n xs) (i : Int) (h0 : 0 ≤ i) (h1 : i < n) : ∃ ad A0 c0, A = some ad ∧ w.cell? (ad.add i.toNat) = some (.slice A0 (rd_L1 xs i).length c0) ∧ (rd_L1 xs i).length ≤ c0 ∧ (Kd.int .i64).C w A0 (rd_L1 xs i).length (rd_L1 xs i) := by
  obtain ⟨ad, c, e, _, hK, hc0⟩ := Kd.C_get h ([] : List Int) i h0 h1
  have hc : ∀ j u, c[j]? = some u → w.cell? (ad.add (i.toNat * 1 + j)) = some u := hc0
  obtain ⟨A0, c0, rfl, l0, g0⟩ := hK
  exact ⟨ad, A0, c0, e, by have hq := hc 0 _ rfl; rwa [Nat.mul_one, Nat.add_zero] at hq, l0, g0⟩

/-! #### struct type 63 -/
structure S63 where
  f0 : Int
  f1 : Int
  f2 : Int
def z63 : S63 := ⟨(0 : Int), (0 : Int), (0 : Int)⟩
def k63 : Kd S63 := Kd.iso (Kd.pair (Kd.int .i64) (Kd.pair (Kd.int .i64) (Kd.int .i64))) (fun x : S63 => (x.f0, x.f1, x.f2))
theorem k63_open {w : World} {x : S63} {cs : List Value} (h : k63.K w x cs) : cs = [.int .i64 x.f0, .int .i64 x.f1, .int .i64 x.f2] := by
  obtain ⟨_, _, rfl, rfl, ⟨_, _, rfl, rfl, rfl⟩⟩ := h
  exact rfl
theorem k63_openM {w : World} {base : Nat} {ok : Nat → Prop} {x : S63} {cs : List Value} (h : k63.M w base ok x cs) : cs = [.int .i64 x.f0, .int .i64 x.f1, .int .i64 x.f2] := by
  obtain ⟨_, _, rfl, rfl, ⟨_, _, rfl, rfl, rfl⟩⟩ := h
  exact rfl
theorem k63_mk (w : World) (x : S63)  : k63.K w x [.int .i64 x.f0, .int .i64 x.f1, .int .i64 x.f2] := ⟨[.int .i64 x.f0], [.int .i64 x.f1, .int .i64 x.f2], rfl, rfl, ⟨[.int .i64 x.f1], [.int .i64 x.f2], rfl, rfl, rfl⟩⟩
theorem k63_mkM (w : World) (base : Nat) (ok : Nat → Prop) (x : S63)  : k63.M w base ok x [.int .i64 x.f0, .int .i64 x.f1, .int .i64 x.f2] := ⟨[.int .i64 x.f0], [.int .i64 x.f1, .int .i64 x.f2], rfl, rfl, ⟨[.int .i64 x.f1], [.int .i64 x.f2], rfl, rfl, rfl⟩⟩
def rd_T63 (xs : List S63) (i : Int) : S63 := xs.getD i.toNat z63
theorem at_T63 {w : World} {A : Option Addr} {n : Nat} {xs : List S63} (h : Kd.C k63 w A n xs) (i : Int) (h0 : 0 ≤ i) (h1 : i < n) : ∃ ad , A = some ad ∧ w.cell? (ad.add (i.toNat * 3)) = some (.int .i64 (rd_T63 xs i).f0) ∧ w.cell? ⟨(ad.add (i.toNat * 3)).block, (ad.add (i.toNat * 3)).off + 1, none⟩ = some (.int .i64 (rd_T63 xs i).f1) ∧ w.cell? ⟨(ad.add (i.toNat * 3)).block, (ad.add (i.toNat * 3)).off + 2, none⟩ = some (.int .i64 (rd_T63 xs i).f2) := by
  obtain ⟨ad, c, e, _, hK, hc0⟩ := Kd.C_get h z63 i h0 h1
  have hc : ∀ j u, c[j]? = some u → w.cell? (ad.add (i.toNat * 3 + j)) = some u := hc0
  obtain rfl := k63_open hK
  exact ⟨ad, e, hc 0 _ rfl, by rw [← add_field _ _ 1 (by omega)]; exact hc 1 _ rfl, by rw [← add_field _ _ 2 (by omega)]; exact hc 2 _ rfl⟩

end Go.Proofs.Ytfangodjmppooaa.F
end

section
namespace Go.Proofs.Ytfangodjmppooaa.F
open Go.RowKit Go.Proofs.YtfangodjmppooaaW.PrintWords Go.Proofs.YtfangodjmppooaaW.PrintLast Go.Proofs.YtfangodjmppooaaW.PrintMore
attribute [local go_sem] max2_int min2_int max_two min_two max_three min_three max_four min_four   -- for this text's walks alone
set_option linter.unusedVariables false
set_option linter.unusedSimpArgs false

/-! ### lift_torus: function 35 -/
def lift_torus.f (a0 : Int) : Option (Bool) := if a0 ≥ 1 then (some (decide (a0 ≤ 1099511627776))) else (some false)
set_option maxHeartbeats 8000000 in
set_option maxRecDepth 100000 in
theorem lift_torus.calls (a0 : Int) (r : Bool) (w : World) (h : lift_torus.f a0 = some r) :
    Calls Try.prog 35 #[.int .i64 a0] w fun e w' => e = .returned (.bool r) ∧ Drawn0 w w' := by
  have H : (if a0 ≥ 1 then (some (decide (a0 ≤ 1099511627776))) else (some false)) = some r := h
  clear h
  by_cases c2 : a0 ≥ 1
  · rw [if_pos c2] at H
    have c2b0 : decide (1 ≤ a0) = true := decide_eq_true c2
    clear c2
    obtain rfl := Option.some.inj H
    go_enter Try.func35, Try.ntmps35
    go_wp2
    go_ret
    exact ⟨by first | rfl | (simp; done) | (simp [*]; done), by repeat (first | exact Drawn0.refl _ | apply Drawn0.step)⟩
  · rw [if_neg c2] at H
    have c2b0 : decide (1 ≤ a0) = false := decide_eq_false c2
    clear c2
    obtain rfl := Option.some.inj H
    go_enter Try.func35, Try.ntmps35
    go_wp2
    go_ret
    exact ⟨by first | rfl | (simp; done) | (simp [*]; done), by repeat (first | exact Drawn0.refl _ | apply Drawn0.step)⟩

end Go.Proofs.Ytfangodjmppooaa.F
end

section
namespace Go.Proofs.Ytfangodjmppooaa.F
open Go.RowKit Go.Proofs.YtfangodjmppooaaW.PrintWords Go.Proofs.YtfangodjmppooaaW.PrintLast Go.Proofs.YtfangodjmppooaaW.PrintMore
attribute [local go_sem] max2_int min2_int max_two min_two max_three min_three max_four min_four   -- for this text's walks alone
set_option linter.unusedVariables false
set_option linter.unusedSimpArgs false

/-! ### lift_within: function 45 -/
def lift_within.f (a0 : Int) : Option (Bool) := if a0 ≥ (-1099511627776) then (some (decide (a0 ≤ 1099511627776))) else (some false)
set_option maxHeartbeats 8000000 in
set_option maxRecDepth 100000 in
theorem lift_within.calls (a0 : Int) (r : Bool) (w : World) (h : lift_within.f a0 = some r) :
    Calls Try.prog 45 #[.int .i64 a0] w fun e w' => e = .returned (.bool r) ∧ Drawn0 w w' := by
  have H : (if a0 ≥ (-1099511627776) then (some (decide (a0 ≤ 1099511627776))) else (some false)) = some r := h
  clear h
  by_cases c2 : a0 ≥ (-1099511627776)
  · rw [if_pos c2] at H
    have c2b0 : decide ((-1099511627776) ≤ a0) = true := decide_eq_true c2
    clear c2
    obtain rfl := Option.some.inj H
    go_enter Try.func45, Try.ntmps45
    go_wp2
    go_ret
    exact ⟨by first | rfl | (simp; done) | (simp [*]; done), by repeat (first | exact Drawn0.refl _ | apply Drawn0.step)⟩
  · rw [if_neg c2] at H
    have c2b0 : decide ((-1099511627776) ≤ a0) = false := decide_eq_false c2
    clear c2
    obtain rfl := Option.some.inj H
    go_enter Try.func45, Try.ntmps45
    go_wp2
    go_ret
    exact ⟨by first | rfl | (simp; done) | (simp [*]; done), by repeat (first | exact Drawn0.refl _ | apply Drawn0.step)⟩

end Go.Proofs.Ytfangodjmppooaa.F
end

section
namespace Go.Proofs.Ytfangodjmppooaa.F
open Go.RowKit Go.Proofs.YtfangodjmppooaaW.PrintWords Go.Proofs.YtfangodjmppooaaW.PrintLast Go.Proofs.YtfangodjmppooaaW.PrintMore
attribute [local go_sem] max2_int min2_int max_two min_two max_three min_three max_four min_four   -- for this text's walks alone
set_option linter.unusedVariables false
set_option linter.unusedSimpArgs false

/-! ### lift_can: function 36 -/
def lift_can.f (a0_0 : Int) (a0_1 : Int) : Option (Bool) := (lift_within.f a0_0).bind fun t102 => (if t102 = true then ((lift_within.f a0_1).bind fun t103 => (some t103)) else (some false))
set_option maxHeartbeats 8000000 in
set_option maxRecDepth 100000 in
theorem lift_can.calls (a0_0 : Int) (a0_1 : Int) (r : Bool) (w : World) (h : lift_can.f a0_0 a0_1 = some r) :
    Calls Try.prog 36 #[.agg #[.int .i64 a0_0, .int .i64 a0_1]] w fun e w' => e = .returned (.bool r) ∧ Below w.heap.size w w' := by
  have hu23 := Try.underlying23
  have HB := Aside0.mk (Below.refl w.heap.size w)
  have H : ((lift_within.f a0_0).bind fun t102 => (if t102 = true then ((lift_within.f a0_1).bind fun t103 => (some t103)) else (some false))) = some r := h
  clear h
  replace H := Option.bind_eq_some_iff.mp H
  obtain ⟨t102, A20, H⟩ := H
  replace H : (if t102 = true then ((lift_within.f a0_1).bind fun t103 => (some t103)) else (some false)) = some r := H
  have A2 := Aside0.mk A20
  clear A20
  by_cases c3 : t102 = true
  · subst c3
    have H1 : ((lift_within.f a0_1).bind fun t103 => (some t103)) = some r := by rw [if_pos rfl] at H; exact H
    clear H
    have H := H1
    clear H1
    replace H := Option.bind_eq_some_iff.mp H
    obtain ⟨t103, A40, H⟩ := H
    replace H : (some t103) = some r := H
    have A4 := Aside0.mk A40
    clear A40
    obtain rfl := Option.some.inj H
    go_enter Try.func36, Try.ntmps36
    go_wp2_with (first | ((with_reducible refine gate_dst (N := 1) rfl ?_); refine box_event ?hg (N := 1) ?hd (cs := #[.int .i64 a0_0, .int .i64 a0_1]) (t := 23) ?hr ?_; (case hd => rfl); (case hg => rfl); (case hr => first | (go_simp; done) | (go_simp; rfl)); intro gb101 hg w5 hbox hb; have n0_ := Aside0.mk (below_step (by repeat (first | (with_reducible first | exact HB.out | apply below_alloc | apply pw_below_drewN | apply below_drew1) | exact HB.out)) hb); have n1_ := Aside0.mk (hbox); have n2_ := Aside0.mk ((by rw [hg]; exact (below_size (by repeat (first | (with_reducible first | exact HB.out | apply below_alloc | apply pw_below_drewN | apply below_drew1) | exact HB.out))) : w.heap.size ≤ gb101)); have n3_ := Aside0.mk ((by rw [hg]; exact (below_size (by repeat (first | (with_reducible first | exact HB.out | apply below_alloc | apply pw_below_drewN | apply below_drew1) | exact HB.out))) : w.heap.size ≤ gb101)); clear HB; have HB := n0_; have BK101 := n1_; have GW101 := n2_; have GE101 := n3_; clear n0_ n1_ n2_ n3_; clear hb hbox hg; have hcz6_0 : w5.cell? ⟨gb101, 0, none⟩ = some (.int .i64 a0_0) := (blk_cell BK101.out 0).trans rfl; have hcz6_1 : w5.cell? ⟨gb101, 1, none⟩ = some (.int .i64 a0_1) := (blk_cell BK101.out 1).trans rfl; have hfz6_0 := blk_frozen BK101.out 0; have hfz6_1 := blk_frozen BK101.out 1) | ((with_reducible refine gate_callee (f := 45) rfl ?_); refine goesL_ (some 5) rfl rfl Try.func45 (by kernel_rfl) rfl #[.int .i64 a0_0] rfl (by (try simp only [List.map_toArray, List.map_cons, List.map_nil]); first | done | rfl | (simp only [List.length_drop, List.length_take]; rfl)) ?_; (with_reducible refine (lift_within.calls a0_0 true _ A2.out).mono ?_); rintro e w' ⟨rfl, ⟨nd, rfl⟩⟩; refine ⟨_, rfl, ?_⟩) | (go_at_call 45; (with_reducible refine (lift_within.calls a0_1 t103 _ A4.out).mono ?_); rintro e w' ⟨rfl, ⟨nd, rfl⟩⟩))
    go_ret
    exact ⟨by first | rfl | (simp [errW_none, errW_some] <;> rfl) | (simp [*, errW_none, errW_some] <;> rfl), by repeat (first | (with_reducible first | exact HB.out | apply below_alloc | apply pw_below_drewN | apply below_drew1 | refine below_set ?_ GE101.out) | exact HB.out)⟩
  · replace c3 := Bool.eq_false_iff.mpr c3
    subst c3
    have H1 : (some false) = some r := by rw [if_neg (show ¬ (false = true) by decide)] at H; exact H
    clear H
    have H := H1
    clear H1
    obtain rfl := Option.some.inj H
    go_enter Try.func36, Try.ntmps36
    go_wp2_with (first | ((with_reducible refine gate_dst (N := 1) rfl ?_); refine box_event ?hg (N := 1) ?hd (cs := #[.int .i64 a0_0, .int .i64 a0_1]) (t := 23) ?hr ?_; (case hd => rfl); (case hg => rfl); (case hr => first | (go_simp; done) | (go_simp; rfl)); intro gb101 hg w7 hbox hb; have n0_ := Aside0.mk (below_step (by repeat (first | (with_reducible first | exact HB.out | apply below_alloc | apply pw_below_drewN | apply below_drew1) | exact HB.out)) hb); have n1_ := Aside0.mk (hbox); have n2_ := Aside0.mk ((by rw [hg]; exact (below_size (by repeat (first | (with_reducible first | exact HB.out | apply below_alloc | apply pw_below_drewN | apply below_drew1) | exact HB.out))) : w.heap.size ≤ gb101)); have n3_ := Aside0.mk ((by rw [hg]; exact (below_size (by repeat (first | (with_reducible first | exact HB.out | apply below_alloc | apply pw_below_drewN | apply below_drew1) | exact HB.out))) : w.heap.size ≤ gb101)); clear HB; have HB := n0_; have BK101 := n1_; have GW101 := n2_; have GE101 := n3_; clear n0_ n1_ n2_ n3_; clear hb hbox hg; have hcz8_0 : w7.cell? ⟨gb101, 0, none⟩ = some (.int .i64 a0_0) := (blk_cell BK101.out 0).trans rfl; have hcz8_1 : w7.cell? ⟨gb101, 1, none⟩ = some (.int .i64 a0_1) := (blk_cell BK101.out 1).trans rfl; have hfz8_0 := blk_frozen BK101.out 0; have hfz8_1 := blk_frozen BK101.out 1) | ((with_reducible refine gate_callee (f := 45) rfl ?_); refine goesL_ (some 5) rfl rfl Try.func45 (by kernel_rfl) rfl #[.int .i64 a0_0] rfl (by (try simp only [List.map_toArray, List.map_cons, List.map_nil]); first | done | rfl | (simp only [List.length_drop, List.length_take]; rfl)) ?_; (with_reducible refine (lift_within.calls a0_0 false _ A2.out).mono ?_); rintro e w' ⟨rfl, ⟨nd, rfl⟩⟩; refine ⟨_, rfl, ?_⟩))
    go_ret
    exact ⟨by first | rfl | (simp [errW_none, errW_some] <;> rfl) | (simp [*, errW_none, errW_some] <;> rfl), by repeat (first | (with_reducible first | exact HB.out | apply below_alloc | apply pw_below_drewN | apply below_drew1 | refine below_set ?_ GE101.out) | exact HB.out)⟩

end Go.Proofs.Ytfangodjmppooaa.F
end

section
namespace Go.Proofs.Ytfangodjmppooaa.F
open Go.RowKit Go.Proofs.YtfangodjmppooaaW.PrintWords Go.Proofs.YtfangodjmppooaaW.PrintLast Go.Proofs.YtfangodjmppooaaW.PrintMore
attribute [local go_sem] max2_int min2_int max_two min_two max_three min_three max_four min_four   -- for this text's walks alone
set_option linter.unusedVariables false
set_option linter.unusedSimpArgs false

/-! ### lift_part: function 37 -/
def lift_part.f (a0 : Int) (a1 : Int) : Option (Int × Int) := if a1 = 0 then (none) else (if (Int.tmod a0 a1) < 0 then (some (wrap64 ((Int.tmod a0 a1) + a1), wrap64 ((wrap64 (Int.tdiv a0 a1)) - 1))) else (some (Int.tmod a0 a1, wrap64 (Int.tdiv a0 a1))))
set_option maxHeartbeats 8000000 in
set_option maxRecDepth 100000 in
theorem lift_part.calls (a0 : Int) (a1 : Int) (r1 : Int) (r2 : Int) (w : World) (h : lift_part.f a0 a1 = some (r1, r2)) :
    Calls Try.prog 37 #[.int .i64 a0, .int .i64 a1] w fun e w' => e = .returned (.tuple #[.int .i64 r1, .int .i64 r2]) ∧ Drawn0 w w' := by
  have H : (if a1 = 0 then (none) else (if (Int.tmod a0 a1) < 0 then (some (wrap64 ((Int.tmod a0 a1) + a1), wrap64 ((wrap64 (Int.tdiv a0 a1)) - 1))) else (some (Int.tmod a0 a1, wrap64 (Int.tdiv a0 a1))))) = some (r1, r2) := h
  clear h
  by_cases c3 : a1 = 0
  · rw [if_pos c3] at H
    exact absurd H (by simp)
  · rw [if_neg c3] at H
    have c3b0 : (a1 == 0) = false := beq_eq_false_iff_ne.mpr c3
    have c3b1 : (a1 != 0) = true := bne_iff_ne.mpr c3
    by_cases c4 : (Int.tmod a0 a1) < 0
    · rw [if_pos c4] at H
      have c4b0 : decide ((Int.tmod a0 a1) < 0) = true := decide_eq_true c4
      clear c4
      simp only [Option.some.injEq, Prod.mk.injEq] at H
      obtain ⟨rfl, rfl⟩ := H
      go_enter Try.func37, Try.ntmps37
      go_wp2
      repeat (go_quiet (fail); try go_wp2)
      go_ret2
      exact ⟨by first | rfl | (simp; done) | (simp [*]; done), by repeat (first | exact Drawn0.refl _ | apply Drawn0.step)⟩
    · rw [if_neg c4] at H
      have c4b0 : decide ((Int.tmod a0 a1) < 0) = false := decide_eq_false c4
      clear c4
      simp only [Option.some.injEq, Prod.mk.injEq] at H
      obtain ⟨rfl, rfl⟩ := H
      go_enter Try.func37, Try.ntmps37
      go_wp2
      repeat (go_quiet (fail); try go_wp2)
      go_ret2
      exact ⟨by first | rfl | (simp; done) | (simp [*]; done), by repeat (first | exact Drawn0.refl _ | apply Drawn0.step)⟩

end Go.Proofs.Ytfangodjmppooaa.F
end

section
namespace Go.Proofs.Ytfangodjmppooaa.F
open Go.RowKit Go.Proofs.YtfangodjmppooaaW.PrintWords Go.Proofs.YtfangodjmppooaaW.PrintLast Go.Proofs.YtfangodjmppooaaW.PrintMore
attribute [local go_sem] max2_int min2_int max_two min_two max_three min_three max_four min_four   -- for this text's walks alone
set_option linter.unusedVariables false
set_option linter.unusedSimpArgs false

/-! ### lift_Home: function 28 -/
def lift_Home.j0 : Nat → Int → Bool → Int → Int → Option (Int × Int × Int × Int × Bool)
  | 0, _, _, _, _ => none
  | k + 1, x1, x18, x105000, x105001 => if x18 = true then (some (0, 0, 0, 0, false)) else ((lift_part.f x105000 x1).bind fun bt109 => ((lift_part.f x105001 x1).bind fun bt111 => (some (bt109.1, bt111.1, bt109.2, bt111.2, true))))
def lift_Home.f (k : Nat) (a0_0 : Int) (a0_1 : Int) (a1 : Int) : Option (Int × Int × Int × Int × Bool) := (lift_torus.f a1).bind fun t107 => (if t107 = true then ((lift_can.f a0_0 a0_1).bind fun t108 => (lift_Home.j0 k a1 (!t108) a0_0 a0_1)) else (lift_Home.j0 k a1 true a0_0 a0_1))
theorem lift_Home.mono_l : ∀ k, (∀ y0 y1 y2 y3, LeO (lift_Home.j0 k y0 y1 y2 y3) (lift_Home.j0 (k + 1) y0 y1 y2 y3))
  | 0 => fun _ _ _ _ r h => by simp [lift_Home.j0] at h
  | k + 1 => by
    have ih0 := lift_Home.mono_l k
    · intro y0 y1 y2 y3
      unfold lift_Home.j0
      repeat' first
      | (with_reducible exact ih0 _ _ _ _)
      | (with_reducible exact LeO.refl _)
      | (with_reducible exact LeO.none _)
      | (with_reducible refine LeO.ite ?_ ?_)
      | (with_reducible refine LeO.bind ?_ (fun _ => ?_))
      | exact ih0 _ _ _ _
      | exact LeO.none _
      | refine LeO.ite ?_ ?_
      | refine LeO.bind ?_ (fun _ => ?_)
theorem lift_Home.mono : ∀ a0 a1 a2 k, LeO (lift_Home.f k a0 a1 a2) (lift_Home.f (k + 1) a0 a1 a2) := by
  intro a0 a1 a2 k
  have ih0 := lift_Home.mono_l k
  unfold lift_Home.f
  repeat' first
      | (with_reducible exact ih0 _ _ _ _)
      | (with_reducible exact LeO.refl _)
      | (with_reducible exact LeO.none _)
      | (with_reducible refine LeO.ite ?_ ?_)
      | (with_reducible refine LeO.bind ?_ (fun _ => ?_))
      | exact ih0 _ _ _ _
      | exact LeO.none _
      | refine LeO.ite ?_ ?_
      | refine LeO.bind ?_ (fun _ => ?_)
set_option maxHeartbeats 8000000 in
set_option maxRecDepth 100000 in
theorem lift_Home.calls (k : Nat) (a0_0 : Int) (a0_1 : Int) (a1 : Int) (r1 : Int) (r2 : Int) (r3 : Int) (r4 : Int) (r5 : Bool) (w : World) (h : lift_Home.f k a0_0 a0_1 a1 = some (r1, r2, r3, r4, r5)) :
    Calls Try.prog 28 #[.agg #[.int .i64 a0_0, .int .i64 a0_1], .int .i64 a1] w fun e w' => e = .returned (.tuple #[.agg #[.int .i64 r1, .int .i64 r2], .agg #[.int .i64 r3, .int .i64 r4], .bool r5]) ∧ Below w.heap.size w w' := by
  have hu23 := Try.underlying23
  have hu52 := Try.underlying52
  have HB := Aside0.mk (Below.refl w.heap.size w)
  have H : ((lift_torus.f a1).bind fun t107 => (if t107 = true then ((lift_can.f a0_0 a0_1).bind fun t108 => (lift_Home.j0 k a1 (!t108) a0_0 a0_1)) else (lift_Home.j0 k a1 true a0_0 a0_1))) = some (r1, r2, r3, r4, r5) := h
  clear h
  have HC3 := Aside0.mk H
  clear H
  go_enter Try.func28, Try.ntmps28
  go_upto_region 1 with (first | ((with_reducible refine gate_dst (N := 2) rfl ?_); refine box_event ?hg (N := 2) ?hd (cs := #[.int .i64 a0_0, .int .i64 a0_1]) (t := 23) ?hr ?_; (case hd => rfl); (case hg => rfl); (case hr => first | (go_simp; done) | (go_simp; rfl)); intro gb104 hg w4 hbox hb; have n0_ := Aside0.mk (below_step (by repeat (first | (with_reducible first | exact HB.out | apply below_alloc | apply pw_below_drewN | apply below_drew1) | exact HB.out)) hb); have n1_ := Aside0.mk (hbox); have n2_ := Aside0.mk ((by rw [hg]; exact (below_size (by repeat (first | (with_reducible first | exact HB.out | apply below_alloc | apply pw_below_drewN | apply below_drew1) | exact HB.out))) : w.heap.size ≤ gb104)); have n3_ := Aside0.mk ((by rw [hg]; exact (below_size (by repeat (first | (with_reducible first | exact HB.out | apply below_alloc | apply pw_below_drewN | apply below_drew1) | exact HB.out))) : w.heap.size ≤ gb104)); clear HB; have HB := n0_; have BK104 := n1_; have GW104 := n2_; have GE104 := n3_; clear n0_ n1_ n2_ n3_; clear hb hbox hg) | ((with_reducible refine gate_dst (N := 4) rfl ?_); refine box_event ?hg (N := 4) ?hd (cs := #[.int .i64 0, .int .i64 0]) (t := 23) ?hr ?_; (case hd => rfl); (case hg => rfl); (case hr => first | (go_simp; done) | (go_simp; rfl)); intro gb105 hg w5 hbox hb; have n0_ := Aside0.mk (blk_below (g := gb104) (o := .cells #[.int .i64 a0_0, .int .i64 a0_1] 23 (0, 0)) (by (with_reducible repeat (first | refine blk_drewN ?_ _ | refine blk_drew ?_ | refine blk_alloc ?_ _)); exact BK104.out) hb); have n1_ := Aside0.mk (below_step (by repeat (first | (with_reducible first | exact HB.out | apply below_alloc | apply pw_below_drewN | apply below_drew1 | refine below_set ?_ GE104.out) | exact HB.out)) hb); have n2_ := Aside0.mk (hbox); have n3_ := Aside0.mk ((by rw [hg]; exact (below_size (by repeat (first | (with_reducible first | exact HB.out | apply below_alloc | apply pw_below_drewN | apply below_drew1 | refine below_set ?_ GE104.out) | exact HB.out))) : w.heap.size ≤ gb105)); have n4_ := Aside0.mk ((by rw [hg]; exact (below_size (by repeat (first | (with_reducible first | exact HB.out | apply below_alloc | apply pw_below_drewN | apply below_drew1 | refine below_set ?_ GE104.out) | exact HB.out))) : w.heap.size ≤ gb105)); have n5_ := Aside0.mk ((by rw [hg]; exact Nat.ne_of_lt (blk_lt (g := gb104) (o := .cells #[.int .i64 a0_0, .int .i64 a0_1] 23 (0, 0)) (by (with_reducible repeat (first | refine blk_drewN ?_ _ | refine blk_drew ?_ | refine blk_alloc ?_ _)); exact BK104.out)) : gb104 ≠ gb105)); have n6_ := Aside0.mk ((by rw [hg]; exact Nat.ne_of_gt (blk_lt (g := gb104) (o := .cells #[.int .i64 a0_0, .int .i64 a0_1] 23 (0, 0)) (by (with_reducible repeat (first | refine blk_drewN ?_ _ | refine blk_drew ?_ | refine blk_alloc ?_ _)); exact BK104.out)) : gb105 ≠ gb104)); clear BK104; clear HB; have BK104 := n0_; have HB := n1_; have BK105 := n2_; have GW105 := n3_; have GE105 := n4_; have NB104_105 := n5_; have NB105_104 := n6_; clear n0_ n1_ n2_ n3_ n4_ n5_ n6_; clear hb hbox hg) | ((with_reducible refine gate_dst (N := 5) rfl ?_); refine box_event ?hg (N := 5) ?hd (cs := #[.int .i64 0, .int .i64 0]) (t := 52) ?hr ?_; (case hd => rfl); (case hg => rfl); (case hr => first | (go_simp; done) | (go_simp; rfl)); intro gb106 hg w6 hbox hb; have n0_ := Aside0.mk (blk_below (g := gb104) (o := .cells #[.int .i64 a0_0, .int .i64 a0_1] 23 (0, 0)) (by (with_reducible repeat (first | refine blk_drewN ?_ _ | refine blk_drew ?_ | refine blk_alloc ?_ _)); exact BK104.out) hb); have n1_ := Aside0.mk (blk_below (g := gb105) (o := .cells #[.int .i64 0, .int .i64 0] 23 (0, 0)) (by (with_reducible repeat (first | refine blk_drewN ?_ _ | refine blk_drew ?_ | refine blk_alloc ?_ _)); exact BK105.out) hb); have n2_ := Aside0.mk (below_step (by repeat (first | (with_reducible first | exact HB.out | apply below_alloc | apply pw_below_drewN | apply below_drew1 | refine below_set ?_ GE104.out | refine below_set ?_ GE105.out) | exact HB.out)) hb); have n3_ := Aside0.mk (hbox); have n4_ := Aside0.mk ((by rw [hg]; exact (below_size (by repeat (first | (with_reducible first | exact HB.out | apply below_alloc | apply pw_below_drewN | apply below_drew1 | refine below_set ?_ GE104.out | refine below_set ?_ GE105.out) | exact HB.out))) : w.heap.size ≤ gb106)); have n5_ := Aside0.mk ((by rw [hg]; exact (below_size (by repeat (first | (with_reducible first | exact HB.out | apply below_alloc | apply pw_below_drewN | apply below_drew1 | refine below_set ?_ GE104.out | refine below_set ?_ GE105.out) | exact HB.out))) : w.heap.size ≤ gb106)); have n6_ := Aside0.mk ((by rw [hg]; exact Nat.ne_of_lt (blk_lt (g := gb104) (o := .cells #[.int .i64 a0_0, .int .i64 a0_1] 23 (0, 0)) (by (with_reducible repeat (first | refine blk_drewN ?_ _ | refine blk_drew ?_ | refine blk_alloc ?_ _)); exact BK104.out)) : gb104 ≠ gb106)); have n7_ := Aside0.mk ((by rw [hg]; exact Nat.ne_of_gt (blk_lt (g := gb104) (o := .cells #[.int .i64 a0_0, .int .i64 a0_1] 23 (0, 0)) (by (with_reducible repeat (first | refine blk_drewN ?_ _ | refine blk_drew ?_ | refine blk_alloc ?_ _)); exact BK104.out)) : gb106 ≠ gb104)); have n8_ := Aside0.mk ((by rw [hg]; exact Nat.ne_of_lt (blk_lt (g := gb105) (o := .cells #[.int .i64 0, .int .i64 0] 23 (0, 0)) (by (with_reducible repeat (first | refine blk_drewN ?_ _ | refine blk_drew ?_ | refine blk_alloc ?_ _)); exact BK105.out)) : gb105 ≠ gb106)); have n9_ := Aside0.mk ((by rw [hg]; exact Nat.ne_of_gt (blk_lt (g := gb105) (o := .cells #[.int .i64 0, .int .i64 0] 23 (0, 0)) (by (with_reducible repeat (first | refine blk_drewN ?_ _ | refine blk_drew ?_ | refine blk_alloc ?_ _)); exact BK105.out)) : gb106 ≠ gb105)); clear BK104; clear BK105; clear HB; have BK104 := n0_; have BK105 := n1_; have HB := n2_; have BK106 := n3_; have GW106 := n4_; have GE106 := n5_; have NB104_106 := n6_; have NB106_104 := n7_; have NB105_106 := n8_; have NB106_105 := n9_; clear n0_ n1_ n2_ n3_ n4_ n5_ n6_ n7_ n8_ n9_; clear hb hbox hg))
  (try simp only [Act.put, List.setIfInBounds_toArray, List.set_cons_zero, List.set_cons_succ])
  go_cut [18] (fun v18 wc => ∃ (kq : Nat) (x18_2 : Bool), v18 = .bool x18_2 ∧ Aside0 (lift_Home.j0 kq a1 x18_2 a0_0 a0_1 = some (r1, r2, r3, r4, r5)) ∧ Aside0 (kq ≤ k) ∧ Aside0 (wc.heap[gb104]? = some (.cells #[.int .i64 a0_0, .int .i64 a0_1] 23 (0, 0))) ∧ Aside0 (wc.heap[gb105]? = some (.cells #[.int .i64 0, .int .i64 0] 23 (0, 0))) ∧ Aside0 (wc.heap[gb106]? = some (.cells #[.int .i64 0, .int .i64 0] 52 (0, 0))) ∧ Aside0 (Below w.heap.size w wc))
  case first =>
    have H := HC3.out
    clear HC3
    replace H := Option.bind_eq_some_iff.mp H
    obtain ⟨t107, A70, H⟩ := H
    replace H : (if t107 = true then ((lift_can.f a0_0 a0_1).bind fun t108 => (lift_Home.j0 k a1 (!t108) a0_0 a0_1)) else (lift_Home.j0 k a1 true a0_0 a0_1)) = some (r1, r2, r3, r4, r5) := H
    have A7 := Aside0.mk A70
    clear A70
    by_cases c8 : t107 = true
    · subst c8
      have H1 : ((lift_can.f a0_0 a0_1).bind fun t108 => (lift_Home.j0 k a1 (!t108) a0_0 a0_1)) = some (r1, r2, r3, r4, r5) := by rw [if_pos rfl] at H; exact H
      clear H
      have H := H1
      clear H1
      replace H := Option.bind_eq_some_iff.mp H
      obtain ⟨t108, A90, H⟩ := H
      replace H : (lift_Home.j0 k a1 (!t108) a0_0 a0_1) = some (r1, r2, r3, r4, r5) := H
      have A9 := Aside0.mk A90
      clear A90
      have H' := Aside0.mk H
      clear H
      go_wp2_with (first | ((with_reducible refine gate_callee (f := 35) rfl ?_); refine goesL_ (some 12) rfl rfl Try.func35 (by kernel_rfl) rfl #[.int .i64 a1] rfl (by (try simp only [List.map_toArray, List.map_cons, List.map_nil]); first | done | rfl | (simp only [List.length_drop, List.length_take]; rfl)) ?_; (with_reducible refine (lift_torus.calls a1 true _ A7.out).mono ?_); rintro e w' ⟨rfl, ⟨nd, rfl⟩⟩; refine ⟨_, rfl, ?_⟩; have hnb10 := NB104_105.out; have hnc10 := NB105_104.out; have hnb11 := NB104_106.out; have hnc11 := NB106_104.out; have hcz12_0 : w6.cell? ⟨gb104, 0, none⟩ = some (.int .i64 a0_0) := (blk_cell BK104.out 0).trans rfl; have hcz12_1 : w6.cell? ⟨gb104, 1, none⟩ = some (.int .i64 a0_1) := (blk_cell BK104.out 1).trans rfl; have hfz12_0 := blk_frozen BK104.out 0; have hfz12_1 := blk_frozen BK104.out 1) | (go_at_call 36; (with_reducible refine (lift_can.calls a0_0 a0_1 t108 _ A9.out).mono ?_); rintro e w13 ⟨rfl, hb⟩; have n0_ := Aside0.mk (blk_below (g := gb104) (o := .cells #[.int .i64 a0_0, .int .i64 a0_1] 23 (0, 0)) (by (with_reducible repeat (first | refine blk_drewN ?_ _ | refine blk_drew ?_ | refine blk_alloc ?_ _)); exact BK104.out) hb); have n1_ := Aside0.mk (blk_below (g := gb105) (o := .cells #[.int .i64 0, .int .i64 0] 23 (0, 0)) (by (with_reducible repeat (first | refine blk_drewN ?_ _ | refine blk_drew ?_ | refine blk_alloc ?_ _)); exact BK105.out) hb); have n2_ := Aside0.mk (blk_below (g := gb106) (o := .cells #[.int .i64 0, .int .i64 0] 52 (0, 0)) (by (with_reducible repeat (first | refine blk_drewN ?_ _ | refine blk_drew ?_ | refine blk_alloc ?_ _)); exact BK106.out) hb); have n3_ := Aside0.mk (below_step (by repeat (first | (with_reducible first | exact HB.out | apply below_alloc | apply pw_below_drewN | apply below_drew1 | refine below_set ?_ GE104.out | refine below_set ?_ GE105.out | refine below_set ?_ GE106.out) | exact HB.out)) hb); clear BK104; clear BK105; clear BK106; clear HB; have BK104 := n0_; have BK105 := n1_; have BK106 := n2_; have HB := n3_; clear n0_ n1_ n2_ n3_; (try clear hb); (try clear hb2); (try clear hk); (try clear hi)))
      go_meet
      case rel => exact ⟨_, (!t108), (by first | rfl | (simp; done) | (simp [*]; done)), H', ⟨by first | omega | exact Nat.le_refl _⟩, ⟨by (with_reducible repeat (first | refine blk_drewN ?_ _ | refine blk_drew ?_ | refine blk_alloc ?_ _)); exact BK104.out⟩, ⟨by (with_reducible repeat (first | refine blk_drewN ?_ _ | refine blk_drew ?_ | refine blk_alloc ?_ _)); exact BK105.out⟩, ⟨by (with_reducible repeat (first | refine blk_drewN ?_ _ | refine blk_drew ?_ | refine blk_alloc ?_ _)); exact BK106.out⟩, ⟨by repeat (first | (with_reducible first | exact HB.out | apply below_alloc | apply pw_below_drewN | apply below_drew1 | refine below_set ?_ GE104.out | refine below_set ?_ GE105.out | refine below_set ?_ GE106.out) | exact HB.out)⟩⟩
    · replace c8 := Bool.eq_false_iff.mpr c8
      subst c8
      have H1 : (lift_Home.j0 k a1 true a0_0 a0_1) = some (r1, r2, r3, r4, r5) := by rw [if_neg (show ¬ (false = true) by decide)] at H; exact H
      clear H
      have H := H1
      clear H1
      have H' := Aside0.mk H
      clear H
      go_wp2_with (first | ((with_reducible refine gate_callee (f := 35) rfl ?_); refine goesL_ (some 12) rfl rfl Try.func35 (by kernel_rfl) rfl #[.int .i64 a1] rfl (by (try simp only [List.map_toArray, List.map_cons, List.map_nil]); first | done | rfl | (simp only [List.length_drop, List.length_take]; rfl)) ?_; (with_reducible refine (lift_torus.calls a1 false _ A7.out).mono ?_); rintro e w' ⟨rfl, ⟨nd, rfl⟩⟩; refine ⟨_, rfl, ?_⟩))
      go_meet
      case rel => exact ⟨_, (true), (by first | rfl | (simp; done) | (simp [*]; done)), H', ⟨by first | omega | exact Nat.le_refl _⟩, ⟨by (with_reducible repeat (first | refine blk_drewN ?_ _ | refine blk_drew ?_ | refine blk_alloc ?_ _)); exact BK104.out⟩, ⟨by (with_reducible repeat (first | refine blk_drewN ?_ _ | refine blk_drew ?_ | refine blk_alloc ?_ _)); exact BK105.out⟩, ⟨by (with_reducible repeat (first | refine blk_drewN ?_ _ | refine blk_drew ?_ | refine blk_alloc ?_ _)); exact BK106.out⟩, ⟨by repeat (first | (with_reducible first | exact HB.out | apply below_alloc | apply pw_below_drewN | apply below_drew1 | refine below_set ?_ GE104.out | refine below_set ?_ GE105.out | refine below_set ?_ GE106.out) | exact HB.out)⟩⟩
  case rest =>
    clear HC3
    try clear c1
    try clear c2
    try clear p2
    try clear c3
    try clear c8
    try clear c10
    try clear c11
    try clear hcz12_0
    try clear hcz12_1
    try clear hfz12_0
    try clear hfz12_1
    obtain ⟨kq, x18_2, rfl, HA, HJ2, BK104, BK105, BK106, HB⟩ := hcut
    cases kq with
    | zero => exact absurd HA.out (by simp [lift_Home.j0])
    | succ kj2 =>
      have H := HA.out
      clear HA
      simp only [lift_Home.j0] at H
      by_cases c14 : x18_2 = true
      · subst c14
        have H1 : (some (0, 0, 0, 0, false)) = some (r1, r2, r3, r4, r5) := by rw [if_pos rfl] at H; exact H
        clear H
        have H := H1
        clear H1
        simp only [Option.some.injEq, Prod.mk.injEq] at H
        obtain ⟨rfl, rfl, rfl, rfl, rfl⟩ := H
        have hnb15 := NB105_104.out
        have hnc15 := NB104_105.out
        have hnb16 := NB105_106.out
        have hnc16 := NB106_105.out
        have hcz17_0 : wc.cell? ⟨gb105, 0, none⟩ = some (.int .i64 0) := (blk_cell BK105.out 0).trans rfl
        have hcz17_1 : wc.cell? ⟨gb105, 1, none⟩ = some (.int .i64 0) := (blk_cell BK105.out 1).trans rfl
        have hfz17_0 := blk_frozen BK105.out 0
        have hfz17_1 := blk_frozen BK105.out 1
        have hnb18 := NB106_104.out
        have hnc18 := NB104_106.out
        have hcz19_0 : wc.cell? ⟨gb106, 0, none⟩ = some (.int .i64 0) := (blk_cell BK106.out 0).trans rfl
        have hcz19_1 : wc.cell? ⟨gb106, 1, none⟩ = some (.int .i64 0) := (blk_cell BK106.out 1).trans rfl
        have hfz19_0 := blk_frozen BK106.out 0
        have hfz19_1 := blk_frozen BK106.out 1
        go_wp2
        refine bodyPost_ret (results_list (rs := [.cell 4 23, .cell 5 52, .tmp 6]) rfl (by simp) (.cell gb105 23 #[.int .i64 0, .int .i64 0] (0, 0) _ rfl (by (with_reducible repeat (first | refine blk_drewN ?_ _ | refine blk_drew ?_ | refine blk_alloc ?_ _)); refine blk_far ?_ NB105_106.out _; (with_reducible repeat (first | refine blk_drewN ?_ _ | refine blk_drew ?_ | refine blk_alloc ?_ _)); refine blk_far ?_ NB105_106.out _; (with_reducible repeat (first | refine blk_drewN ?_ _ | refine blk_drew ?_ | refine blk_alloc ?_ _)); refine blk_put (cs := #[.int .i64 0, .int .i64 0]) ?_ 1 _ rfl; (with_reducible repeat (first | refine blk_drewN ?_ _ | refine blk_drew ?_ | refine blk_alloc ?_ _)); refine blk_put (cs := #[.int .i64 0, .int .i64 0]) ?_ 0 _ rfl; (with_reducible repeat (first | refine blk_drewN ?_ _ | refine blk_drew ?_ | refine blk_alloc ?_ _)); exact BK105.out) Try.underlying23 rfl (by kernel_rfl) (.cell gb106 52 #[.int .i64 0, .int .i64 0] (0, 0) _ rfl (by (with_reducible repeat (first | refine blk_drewN ?_ _ | refine blk_drew ?_ | refine blk_alloc ?_ _)); refine blk_put (cs := #[.int .i64 0, .int .i64 0]) ?_ 1 _ rfl; (with_reducible repeat (first | refine blk_drewN ?_ _ | refine blk_drew ?_ | refine blk_alloc ?_ _)); refine blk_put (cs := #[.int .i64 0, .int .i64 0]) ?_ 0 _ rfl; (with_reducible repeat (first | refine blk_drewN ?_ _ | refine blk_drew ?_ | refine blk_alloc ?_ _)); refine blk_far ?_ NB106_105.out _; (with_reducible repeat (first | refine blk_drewN ?_ _ | refine blk_drew ?_ | refine blk_alloc ?_ _)); refine blk_far ?_ NB106_105.out _; (with_reducible repeat (first | refine blk_drewN ?_ _ | refine blk_drew ?_ | refine blk_alloc ?_ _)); exact BK106.out) Try.underlying52 rfl (by kernel_rfl) (.tmp .nil)))) rfl ?_
        exact ⟨by first | rfl | (simp [errW_none, errW_some] <;> rfl) | (simp [*, errW_none, errW_some] <;> rfl), by repeat (first | (with_reducible first | exact HB.out | apply below_alloc | apply pw_below_drewN | apply below_drew1 | refine below_set ?_ GE104.out | refine below_set ?_ GE105.out | refine below_set ?_ GE106.out) | exact HB.out)⟩
      · replace c14 := Bool.eq_false_iff.mpr c14
        subst c14
        have H1 : ((lift_part.f a0_0 a1).bind fun bt109 => ((lift_part.f a0_1 a1).bind fun bt111 => (some (bt109.1, bt111.1, bt109.2, bt111.2, true)))) = some (r1, r2, r3, r4, r5) := by rw [if_neg (show ¬ (false = true) by decide)] at H; exact H
        clear H
        have H := H1
        clear H1
        replace H := Option.bind_eq_some_iff.mp H
        obtain ⟨⟨t109, t110⟩, A200, H⟩ := H
        replace H : ((lift_part.f a0_1 a1).bind fun bt111 => (some (t109, bt111.1, t110, bt111.2, true))) = some (r1, r2, r3, r4, r5) := H
        have A20 := Aside0.mk A200
        clear A200
        replace H := Option.bind_eq_some_iff.mp H
        obtain ⟨⟨t111, t112⟩, A210, H⟩ := H
        replace H : (some (t109, t111, t110, t112, true)) = some (r1, r2, r3, r4, r5) := H
        have A21 := Aside0.mk A210
        clear A210
        simp only [Option.some.injEq, Prod.mk.injEq] at H
        obtain ⟨rfl, rfl, rfl, rfl, rfl⟩ := H
        have hnb22 := NB104_105.out
        have hnc22 := NB105_104.out
        have hnb23 := NB104_106.out
        have hnc23 := NB106_104.out
        have hcz24_0 : wc.cell? ⟨gb104, 0, none⟩ = some (.int .i64 a0_0) := (blk_cell BK104.out 0).trans rfl
        have hcz24_1 : wc.cell? ⟨gb104, 1, none⟩ = some (.int .i64 a0_1) := (blk_cell BK104.out 1).trans rfl
        have hfz24_0 := blk_frozen BK104.out 0
        have hfz24_1 := blk_frozen BK104.out 1
        go_wp2_with (first | ((with_reducible refine gate_callee (f := 37) rfl ?_); refine goesL_ (some 25) rfl rfl Try.func37 (by kernel_rfl) rfl #[.int .i64 a0_0, .int .i64 a1] rfl (by (try simp only [List.map_toArray, List.map_cons, List.map_nil]); first | done | rfl | (simp only [List.length_drop, List.length_take]; rfl)) ?_; (with_reducible refine (lift_part.calls a0_0 a1 t109 t110 _ A20.out).mono ?_); rintro e w' ⟨rfl, ⟨nd, rfl⟩⟩; refine ⟨_, rfl, ?_⟩; (try (rw [drewN_self wc]; generalize hq_ : World.drewN wc _ = wc; have n0_ : Aside0 (wc.heap[gb104]? = some (.cells #[.int .i64 a0_0, .int .i64 a0_1] 23 (0, 0))) := ⟨by rw [← hq_]; exact (by (with_reducible repeat (first | refine blk_drewN ?_ _ | refine blk_drew ?_ | refine blk_alloc ?_ _)); exact BK104.out)⟩; have n1_ : Aside0 (wc.heap[gb105]? = some (.cells #[.int .i64 0, .int .i64 0] 23 (0, 0))) := ⟨by rw [← hq_]; exact (by (with_reducible repeat (first | refine blk_drewN ?_ _ | refine blk_drew ?_ | refine blk_alloc ?_ _)); exact BK105.out)⟩; have n2_ : Aside0 (wc.heap[gb106]? = some (.cells #[.int .i64 0, .int .i64 0] 52 (0, 0))) := ⟨by rw [← hq_]; exact (by (with_reducible repeat (first | refine blk_drewN ?_ _ | refine blk_drew ?_ | refine blk_alloc ?_ _)); exact BK106.out)⟩; have n3_ : Aside0 (Below w.heap.size w wc) := ⟨by rw [← hq_]; exact (by repeat (first | (with_reducible first | exact HB.out | apply below_alloc | apply pw_below_drewN | apply below_drew1 | refine below_set ?_ GE104.out | refine below_set ?_ GE105.out | refine below_set ?_ GE106.out) | exact HB.out))⟩; clear BK104 BK105 BK106 HB hq_; have BK104 := n0_; have BK105 := n1_; have BK106 := n2_; have HB := n3_; clear n0_ n1_ n2_ n3_; have hcz17_0 : wc.cell? ⟨gb105, 0, none⟩ = some (.int .i64 0) := (blk_cell BK105.out 0).trans rfl; have hcz17_1 : wc.cell? ⟨gb105, 1, none⟩ = some (.int .i64 0) := (blk_cell BK105.out 1).trans rfl; have hfz17_0 := blk_frozen BK105.out 0; have hfz17_1 := blk_frozen BK105.out 1; have hcz19_0 : wc.cell? ⟨gb106, 0, none⟩ = some (.int .i64 0) := (blk_cell BK106.out 0).trans rfl; have hcz19_1 : wc.cell? ⟨gb106, 1, none⟩ = some (.int .i64 0) := (blk_cell BK106.out 1).trans rfl; have hfz19_0 := blk_frozen BK106.out 0; have hfz19_1 := blk_frozen BK106.out 1; have hcz24_0 : wc.cell? ⟨gb104, 0, none⟩ = some (.int .i64 a0_0) := (blk_cell BK104.out 0).trans rfl; have hcz24_1 : wc.cell? ⟨gb104, 1, none⟩ = some (.int .i64 a0_1) := (blk_cell BK104.out 1).trans rfl; have hfz24_0 := blk_frozen BK104.out 0; have hfz24_1 := blk_frozen BK104.out 1))) | ((with_reducible refine gate_callee (f := 37) rfl ?_); refine goesL_ (some 32) rfl rfl Try.func37 (by kernel_rfl) rfl #[.int .i64 a0_1, .int .i64 a1] rfl (by (try simp only [List.map_toArray, List.map_cons, List.map_nil]); first | done | rfl | (simp only [List.length_drop, List.length_take]; rfl)) ?_; (with_reducible refine (lift_part.calls a0_1 a1 t111 t112 _ A21.out).mono ?_); rintro e w' ⟨rfl, ⟨nd, rfl⟩⟩; refine ⟨_, rfl, ?_⟩; (try (rw [drewN_self wc]; generalize hq_ : World.drewN wc _ = wc; have n0_ : Aside0 (wc.heap[gb104]? = some (.cells #[.int .i64 a0_0, .int .i64 a0_1] 23 (0, 0))) := ⟨by rw [← hq_]; exact (by (with_reducible repeat (first | refine blk_drewN ?_ _ | refine blk_drew ?_ | refine blk_alloc ?_ _)); exact BK104.out)⟩; have n1_ : Aside0 (wc.heap[gb105]? = some (.cells #[.int .i64 0, .int .i64 0] 23 (0, 0))) := ⟨by rw [← hq_]; exact (by (with_reducible repeat (first | refine blk_drewN ?_ _ | refine blk_drew ?_ | refine blk_alloc ?_ _)); exact BK105.out)⟩; have n2_ : Aside0 (wc.heap[gb106]? = some (.cells #[.int .i64 0, .int .i64 0] 52 (0, 0))) := ⟨by rw [← hq_]; exact (by (with_reducible repeat (first | refine blk_drewN ?_ _ | refine blk_drew ?_ | refine blk_alloc ?_ _)); exact BK106.out)⟩; have n3_ : Aside0 (Below w.heap.size w wc) := ⟨by rw [← hq_]; exact (by repeat (first | (with_reducible first | exact HB.out | apply below_alloc | apply pw_below_drewN | apply below_drew1 | refine below_set ?_ GE104.out | refine below_set ?_ GE105.out | refine below_set ?_ GE106.out) | exact HB.out))⟩; clear BK104 BK105 BK106 HB hq_; have BK104 := n0_; have BK105 := n1_; have BK106 := n2_; have HB := n3_; clear n0_ n1_ n2_ n3_; have hcz17_0 : wc.cell? ⟨gb105, 0, none⟩ = some (.int .i64 0) := (blk_cell BK105.out 0).trans rfl; have hcz17_1 : wc.cell? ⟨gb105, 1, none⟩ = some (.int .i64 0) := (blk_cell BK105.out 1).trans rfl; have hfz17_0 := blk_frozen BK105.out 0; have hfz17_1 := blk_frozen BK105.out 1; have hcz19_0 : wc.cell? ⟨gb106, 0, none⟩ = some (.int .i64 0) := (blk_cell BK106.out 0).trans rfl; have hcz19_1 : wc.cell? ⟨gb106, 1, none⟩ = some (.int .i64 0) := (blk_cell BK106.out 1).trans rfl; have hfz19_0 := blk_frozen BK106.out 0; have hfz19_1 := blk_frozen BK106.out 1; have hcz24_0 : wc.cell? ⟨gb104, 0, none⟩ = some (.int .i64 a0_0) := (blk_cell BK104.out 0).trans rfl; have hcz24_1 : wc.cell? ⟨gb104, 1, none⟩ = some (.int .i64 a0_1) := (blk_cell BK104.out 1).trans rfl; have hfz24_0 := blk_frozen BK104.out 0; have hfz24_1 := blk_frozen BK104.out 1)); have hnb25 := NB105_106.out; have hnc25 := NB106_105.out; have hcz26_0 : wc.cell? ⟨gb105, 0, none⟩ = some (.int .i64 0) := (blk_cell BK105.out 0).trans rfl; have hcz26_1 : wc.cell? ⟨gb105, 1, none⟩ = some (.int .i64 0) := (blk_cell BK105.out 1).trans rfl; have hfz26_0 := blk_frozen BK105.out 0; have hfz26_1 := blk_frozen BK105.out 1; have hcz27_0 : wc.cell? ⟨gb106, 0, none⟩ = some (.int .i64 0) := (blk_cell BK106.out 0).trans rfl; have hcz27_1 : wc.cell? ⟨gb106, 1, none⟩ = some (.int .i64 0) := (blk_cell BK106.out 1).trans rfl; have hfz27_0 := blk_frozen BK106.out 0; have hfz27_1 := blk_frozen BK106.out 1))
        refine bodyPost_ret (results_list (rs := [.cell 4 23, .cell 5 52, .tmp 6]) rfl (by simp) (.cell gb105 23 #[.int .i64 t109, .int .i64 t111] (0, 0) _ rfl (by (with_reducible repeat (first | refine blk_drewN ?_ _ | refine blk_drew ?_ | refine blk_alloc ?_ _)); refine blk_far ?_ NB105_106.out _; (with_reducible repeat (first | refine blk_drewN ?_ _ | refine blk_drew ?_ | refine blk_alloc ?_ _)); refine blk_far ?_ NB105_106.out _; (with_reducible repeat (first | refine blk_drewN ?_ _ | refine blk_drew ?_ | refine blk_alloc ?_ _)); refine blk_put (cs := #[.int .i64 t109, .int .i64 0]) ?_ 1 _ rfl; (with_reducible repeat (first | refine blk_drewN ?_ _ | refine blk_drew ?_ | refine blk_alloc ?_ _)); refine blk_put (cs := #[.int .i64 0, .int .i64 0]) ?_ 0 _ rfl; (with_reducible repeat (first | refine blk_drewN ?_ _ | refine blk_drew ?_ | refine blk_alloc ?_ _)); exact BK105.out) Try.underlying23 rfl (by kernel_rfl) (.cell gb106 52 #[.int .i64 t110, .int .i64 t112] (0, 0) _ rfl (by (with_reducible repeat (first | refine blk_drewN ?_ _ | refine blk_drew ?_ | refine blk_alloc ?_ _)); refine blk_put (cs := #[.int .i64 t110, .int .i64 0]) ?_ 1 _ rfl; (with_reducible repeat (first | refine blk_drewN ?_ _ | refine blk_drew ?_ | refine blk_alloc ?_ _)); refine blk_put (cs := #[.int .i64 0, .int .i64 0]) ?_ 0 _ rfl; (with_reducible repeat (first | refine blk_drewN ?_ _ | refine blk_drew ?_ | refine blk_alloc ?_ _)); refine blk_far ?_ NB106_105.out _; (with_reducible repeat (first | refine blk_drewN ?_ _ | refine blk_drew ?_ | refine blk_alloc ?_ _)); refine blk_far ?_ NB106_105.out _; (with_reducible repeat (first | refine blk_drewN ?_ _ | refine blk_drew ?_ | refine blk_alloc ?_ _)); exact BK106.out) Try.underlying52 rfl (by kernel_rfl) (.tmp .nil)))) rfl ?_
        exact ⟨by first | rfl | (simp [errW_none, errW_some] <;> rfl) | (simp [*, errW_none, errW_some] <;> rfl), by repeat (first | (with_reducible first | exact HB.out | apply below_alloc | apply pw_below_drewN | apply below_drew1 | refine below_set ?_ GE104.out | refine below_set ?_ GE105.out | refine below_set ?_ GE106.out) | exact HB.out)⟩

end Go.Proofs.Ytfangodjmppooaa.F
end

section
/- The grid's small functions, walked by hand. -/
namespace Go.Proofs.Ytfangodjmppooaa.Rd
open Go Go.RowKit Go.Proofs.YtfangodjmppooaaW.PrintWords Go.Proofs.YtfangodjmppooaaW.PrintLast Go.Proofs.YtfangodjmppooaaW.PrintMore Go.Proofs.Ytfangodjmppooaa.F
set_option linter.unusedVariables false
set_option linter.unusedSimpArgs false
def idx (n x y : Int) : Int := (x + n) % n * n + (y + n) % n
theorem w64s {x : Int} (h : -9000000000000000000 ≤ x ∧ x ≤ 9000000000000000000) : IntKind.i64.wrap x = x := by rw [IntKind.wrap_i64]; omega
theorem at_c (g : Nat) (n x y : Int) (w : World) (h1 : 1 ≤ n) (h2 : n ≤ 64) (hx : -n ≤ x) (hx2 : x ≤ 1000) (hy : -n ≤ y) (hy2 : y ≤ 1000) (hc : w.cell? ⟨g, 1, none⟩ = some (.int .i64 n)) :
    Calls Try.prog 22 #[.pointer (some ⟨g, 0, none⟩), .int .i64 x, .int .i64 y] w fun e w' => e = .returned (.int .i64 (idx n x y)) ∧ w' = w.drew := by
  have a1 : 0 ≤ (x + n) % n := Int.emod_nonneg _ (by omega)
  have a2 : (x + n) % n < n := Int.emod_lt_of_pos _ (by omega)
  have b1 : 0 ≤ (y + n) % n := Int.emod_nonneg _ (by omega)
  have b2 : (y + n) % n < n := Int.emod_lt_of_pos _ (by omega)
  have t1 : Int.tmod (x + n) n = (x + n) % n := Int.tmod_eq_emod_of_nonneg (by omega)
  have t2 : Int.tmod (y + n) n = (y + n) % n := Int.tmod_eq_emod_of_nonneg (by omega)
  have w1 : IntKind.i64.wrap (x + n) = x + n := w64s (by omega)
  have w2 : IntKind.i64.wrap (y + n) = y + n := w64s (by omega)
  obtain ⟨r, hr⟩ : ∃ r, (x + n) % n = r := ⟨_, rfl⟩
  obtain ⟨s, hs⟩ : ∃ s, (y + n) % n = s := ⟨_, rfl⟩
  unfold idx
  rw [hr] at a1 a2 t1 ⊢
  rw [hs] at b1 b2 t2 ⊢
  have m1 : 0 ≤ r * n := Int.mul_nonneg a1 (by omega)
  have m2 : r * n ≤ 63 * 64 := Int.mul_le_mul (by omega) (by omega) (by omega) (by omega)
  have w3 : IntKind.i64.wrap (r * n) = r * n := w64s (by omega)
  have w4 : IntKind.i64.wrap (r * n + s) = r * n + s := w64s (by omega)
  have nz : (n == 0) = false := beq_eq_false_iff_ne.mpr (by omega)
  have nz2 : ¬ n = 0 := by omega
  clear a1 a2 b1 b2 m1 m2 hr hs
  go_enter Try.func22, Try.ntmps22
  go_wp2_with fail
  go_region
  go_wp2_with fail
  go_ret
  exact ⟨rfl, rfl⟩
set_option maxHeartbeats 4000000 in
/-- cell, where there is no grid. -/
theorem cell_nil (px py : Int) (w : World) : Calls Try.prog 19 #[.pointer none, .agg #[.int .i64 px, .int .i64 py]] w fun e w' => e = .returned (.tuple #[.int .i64 (-1), .int .i64 (-1), .bool false]) ∧ Below w.heap.size w w' := by
  have HB := Aside0.mk (below_alloc (Below.refl w.heap.size w) (.cells #[.int .i64 px, .int .i64 py] 23))
  go_enter Try.func19, Try.ntmps19
  go_wp2_with fail
  go_ret3
  exact ⟨rfl, HB.out⟩
theorem below_weaken2 {w0 W' : World} {n : Nat} (h : Below w0.heap.size w0 W') (hn : n ≤ w0.heap.size) : Below n w0 W' := below_then (Below.refl n w0) hn h
end Go.Proofs.Ytfangodjmppooaa.Rd
end

section
/- cell, where there is a grid (printed by gen_grid.py). -/
namespace Go.Proofs.Ytfangodjmppooaa.Rd
open Go Go.RowKit Go.Proofs.YtfangodjmppooaaW.PrintWords Go.Proofs.YtfangodjmppooaaW.PrintLast Go.Proofs.YtfangodjmppooaaW.PrintMore Go.Proofs.Ytfangodjmppooaa.F
set_option linter.unusedVariables false
set_option linter.unusedSimpArgs false
set_option maxHeartbeats 8000000 in
set_option maxRecDepth 100000 in
theorem cell_c (k g : Nat) (side n px py q1 q2 r1 r2 : Int) (ok : Bool) (w : World) (hg : g < w.heap.size) (hs1 : 1 ≤ side) (hn1 : 1 ≤ n) (hn2 : n ≤ 64) (hq1 : ok = true → 0 ≤ q1 ∧ q1 < side ∧ 0 ≤ q2 ∧ q2 < side ∧ side ≤ 100000000000) (hc0 : w.cell? ⟨g, 0, none⟩ = some (.int .i64 side)) (hc1 : w.cell? ⟨g, 1, none⟩ = some (.int .i64 n)) (h : lift_Home.f k px py side = some (q1, q2, r1, r2, ok)) :
    Calls Try.prog 19 #[.pointer (some ⟨g, 0, none⟩), .agg #[.int .i64 px, .int .i64 py]] w fun e w' => e = .returned (.tuple #[.int .i64 (if ok then q1 * n / side else -1), .int .i64 (if ok then q2 * n / side else -1), .bool ok]) ∧ Below w.heap.size w w' := by
  have HH := Aside0.mk h
  have HQ := Aside0.mk hq1
  clear h hq1
  go_enter Try.func19, Try.ntmps19
  go_wp2_with fail
  have HB := below_alloc (Below.refl w.heap.size w) (.cells #[.int .i64 px, .int .i64 py] 23)
  have HP := Aside0.mk (blk_new w (.cells #[.int .i64 px, .int .i64 py] 23))
  replace hc0 := (HB.cell (p := ⟨g, 0, none⟩) hg).trans hc0
  replace hc1 := (HB.cell (p := ⟨g, 1, none⟩) hg).trans hc1
  have hg0 : g < (w.alloc (.cells #[.int .i64 px, .int .i64 py] 23)).heap.size := by have := HB.size; omega
  have hsz := HB.size
  obtain ⟨b3, eb3⟩ : ∃ b, w.heap.size = b := ⟨_, rfl⟩
  rw [eb3] at HP ⊢
  generalize w.alloc (.cells #[.int .i64 px, .int .i64 py] 23) = w0 at HB HP hc0 hc1 hg0 hsz ⊢
  rename_i K0 hK0
  have FIN : ∀ (b7 b8 : Nat) (W' : World), Below w0.heap.size w0 W' → W'.heap[b7]? = some (.cells #[.int .i64 q1, .int .i64 q2] 23 (0, 0)) → K0 { tmps := #[.pointer (some ⟨g, 0, none⟩), .agg #[.int .i64 px, .int .i64 py], undef, .pointer (some ⟨b3, 0, none⟩), .int .i64 0, .int .i64 0, .bool false, .pointer (some ⟨b7, 0, none⟩), .pointer (some ⟨b8, 0, none⟩), .bool ok, .pointer (some ⟨g, 0, none⟩), .bool false, .tuple #[.agg #[.int .i64 q1, .int .i64 q2], .agg #[.int .i64 r1, .int .i64 r2], .bool ok], .agg #[.int .i64 px, .int .i64 py], .pointer (some ⟨g, 0, none⟩), .pointer (some ⟨g, 0, none⟩), .pointer (some ⟨g, 0, none⟩), .int .i64 side, .tuple #[.agg #[.int .i64 q1, .int .i64 q2], .agg #[.int .i64 r1, .int .i64 r2], .bool ok], .agg #[.int .i64 q1, .int .i64 q2], .agg #[.int .i64 r1, .int .i64 r2], .bool ok, undef, undef, undef, undef, undef, undef, undef, undef, undef, undef, undef, undef, undef, undef, undef, undef, undef, undef, undef, undef, undef, undef, undef, undef, undef, undef], defers := [] } W' := by
    intro b7 b8 W' hs hv
    refine hK0 _ _ ?_
    have z0 := (hs.cell (p := ⟨g, 0, none⟩) hg0).trans hc0
    have z1 := (hs.cell (p := ⟨g, 1, none⟩) hg0).trans hc1
    have HS := Aside0.mk (HB.trans (below_weaken2 hs hsz))
    have y0 := (blk_cell hv 0).trans rfl
    have y1 := (blk_cell hv 1).trans rfl
    clear hs hv hc0 hc1
    cases ok with
    | false =>
      go_wp2_with fail
      go_ret3
      exact ⟨rfl, by rw [← eb3]; exact HS.out⟩
    | true =>
      obtain ⟨p0, p1, p2, p3, p4⟩ := HQ.out rfl
      have m0 : 0 ≤ q1 * n := Int.mul_nonneg p0 (by omega)
      have m1 : q1 * n ≤ 100000000000 * 64 := Int.mul_le_mul (by omega) (by omega) (by omega) (by omega)
      have m2 : 0 ≤ q2 * n := Int.mul_nonneg p2 (by omega)
      have m3 : q2 * n ≤ 100000000000 * 64 := Int.mul_le_mul (by omega) (by omega) (by omega) (by omega)
      have t1 : Int.tdiv (q1 * n) side = q1 * n / side := Int.tdiv_eq_ediv_of_nonneg m0
      have t2 : Int.tdiv (q2 * n) side = q2 * n / side := Int.tdiv_eq_ediv_of_nonneg m2
      have d1 : 0 ≤ q1 * n / side := Int.ediv_nonneg m0 (by omega)
      have d2 : 0 ≤ q2 * n / side := Int.ediv_nonneg m2 (by omega)
      have d3 : q1 * n / side ≤ q1 * n := Int.ediv_le_self _ m0
      have d4 : q2 * n / side ≤ q2 * n := Int.ediv_le_self _ m2
      have w1 : IntKind.i64.wrap (q1 * n) = q1 * n := w64s (by omega)
      have w2 : IntKind.i64.wrap (q2 * n) = q2 * n := w64s (by omega)
      have w3 : IntKind.i64.wrap (q1 * n / side) = q1 * n / side := w64s (by omega)
      have w4 : IntKind.i64.wrap (q2 * n / side) = q2 * n / side := w64s (by omega)
      have nz : (side == 0) = false := beq_eq_false_iff_ne.mpr (by omega)
      have nz2 : ¬ side = 0 := by omega
      clear m0 m1 m2 m3 d1 d2 d3 d4 p0 p1 p2 p3 p4
      go_wp2_with fail
      go_quiet (fail)
      go_wp2_with fail
      go_ret3
      exact ⟨rfl, by rw [← eb3]; exact pw_below_drewN HS.out _⟩
  refine start_ (n := 15) (S := fun w' => Below w0.heap.size w0 w') (ds := []) #[false, false, false, false, false, false, false, false, false, false, false, false, false, false, false] (by kernel_rfl) rfl rfl (below_drew (Below.refl _ _)) (fun hHeld => ?_)
  refine take_ (i := 0) (N := some 13) (v := ?_) (a' := ?_) #[true, false, false, false, false, false, false, false, false, false, false, false, false, false, false] rfl rfl (by kernel_rfl) (fun _ _ _ h => h) (Or.inl ⟨by rfl, ?_⟩) hHeld ?_ ?_
  rotate_left
  · intro w' s0
    have z0 := (blk_cell (blk_below HP.out s0) 0).trans rfl
    have z1 := (blk_cell (blk_below HP.out s0) 1).trans rfl
    go_simp
    with_reducible rfl
  rotate_left
  · simp only [Act.put, List.setIfInBounds_toArray, List.set_cons_zero, List.set_cons_succ, i64_w, i32_w]
    rfl
  refine pure_ (i := 1) (N := some 14) (v := ?_) (a' := ?_) #[true, true, false, false, false, false, false, false, false, false, false, false, false, false, false] rfl rfl (by kernel_rfl) (fun _ _ _ h => h) (Or.inl ⟨by rfl, ?_⟩) ?_ ?_
  rotate_left
  · intro w'
    go_simp
    with_reducible rfl
  rotate_left
  · simp only [Act.put, List.setIfInBounds_toArray, List.set_cons_zero, List.set_cons_succ, i64_w, i32_w]
    rfl
  refine pure_ (i := 2) (N := some 15) (v := ?_) (a' := ?_) #[true, true, true, false, false, false, false, false, false, false, false, false, false, false, false] rfl rfl (by kernel_rfl) (fun _ _ _ h => h) (Or.inl ⟨by rfl, ?_⟩) ?_ ?_
  rotate_left
  · intro w'
    go_simp
    with_reducible rfl
  rotate_left
  · simp only [Act.put, List.setIfInBounds_toArray, List.set_cons_zero, List.set_cons_succ, i64_w, i32_w]
    rfl
  refine pure_ (i := 3) (N := some 16) (v := ?_) (a' := ?_) #[true, true, true, true, false, false, false, false, false, false, false, false, false, false, false] rfl rfl (by kernel_rfl) (fun _ _ _ h => h) (Or.inl ⟨by rfl, ?_⟩) ?_ ?_
  rotate_left
  · intro w'
    go_simp
    with_reducible rfl
  rotate_left
  · simp only [Act.put, List.setIfInBounds_toArray, List.set_cons_zero, List.set_cons_succ, i64_w, i32_w]
    rfl
  refine take_ (i := 4) (N := some 17) (v := ?_) (a' := ?_) #[true, true, true, true, true, false, false, false, false, false, false, false, false, false, false] rfl rfl (by kernel_rfl) (fun _ _ _ h => h) (Or.inl ⟨by rfl, ?_⟩) hHeld ?_ ?_
  rotate_left
  · intro w' s0
    have z0 := (s0.cell (p := ⟨g, 0, none⟩) hg0).trans hc0
    go_simp
    with_reducible rfl
  rotate_left
  · simp only [Act.put, List.setIfInBounds_toArray, List.set_cons_zero, List.set_cons_succ, i64_w, i32_w]
    rfl
  have s1 := hHeld
  clear hHeld
  generalize w0.drew = w1 at s1 ⊢
  refine wpAnyLast_ready (rs := [5, 10, 11]) (by kernel_rfl) (by simp) ?_
  refine AllReadyL.cons (i := 5) rfl (by decide) (fun K hK => ?_) ?_
  · refine goes_ Try.func28 (by kernel_rfl) rfl #[.agg #[.int .i64 px, .int .i64 py], .int .i64 side] (by rfl) rfl rfl (by (try simp only [List.map_toArray, List.map_cons, List.map_nil]); first | done | rfl) ?_
    with_reducible refine (lift_Home.calls k px py side q1 q2 r1 r2 ok _ HH.out).mono ?_
    rintro e w2 ⟨rfl, hb2⟩
    have s2 := below_then s1 s1.size hb2
    refine ⟨_, rfl, ?_⟩
    refine hK.out _ _ s2 (fun hHeld => ?_)
    clear hK K hHeld
    refine norm_ (a' := ?_) ?_ ?_
    rotate_left
    · show Act.put _ (some 18) _ = _
      simp only [Act.put, List.setIfInBounds_toArray, List.set_cons_zero, List.set_cons_succ, i64_w, i32_w]
      rfl
    refine pure_ (i := 6) (N := some 12) (v := ?_) (a' := ?_) #[true, true, true, true, true, true, true, false, false, false, false, false, false, false, false] rfl rfl (by kernel_rfl) (fun _ _ _ h => h) (Or.inl ⟨by rfl, ?_⟩) ?_ ?_
    rotate_left
    · intro w'
      go_simp
      with_reducible rfl
    rotate_left
    · simp only [Act.put, List.setIfInBounds_toArray, List.set_cons_zero, List.set_cons_succ, i64_w, i32_w]
      rfl
    refine pure_ (i := 7) (N := some 19) (v := ?_) (a' := ?_) #[true, true, true, true, true, true, true, true, false, false, false, false, false, false, false] rfl rfl (by kernel_rfl) (fun _ _ _ h => h) (Or.inl ⟨by rfl, ?_⟩) ?_ ?_
    rotate_left
    · intro w'
      go_simp
      with_reducible rfl
    rotate_left
    · simp only [Act.put, List.setIfInBounds_toArray, List.set_cons_zero, List.set_cons_succ, i64_w, i32_w]
      rfl
    refine pure_ (i := 8) (N := some 20) (v := ?_) (a' := ?_) #[true, true, true, true, true, true, true, true, true, false, false, false, false, false, false] rfl rfl (by kernel_rfl) (fun _ _ _ h => h) (Or.inl ⟨by rfl, ?_⟩) ?_ ?_
    rotate_left
    · intro w'
      go_simp
      with_reducible rfl
    rotate_left
    · simp only [Act.put, List.setIfInBounds_toArray, List.set_cons_zero, List.set_cons_succ, i64_w, i32_w]
      rfl
    refine pure_ (i := 9) (N := some 21) (v := ?_) (a' := ?_) #[true, true, true, true, true, true, true, true, true, true, false, false, false, false, false] rfl rfl (by kernel_rfl) (fun _ _ _ h => h) (Or.inl ⟨by rfl, ?_⟩) ?_ ?_
    rotate_left
    · intro w'
      go_simp
      with_reducible rfl
    rotate_left
    · simp only [Act.put, List.setIfInBounds_toArray, List.set_cons_zero, List.set_cons_succ, i64_w, i32_w]
      rfl
    refine wpAnyLast_ready (rs := [10, 11]) (by kernel_rfl) (by simp) ?_
    refine AllReadyL.cons (i := 10) rfl (by decide) (fun K hK => ?_) ?_
    · refine value_ (w1 := ?_) (v := ?_) (by rfl) rfl ?_ ?_
      rotate_left 2
      · go_simp
        constructor
        · rfl
        · rfl
      have s3 := below_then s2 s2.size (below_alloc (Below.refl w2.heap.size w2) (.cells #[.int .i64 0, .int .i64 0] 23))
      have hb3 := below_alloc (Below.refl w2.heap.size w2) (.cells #[.int .i64 0, .int .i64 0] 23)
      have v10 := blk_new w2 (.cells #[.int .i64 0, .int .i64 0] 23)
      refine hK.out _ _ s3 (fun hHeld => ?_)
      clear hK K hHeld
      refine norm_ (a' := ?_) ?_ ?_
      rotate_left
      · show Act.put _ (some 7) _ = _
        simp only [Act.put, List.setIfInBounds_toArray, List.set_cons_zero, List.set_cons_succ, i64_w, i32_w]
        rfl
      obtain ⟨b7, eb7⟩ : ∃ b, b = w2.heap.size := ⟨_, rfl⟩
      have lb7 : w0.heap.size ≤ b7 := by rw [eb7]; exact s2.size
      rw [← eb7] at v10 ⊢
      clear eb7
      generalize w2.alloc (.cells #[.int .i64 0, .int .i64 0] 23) = w3 at s3 hb3 v10 ⊢
      refine one_ (i := 11) (N := some 8) #[true, true, true, true, true, true, true, true, true, true, true, true, false, false, false] rfl rfl (by kernel_rfl) (by decide) (fun K hK => ?_)
      refine value_ (w1 := ?_) (v := ?_) (by rfl) rfl ?_ ?_
      rotate_left 2
      · go_simp
        constructor
        · rfl
        · rfl
      have s4 := below_then s3 s3.size (below_alloc (Below.refl w3.heap.size w3) (.cells #[.int .i64 0, .int .i64 0] 52))
      have hb4 := below_alloc (Below.refl w3.heap.size w3) (.cells #[.int .i64 0, .int .i64 0] 52)
      have v11 := blk_new w3 (.cells #[.int .i64 0, .int .i64 0] 52)
      refine hK.out _ _ s4 (fun hHeld => ?_)
      clear hK K hHeld
      refine norm_ (a' := ?_) ?_ ?_
      rotate_left
      · show Act.put _ (some 8) _ = _
        simp only [Act.put, List.setIfInBounds_toArray, List.set_cons_zero, List.set_cons_succ, i64_w, i32_w]
        rfl
      obtain ⟨b8, eb8⟩ : ∃ b, b = w3.heap.size := ⟨_, rfl⟩
      have lb8 : w0.heap.size ≤ b8 := by rw [eb8]; exact s3.size
      rw [← eb8] at v11 ⊢
      clear eb8
      generalize w3.alloc (.cells #[.int .i64 0, .int .i64 0] 52) = w4 at s4 hb4 v11 ⊢
      have V7 := (blk_below v10 hb4)
      have V8 := v11
      have c0 := (blk_cell V7 0).trans rfl
      have c1 := (blk_cell V7 1).trans rfl
      have f0 := blk_frozen V7 0
      have f1 := blk_frozen V7 1
      refine one_ (i := 12) (N := none) #[true, true, true, true, true, true, true, true, true, true, true, true, true, false, false] rfl rfl (by kernel_rfl) (by decide) (fun K hK => ?_)
      refine skip_ (w1 := ?_) (by rfl) rfl ?_ ?_
      rotate_left
      · go_simp
        rfl
      have s5 := below_set (j := 1) (v := .int .i64 q2) (below_set (j := 0) (v := .int .i64 q1) s4 lb7) lb7
      have V4 := blk_put (cs' := #[.int .i64 q1, .int .i64 q2]) (blk_put (cs' := #[.int .i64 q1, .int .i64 0]) V7 0 (.int .i64 q1) rfl) 1 (.int .i64 q2) rfl
      have O4 := blk_far (blk_far (p := ⟨b7, 0, none⟩) V8 (blk_ne V8 V7 (by decide)) (.int .i64 q1)) (p := ⟨b7, 1, none⟩) (blk_ne V8 V7 (by decide)) (.int .i64 q2)
      refine hK.out _ _ s5 (fun hHeld => ?_)
      clear hK K hHeld c0 c1 f0 f1
      generalize (w4.setCell ⟨b7, 0, none⟩ (.int .i64 q1)).setCell ⟨b7, 1, none⟩ (.int .i64 q2) = w5 at s5 V4 O4 ⊢
      have c0 := (blk_cell O4 0).trans rfl
      have c1 := (blk_cell O4 1).trans rfl
      have f0 := blk_frozen O4 0
      have f1 := blk_frozen O4 1
      refine one_ (i := 13) (N := none) #[true, true, true, true, true, true, true, true, true, true, true, true, true, true, false] rfl rfl (by kernel_rfl) (by decide) (fun K hK => ?_)
      refine skip_ (w1 := ?_) (by rfl) rfl ?_ ?_
      rotate_left
      · go_simp
        rfl
      have s6 := below_set (j := 1) (v := .int .i64 r2) (below_set (j := 0) (v := .int .i64 r1) s5 lb8) lb8
      have V5 := blk_put (cs' := #[.int .i64 r1, .int .i64 r2]) (blk_put (cs' := #[.int .i64 r1, .int .i64 0]) O4 0 (.int .i64 r1) rfl) 1 (.int .i64 r2) rfl
      have O5 := blk_far (blk_far (p := ⟨b8, 0, none⟩) V4 (blk_ne V4 O4 (by decide)) (.int .i64 r1)) (p := ⟨b8, 1, none⟩) (blk_ne V4 O4 (by decide)) (.int .i64 r2)
      refine hK.out _ _ s6 (fun hHeld => ?_)
      clear hK K hHeld c0 c1 f0 f1
      generalize (w5.setCell ⟨b8, 0, none⟩ (.int .i64 r1)).setCell ⟨b8, 1, none⟩ (.int .i64 r2) = w6 at s6 V5 O5 ⊢
      refine pure_ (i := 14) (N := some 9) (v := ?_) (a' := ?_) #[true, true, true, true, true, true, true, true, true, true, true, true, true, true, true] rfl rfl (by kernel_rfl) (fun _ _ _ h => h) (Or.inl ⟨by rfl, ?_⟩) ?_ ?_
      rotate_left
      · intro w'
        go_simp
        with_reducible rfl
      rotate_left
      · simp only [Act.put, List.setIfInBounds_toArray, List.set_cons_zero, List.set_cons_succ, i64_w, i32_w]
        rfl
      refine done_ (by kernel_rfl) ?_
      exact FIN b7 b8 _ s6 O5
    refine AllReadyL.cons (i := 11) rfl (by decide) (fun K hK => ?_) ?_
    · refine value_ (w1 := ?_) (v := ?_) (by rfl) rfl ?_ ?_
      rotate_left 2
      · go_simp
        constructor
        · rfl
        · rfl
      have s3 := below_then s2 s2.size (below_alloc (Below.refl w2.heap.size w2) (.cells #[.int .i64 0, .int .i64 0] 52))
      have hb3 := below_alloc (Below.refl w2.heap.size w2) (.cells #[.int .i64 0, .int .i64 0] 52)
      have v11 := blk_new w2 (.cells #[.int .i64 0, .int .i64 0] 52)
      refine hK.out _ _ s3 (fun hHeld => ?_)
      clear hK K hHeld
      refine norm_ (a' := ?_) ?_ ?_
      rotate_left
      · show Act.put _ (some 8) _ = _
        simp only [Act.put, List.setIfInBounds_toArray, List.set_cons_zero, List.set_cons_succ, i64_w, i32_w]
        rfl
      obtain ⟨b8, eb8⟩ : ∃ b, b = w2.heap.size := ⟨_, rfl⟩
      have lb8 : w0.heap.size ≤ b8 := by rw [eb8]; exact s2.size
      rw [← eb8] at v11 ⊢
      clear eb8
      generalize w2.alloc (.cells #[.int .i64 0, .int .i64 0] 52) = w3 at s3 hb3 v11 ⊢
      refine one_ (i := 10) (N := some 7) #[true, true, true, true, true, true, true, true, true, true, true, true, false, false, false] rfl rfl (by kernel_rfl) (by decide) (fun K hK => ?_)
      refine value_ (w1 := ?_) (v := ?_) (by rfl) rfl ?_ ?_
      rotate_left 2
      · go_simp
        constructor
        · rfl
        · rfl
      have s4 := below_then s3 s3.size (below_alloc (Below.refl w3.heap.size w3) (.cells #[.int .i64 0, .int .i64 0] 23))
      have hb4 := below_alloc (Below.refl w3.heap.size w3) (.cells #[.int .i64 0, .int .i64 0] 23)
      have v10 := blk_new w3 (.cells #[.int .i64 0, .int .i64 0] 23)
      refine hK.out _ _ s4 (fun hHeld => ?_)
      clear hK K hHeld
      refine norm_ (a' := ?_) ?_ ?_
      rotate_left
      · show Act.put _ (some 7) _ = _
        simp only [Act.put, List.setIfInBounds_toArray, List.set_cons_zero, List.set_cons_succ, i64_w, i32_w]
        rfl
      obtain ⟨b7, eb7⟩ : ∃ b, b = w3.heap.size := ⟨_, rfl⟩
      have lb7 : w0.heap.size ≤ b7 := by rw [eb7]; exact s3.size
      rw [← eb7] at v10 ⊢
      clear eb7
      generalize w3.alloc (.cells #[.int .i64 0, .int .i64 0] 23) = w4 at s4 hb4 v10 ⊢
      have V7 := v10
      have V8 := (blk_below v11 hb4)
      have c0 := (blk_cell V7 0).trans rfl
      have c1 := (blk_cell V7 1).trans rfl
      have f0 := blk_frozen V7 0
      have f1 := blk_frozen V7 1
      refine one_ (i := 12) (N := none) #[true, true, true, true, true, true, true, true, true, true, true, true, true, false, false] rfl rfl (by kernel_rfl) (by decide) (fun K hK => ?_)
      refine skip_ (w1 := ?_) (by rfl) rfl ?_ ?_
      rotate_left
      · go_simp
        rfl
      have s5 := below_set (j := 1) (v := .int .i64 q2) (below_set (j := 0) (v := .int .i64 q1) s4 lb7) lb7
      have V4 := blk_put (cs' := #[.int .i64 q1, .int .i64 q2]) (blk_put (cs' := #[.int .i64 q1, .int .i64 0]) V7 0 (.int .i64 q1) rfl) 1 (.int .i64 q2) rfl
      have O4 := blk_far (blk_far (p := ⟨b7, 0, none⟩) V8 (blk_ne V8 V7 (by decide)) (.int .i64 q1)) (p := ⟨b7, 1, none⟩) (blk_ne V8 V7 (by decide)) (.int .i64 q2)
      refine hK.out _ _ s5 (fun hHeld => ?_)
      clear hK K hHeld c0 c1 f0 f1
      generalize (w4.setCell ⟨b7, 0, none⟩ (.int .i64 q1)).setCell ⟨b7, 1, none⟩ (.int .i64 q2) = w5 at s5 V4 O4 ⊢
      have c0 := (blk_cell O4 0).trans rfl
      have c1 := (blk_cell O4 1).trans rfl
      have f0 := blk_frozen O4 0
      have f1 := blk_frozen O4 1
      refine one_ (i := 13) (N := none) #[true, true, true, true, true, true, true, true, true, true, true, true, true, true, false] rfl rfl (by kernel_rfl) (by decide) (fun K hK => ?_)
      refine skip_ (w1 := ?_) (by rfl) rfl ?_ ?_
      rotate_left
      · go_simp
        rfl
      have s6 := below_set (j := 1) (v := .int .i64 r2) (below_set (j := 0) (v := .int .i64 r1) s5 lb8) lb8
      have V5 := blk_put (cs' := #[.int .i64 r1, .int .i64 r2]) (blk_put (cs' := #[.int .i64 r1, .int .i64 0]) O4 0 (.int .i64 r1) rfl) 1 (.int .i64 r2) rfl
      have O5 := blk_far (blk_far (p := ⟨b8, 0, none⟩) V4 (blk_ne V4 O4 (by decide)) (.int .i64 r1)) (p := ⟨b8, 1, none⟩) (blk_ne V4 O4 (by decide)) (.int .i64 r2)
      refine hK.out _ _ s6 (fun hHeld => ?_)
      clear hK K hHeld c0 c1 f0 f1
      generalize (w5.setCell ⟨b8, 0, none⟩ (.int .i64 r1)).setCell ⟨b8, 1, none⟩ (.int .i64 r2) = w6 at s6 V5 O5 ⊢
      refine pure_ (i := 14) (N := some 9) (v := ?_) (a' := ?_) #[true, true, true, true, true, true, true, true, true, true, true, true, true, true, true] rfl rfl (by kernel_rfl) (fun _ _ _ h => h) (Or.inl ⟨by rfl, ?_⟩) ?_ ?_
      rotate_left
      · intro w'
        go_simp
        with_reducible rfl
      rotate_left
      · simp only [Act.put, List.setIfInBounds_toArray, List.set_cons_zero, List.set_cons_succ, i64_w, i32_w]
        rfl
      refine done_ (by kernel_rfl) ?_
      exact FIN b7 b8 _ s6 O5
    exact AllReadyL.nil
  refine AllReadyL.cons (i := 10) rfl (by decide) (fun K hK => ?_) ?_
  · refine value_ (w1 := ?_) (v := ?_) (by rfl) rfl ?_ ?_
    rotate_left 2
    · go_simp
      constructor
      · rfl
      · rfl
    have s2 := below_then s1 s1.size (below_alloc (Below.refl w1.heap.size w1) (.cells #[.int .i64 0, .int .i64 0] 23))
    have hb2 := below_alloc (Below.refl w1.heap.size w1) (.cells #[.int .i64 0, .int .i64 0] 23)
    have v10 := blk_new w1 (.cells #[.int .i64 0, .int .i64 0] 23)
    refine hK.out _ _ s2 (fun hHeld => ?_)
    clear hK K hHeld
    refine norm_ (a' := ?_) ?_ ?_
    rotate_left
    · show Act.put _ (some 7) _ = _
      simp only [Act.put, List.setIfInBounds_toArray, List.set_cons_zero, List.set_cons_succ, i64_w, i32_w]
      rfl
    obtain ⟨b7, eb7⟩ : ∃ b, b = w1.heap.size := ⟨_, rfl⟩
    have lb7 : w0.heap.size ≤ b7 := by rw [eb7]; exact s1.size
    rw [← eb7] at v10 ⊢
    clear eb7
    generalize w1.alloc (.cells #[.int .i64 0, .int .i64 0] 23) = w2 at s2 hb2 v10 ⊢
    refine wpAnyLast_ready (rs := [5, 11]) (by kernel_rfl) (by simp) ?_
    refine AllReadyL.cons (i := 5) rfl (by decide) (fun K hK => ?_) ?_
    · refine goes_ Try.func28 (by kernel_rfl) rfl #[.agg #[.int .i64 px, .int .i64 py], .int .i64 side] (by rfl) rfl rfl (by (try simp only [List.map_toArray, List.map_cons, List.map_nil]); first | done | rfl) ?_
      with_reducible refine (lift_Home.calls k px py side q1 q2 r1 r2 ok _ HH.out).mono ?_
      rintro e w3 ⟨rfl, hb3⟩
      have s3 := below_then s2 s2.size hb3
      refine ⟨_, rfl, ?_⟩
      refine hK.out _ _ s3 (fun hHeld => ?_)
      clear hK K hHeld
      refine norm_ (a' := ?_) ?_ ?_
      rotate_left
      · show Act.put _ (some 18) _ = _
        simp only [Act.put, List.setIfInBounds_toArray, List.set_cons_zero, List.set_cons_succ, i64_w, i32_w]
        rfl
      refine pure_ (i := 6) (N := some 12) (v := ?_) (a' := ?_) #[true, true, true, true, true, true, true, false, false, false, true, false, false, false, false] rfl rfl (by kernel_rfl) (fun _ _ _ h => h) (Or.inl ⟨by rfl, ?_⟩) ?_ ?_
      rotate_left
      · intro w'
        go_simp
        with_reducible rfl
      rotate_left
      · simp only [Act.put, List.setIfInBounds_toArray, List.set_cons_zero, List.set_cons_succ, i64_w, i32_w]
        rfl
      refine pure_ (i := 7) (N := some 19) (v := ?_) (a' := ?_) #[true, true, true, true, true, true, true, true, false, false, true, false, false, false, false] rfl rfl (by kernel_rfl) (fun _ _ _ h => h) (Or.inl ⟨by rfl, ?_⟩) ?_ ?_
      rotate_left
      · intro w'
        go_simp
        with_reducible rfl
      rotate_left
      · simp only [Act.put, List.setIfInBounds_toArray, List.set_cons_zero, List.set_cons_succ, i64_w, i32_w]
        rfl
      refine pure_ (i := 8) (N := some 20) (v := ?_) (a' := ?_) #[true, true, true, true, true, true, true, true, true, false, true, false, false, false, false] rfl rfl (by kernel_rfl) (fun _ _ _ h => h) (Or.inl ⟨by rfl, ?_⟩) ?_ ?_
      rotate_left
      · intro w'
        go_simp
        with_reducible rfl
      rotate_left
      · simp only [Act.put, List.setIfInBounds_toArray, List.set_cons_zero, List.set_cons_succ, i64_w, i32_w]
        rfl
      refine pure_ (i := 9) (N := some 21) (v := ?_) (a' := ?_) #[true, true, true, true, true, true, true, true, true, true, true, false, false, false, false] rfl rfl (by kernel_rfl) (fun _ _ _ h => h) (Or.inl ⟨by rfl, ?_⟩) ?_ ?_
      rotate_left
      · intro w'
        go_simp
        with_reducible rfl
      rotate_left
      · simp only [Act.put, List.setIfInBounds_toArray, List.set_cons_zero, List.set_cons_succ, i64_w, i32_w]
        rfl
      refine one_ (i := 11) (N := some 8) #[true, true, true, true, true, true, true, true, true, true, true, true, false, false, false] rfl rfl (by kernel_rfl) (by decide) (fun K hK => ?_)
      refine value_ (w1 := ?_) (v := ?_) (by rfl) rfl ?_ ?_
      rotate_left 2
      · go_simp
        constructor
        · rfl
        · rfl
      have s4 := below_then s3 s3.size (below_alloc (Below.refl w3.heap.size w3) (.cells #[.int .i64 0, .int .i64 0] 52))
      have hb4 := below_alloc (Below.refl w3.heap.size w3) (.cells #[.int .i64 0, .int .i64 0] 52)
      have v11 := blk_new w3 (.cells #[.int .i64 0, .int .i64 0] 52)
      refine hK.out _ _ s4 (fun hHeld => ?_)
      clear hK K hHeld
      refine norm_ (a' := ?_) ?_ ?_
      rotate_left
      · show Act.put _ (some 8) _ = _
        simp only [Act.put, List.setIfInBounds_toArray, List.set_cons_zero, List.set_cons_succ, i64_w, i32_w]
        rfl
      obtain ⟨b8, eb8⟩ : ∃ b, b = w3.heap.size := ⟨_, rfl⟩
      have lb8 : w0.heap.size ≤ b8 := by rw [eb8]; exact s3.size
      rw [← eb8] at v11 ⊢
      clear eb8
      generalize w3.alloc (.cells #[.int .i64 0, .int .i64 0] 52) = w4 at s4 hb4 v11 ⊢
      have V7 := (blk_below (blk_below v10 hb3) hb4)
      have V8 := v11
      have c0 := (blk_cell V7 0).trans rfl
      have c1 := (blk_cell V7 1).trans rfl
      have f0 := blk_frozen V7 0
      have f1 := blk_frozen V7 1
      refine one_ (i := 12) (N := none) #[true, true, true, true, true, true, true, true, true, true, true, true, true, false, false] rfl rfl (by kernel_rfl) (by decide) (fun K hK => ?_)
      refine skip_ (w1 := ?_) (by rfl) rfl ?_ ?_
      rotate_left
      · go_simp
        rfl
      have s5 := below_set (j := 1) (v := .int .i64 q2) (below_set (j := 0) (v := .int .i64 q1) s4 lb7) lb7
      have V4 := blk_put (cs' := #[.int .i64 q1, .int .i64 q2]) (blk_put (cs' := #[.int .i64 q1, .int .i64 0]) V7 0 (.int .i64 q1) rfl) 1 (.int .i64 q2) rfl
      have O4 := blk_far (blk_far (p := ⟨b7, 0, none⟩) V8 (blk_ne V8 V7 (by decide)) (.int .i64 q1)) (p := ⟨b7, 1, none⟩) (blk_ne V8 V7 (by decide)) (.int .i64 q2)
      refine hK.out _ _ s5 (fun hHeld => ?_)
      clear hK K hHeld c0 c1 f0 f1
      generalize (w4.setCell ⟨b7, 0, none⟩ (.int .i64 q1)).setCell ⟨b7, 1, none⟩ (.int .i64 q2) = w5 at s5 V4 O4 ⊢
      have c0 := (blk_cell O4 0).trans rfl
      have c1 := (blk_cell O4 1).trans rfl
      have f0 := blk_frozen O4 0
      have f1 := blk_frozen O4 1
      refine one_ (i := 13) (N := none) #[true, true, true, true, true, true, true, true, true, true, true, true, true, true, false] rfl rfl (by kernel_rfl) (by decide) (fun K hK => ?_)
      refine skip_ (w1 := ?_) (by rfl) rfl ?_ ?_
      rotate_left
      · go_simp
        rfl
      have s6 := below_set (j := 1) (v := .int .i64 r2) (below_set (j := 0) (v := .int .i64 r1) s5 lb8) lb8
      have V5 := blk_put (cs' := #[.int .i64 r1, .int .i64 r2]) (blk_put (cs' := #[.int .i64 r1, .int .i64 0]) O4 0 (.int .i64 r1) rfl) 1 (.int .i64 r2) rfl
      have O5 := blk_far (blk_far (p := ⟨b8, 0, none⟩) V4 (blk_ne V4 O4 (by decide)) (.int .i64 r1)) (p := ⟨b8, 1, none⟩) (blk_ne V4 O4 (by decide)) (.int .i64 r2)
      refine hK.out _ _ s6 (fun hHeld => ?_)
      clear hK K hHeld c0 c1 f0 f1
      generalize (w5.setCell ⟨b8, 0, none⟩ (.int .i64 r1)).setCell ⟨b8, 1, none⟩ (.int .i64 r2) = w6 at s6 V5 O5 ⊢
      refine pure_ (i := 14) (N := some 9) (v := ?_) (a' := ?_) #[true, true, true, true, true, true, true, true, true, true, true, true, true, true, true] rfl rfl (by kernel_rfl) (fun _ _ _ h => h) (Or.inl ⟨by rfl, ?_⟩) ?_ ?_
      rotate_left
      · intro w'
        go_simp
        with_reducible rfl
      rotate_left
      · simp only [Act.put, List.setIfInBounds_toArray, List.set_cons_zero, List.set_cons_succ, i64_w, i32_w]
        rfl
      refine done_ (by kernel_rfl) ?_
      exact FIN b7 b8 _ s6 O5
    refine AllReadyL.cons (i := 11) rfl (by decide) (fun K hK => ?_) ?_
    · refine value_ (w1 := ?_) (v := ?_) (by rfl) rfl ?_ ?_
      rotate_left 2
      · go_simp
        constructor
        · rfl
        · rfl
      have s3 := below_then s2 s2.size (below_alloc (Below.refl w2.heap.size w2) (.cells #[.int .i64 0, .int .i64 0] 52))
      have hb3 := below_alloc (Below.refl w2.heap.size w2) (.cells #[.int .i64 0, .int .i64 0] 52)
      have v11 := blk_new w2 (.cells #[.int .i64 0, .int .i64 0] 52)
      refine hK.out _ _ s3 (fun hHeld => ?_)
      clear hK K hHeld
      refine norm_ (a' := ?_) ?_ ?_
      rotate_left
      · show Act.put _ (some 8) _ = _
        simp only [Act.put, List.setIfInBounds_toArray, List.set_cons_zero, List.set_cons_succ, i64_w, i32_w]
        rfl
      obtain ⟨b8, eb8⟩ : ∃ b, b = w2.heap.size := ⟨_, rfl⟩
      have lb8 : w0.heap.size ≤ b8 := by rw [eb8]; exact s2.size
      rw [← eb8] at v11 ⊢
      clear eb8
      generalize w2.alloc (.cells #[.int .i64 0, .int .i64 0] 52) = w3 at s3 hb3 v11 ⊢
      refine one_ (i := 5) (N := some 18) #[true, true, true, true, true, true, false, false, false, false, true, true, false, false, false] rfl rfl (by kernel_rfl) (by decide) (fun K hK => ?_)
      refine goes_ Try.func28 (by kernel_rfl) rfl #[.agg #[.int .i64 px, .int .i64 py], .int .i64 side] (by rfl) rfl rfl (by (try simp only [List.map_toArray, List.map_cons, List.map_nil]); first | done | rfl) ?_
      with_reducible refine (lift_Home.calls k px py side q1 q2 r1 r2 ok _ HH.out).mono ?_
      rintro e w4 ⟨rfl, hb4⟩
      have s4 := below_then s3 s3.size hb4
      refine ⟨_, rfl, ?_⟩
      refine hK.out _ _ s4 (fun hHeld => ?_)
      clear hK K hHeld
      refine norm_ (a' := ?_) ?_ ?_
      rotate_left
      · show Act.put _ (some 18) _ = _
        simp only [Act.put, List.setIfInBounds_toArray, List.set_cons_zero, List.set_cons_succ, i64_w, i32_w]
        rfl
      refine pure_ (i := 6) (N := some 12) (v := ?_) (a' := ?_) #[true, true, true, true, true, true, true, false, false, false, true, true, false, false, false] rfl rfl (by kernel_rfl) (fun _ _ _ h => h) (Or.inl ⟨by rfl, ?_⟩) ?_ ?_
      rotate_left
      · intro w'
        go_simp
        with_reducible rfl
      rotate_left
      · simp only [Act.put, List.setIfInBounds_toArray, List.set_cons_zero, List.set_cons_succ, i64_w, i32_w]
        rfl
      refine pure_ (i := 7) (N := some 19) (v := ?_) (a' := ?_) #[true, true, true, true, true, true, true, true, false, false, true, true, false, false, false] rfl rfl (by kernel_rfl) (fun _ _ _ h => h) (Or.inl ⟨by rfl, ?_⟩) ?_ ?_
      rotate_left
      · intro w'
        go_simp
        with_reducible rfl
      rotate_left
      · simp only [Act.put, List.setIfInBounds_toArray, List.set_cons_zero, List.set_cons_succ, i64_w, i32_w]
        rfl
      refine pure_ (i := 8) (N := some 20) (v := ?_) (a' := ?_) #[true, true, true, true, true, true, true, true, true, false, true, true, false, false, false] rfl rfl (by kernel_rfl) (fun _ _ _ h => h) (Or.inl ⟨by rfl, ?_⟩) ?_ ?_
      rotate_left
      · intro w'
        go_simp
        with_reducible rfl
      rotate_left
      · simp only [Act.put, List.setIfInBounds_toArray, List.set_cons_zero, List.set_cons_succ, i64_w, i32_w]
        rfl
      refine pure_ (i := 9) (N := some 21) (v := ?_) (a' := ?_) #[true, true, true, true, true, true, true, true, true, true, true, true, false, false, false] rfl rfl (by kernel_rfl) (fun _ _ _ h => h) (Or.inl ⟨by rfl, ?_⟩) ?_ ?_
      rotate_left
      · intro w'
        go_simp
        with_reducible rfl
      rotate_left
      · simp only [Act.put, List.setIfInBounds_toArray, List.set_cons_zero, List.set_cons_succ, i64_w, i32_w]
        rfl
      have V7 := (blk_below (blk_below v10 hb3) hb4)
      have V8 := (blk_below v11 hb4)
      have c0 := (blk_cell V7 0).trans rfl
      have c1 := (blk_cell V7 1).trans rfl
      have f0 := blk_frozen V7 0
      have f1 := blk_frozen V7 1
      refine one_ (i := 12) (N := none) #[true, true, true, true, true, true, true, true, true, true, true, true, true, false, false] rfl rfl (by kernel_rfl) (by decide) (fun K hK => ?_)
      refine skip_ (w1 := ?_) (by rfl) rfl ?_ ?_
      rotate_left
      · go_simp
        rfl
      have s5 := below_set (j := 1) (v := .int .i64 q2) (below_set (j := 0) (v := .int .i64 q1) s4 lb7) lb7
      have V4 := blk_put (cs' := #[.int .i64 q1, .int .i64 q2]) (blk_put (cs' := #[.int .i64 q1, .int .i64 0]) V7 0 (.int .i64 q1) rfl) 1 (.int .i64 q2) rfl
      have O4 := blk_far (blk_far (p := ⟨b7, 0, none⟩) V8 (blk_ne V8 V7 (by decide)) (.int .i64 q1)) (p := ⟨b7, 1, none⟩) (blk_ne V8 V7 (by decide)) (.int .i64 q2)
      refine hK.out _ _ s5 (fun hHeld => ?_)
      clear hK K hHeld c0 c1 f0 f1
      generalize (w4.setCell ⟨b7, 0, none⟩ (.int .i64 q1)).setCell ⟨b7, 1, none⟩ (.int .i64 q2) = w5 at s5 V4 O4 ⊢
      have c0 := (blk_cell O4 0).trans rfl
      have c1 := (blk_cell O4 1).trans rfl
      have f0 := blk_frozen O4 0
      have f1 := blk_frozen O4 1
      refine one_ (i := 13) (N := none) #[true, true, true, true, true, true, true, true, true, true, true, true, true, true, false] rfl rfl (by kernel_rfl) (by decide) (fun K hK => ?_)
      refine skip_ (w1 := ?_) (by rfl) rfl ?_ ?_
      rotate_left
      · go_simp
        rfl
      have s6 := below_set (j := 1) (v := .int .i64 r2) (below_set (j := 0) (v := .int .i64 r1) s5 lb8) lb8
      have V5 := blk_put (cs' := #[.int .i64 r1, .int .i64 r2]) (blk_put (cs' := #[.int .i64 r1, .int .i64 0]) O4 0 (.int .i64 r1) rfl) 1 (.int .i64 r2) rfl
      have O5 := blk_far (blk_far (p := ⟨b8, 0, none⟩) V4 (blk_ne V4 O4 (by decide)) (.int .i64 r1)) (p := ⟨b8, 1, none⟩) (blk_ne V4 O4 (by decide)) (.int .i64 r2)
      refine hK.out _ _ s6 (fun hHeld => ?_)
      clear hK K hHeld c0 c1 f0 f1
      generalize (w5.setCell ⟨b8, 0, none⟩ (.int .i64 r1)).setCell ⟨b8, 1, none⟩ (.int .i64 r2) = w6 at s6 V5 O5 ⊢
      refine pure_ (i := 14) (N := some 9) (v := ?_) (a' := ?_) #[true, true, true, true, true, true, true, true, true, true, true, true, true, true, true] rfl rfl (by kernel_rfl) (fun _ _ _ h => h) (Or.inl ⟨by rfl, ?_⟩) ?_ ?_
      rotate_left
      · intro w'
        go_simp
        with_reducible rfl
      rotate_left
      · simp only [Act.put, List.setIfInBounds_toArray, List.set_cons_zero, List.set_cons_succ, i64_w, i32_w]
        rfl
      refine done_ (by kernel_rfl) ?_
      exact FIN b7 b8 _ s6 O5
    exact AllReadyL.nil
  refine AllReadyL.cons (i := 11) rfl (by decide) (fun K hK => ?_) ?_
  · refine value_ (w1 := ?_) (v := ?_) (by rfl) rfl ?_ ?_
    rotate_left 2
    · go_simp
      constructor
      · rfl
      · rfl
    have s2 := below_then s1 s1.size (below_alloc (Below.refl w1.heap.size w1) (.cells #[.int .i64 0, .int .i64 0] 52))
    have hb2 := below_alloc (Below.refl w1.heap.size w1) (.cells #[.int .i64 0, .int .i64 0] 52)
    have v11 := blk_new w1 (.cells #[.int .i64 0, .int .i64 0] 52)
    refine hK.out _ _ s2 (fun hHeld => ?_)
    clear hK K hHeld
    refine norm_ (a' := ?_) ?_ ?_
    rotate_left
    · show Act.put _ (some 8) _ = _
      simp only [Act.put, List.setIfInBounds_toArray, List.set_cons_zero, List.set_cons_succ, i64_w, i32_w]
      rfl
    obtain ⟨b8, eb8⟩ : ∃ b, b = w1.heap.size := ⟨_, rfl⟩
    have lb8 : w0.heap.size ≤ b8 := by rw [eb8]; exact s1.size
    rw [← eb8] at v11 ⊢
    clear eb8
    generalize w1.alloc (.cells #[.int .i64 0, .int .i64 0] 52) = w2 at s2 hb2 v11 ⊢
    refine wpAnyLast_ready (rs := [5, 10]) (by kernel_rfl) (by simp) ?_
    refine AllReadyL.cons (i := 5) rfl (by decide) (fun K hK => ?_) ?_
    · refine goes_ Try.func28 (by kernel_rfl) rfl #[.agg #[.int .i64 px, .int .i64 py], .int .i64 side] (by rfl) rfl rfl (by (try simp only [List.map_toArray, List.map_cons, List.map_nil]); first | done | rfl) ?_
      with_reducible refine (lift_Home.calls k px py side q1 q2 r1 r2 ok _ HH.out).mono ?_
      rintro e w3 ⟨rfl, hb3⟩
      have s3 := below_then s2 s2.size hb3
      refine ⟨_, rfl, ?_⟩
      refine hK.out _ _ s3 (fun hHeld => ?_)
      clear hK K hHeld
      refine norm_ (a' := ?_) ?_ ?_
      rotate_left
      · show Act.put _ (some 18) _ = _
        simp only [Act.put, List.setIfInBounds_toArray, List.set_cons_zero, List.set_cons_succ, i64_w, i32_w]
        rfl
      refine pure_ (i := 6) (N := some 12) (v := ?_) (a' := ?_) #[true, true, true, true, true, true, true, false, false, false, false, true, false, false, false] rfl rfl (by kernel_rfl) (fun _ _ _ h => h) (Or.inl ⟨by rfl, ?_⟩) ?_ ?_
      rotate_left
      · intro w'
        go_simp
        with_reducible rfl
      rotate_left
      · simp only [Act.put, List.setIfInBounds_toArray, List.set_cons_zero, List.set_cons_succ, i64_w, i32_w]
        rfl
      refine pure_ (i := 7) (N := some 19) (v := ?_) (a' := ?_) #[true, true, true, true, true, true, true, true, false, false, false, true, false, false, false] rfl rfl (by kernel_rfl) (fun _ _ _ h => h) (Or.inl ⟨by rfl, ?_⟩) ?_ ?_
      rotate_left
      · intro w'
        go_simp
        with_reducible rfl
      rotate_left
      · simp only [Act.put, List.setIfInBounds_toArray, List.set_cons_zero, List.set_cons_succ, i64_w, i32_w]
        rfl
      refine pure_ (i := 8) (N := some 20) (v := ?_) (a' := ?_) #[true, true, true, true, true, true, true, true, true, false, false, true, false, false, false] rfl rfl (by kernel_rfl) (fun _ _ _ h => h) (Or.inl ⟨by rfl, ?_⟩) ?_ ?_
      rotate_left
      · intro w'
        go_simp
        with_reducible rfl
      rotate_left
      · simp only [Act.put, List.setIfInBounds_toArray, List.set_cons_zero, List.set_cons_succ, i64_w, i32_w]
        rfl
      refine pure_ (i := 9) (N := some 21) (v := ?_) (a' := ?_) #[true, true, true, true, true, true, true, true, true, true, false, true, false, false, false] rfl rfl (by kernel_rfl) (fun _ _ _ h => h) (Or.inl ⟨by rfl, ?_⟩) ?_ ?_
      rotate_left
      · intro w'
        go_simp
        with_reducible rfl
      rotate_left
      · simp only [Act.put, List.setIfInBounds_toArray, List.set_cons_zero, List.set_cons_succ, i64_w, i32_w]
        rfl
      refine one_ (i := 10) (N := some 7) #[true, true, true, true, true, true, true, true, true, true, true, true, false, false, false] rfl rfl (by kernel_rfl) (by decide) (fun K hK => ?_)
      refine value_ (w1 := ?_) (v := ?_) (by rfl) rfl ?_ ?_
      rotate_left 2
      · go_simp
        constructor
        · rfl
        · rfl
      have s4 := below_then s3 s3.size (below_alloc (Below.refl w3.heap.size w3) (.cells #[.int .i64 0, .int .i64 0] 23))
      have hb4 := below_alloc (Below.refl w3.heap.size w3) (.cells #[.int .i64 0, .int .i64 0] 23)
      have v10 := blk_new w3 (.cells #[.int .i64 0, .int .i64 0] 23)
      refine hK.out _ _ s4 (fun hHeld => ?_)
      clear hK K hHeld
      refine norm_ (a' := ?_) ?_ ?_
      rotate_left
      · show Act.put _ (some 7) _ = _
        simp only [Act.put, List.setIfInBounds_toArray, List.set_cons_zero, List.set_cons_succ, i64_w, i32_w]
        rfl
      obtain ⟨b7, eb7⟩ : ∃ b, b = w3.heap.size := ⟨_, rfl⟩
      have lb7 : w0.heap.size ≤ b7 := by rw [eb7]; exact s3.size
      rw [← eb7] at v10 ⊢
      clear eb7
      generalize w3.alloc (.cells #[.int .i64 0, .int .i64 0] 23) = w4 at s4 hb4 v10 ⊢
      have V7 := v10
      have V8 := (blk_below (blk_below v11 hb3) hb4)
      have c0 := (blk_cell V7 0).trans rfl
      have c1 := (blk_cell V7 1).trans rfl
      have f0 := blk_frozen V7 0
      have f1 := blk_frozen V7 1
      refine one_ (i := 12) (N := none) #[true, true, true, true, true, true, true, true, true, true, true, true, true, false, false] rfl rfl (by kernel_rfl) (by decide) (fun K hK => ?_)
      refine skip_ (w1 := ?_) (by rfl) rfl ?_ ?_
      rotate_left
      · go_simp
        rfl
      have s5 := below_set (j := 1) (v := .int .i64 q2) (below_set (j := 0) (v := .int .i64 q1) s4 lb7) lb7
      have V4 := blk_put (cs' := #[.int .i64 q1, .int .i64 q2]) (blk_put (cs' := #[.int .i64 q1, .int .i64 0]) V7 0 (.int .i64 q1) rfl) 1 (.int .i64 q2) rfl
      have O4 := blk_far (blk_far (p := ⟨b7, 0, none⟩) V8 (blk_ne V8 V7 (by decide)) (.int .i64 q1)) (p := ⟨b7, 1, none⟩) (blk_ne V8 V7 (by decide)) (.int .i64 q2)
      refine hK.out _ _ s5 (fun hHeld => ?_)
      clear hK K hHeld c0 c1 f0 f1
      generalize (w4.setCell ⟨b7, 0, none⟩ (.int .i64 q1)).setCell ⟨b7, 1, none⟩ (.int .i64 q2) = w5 at s5 V4 O4 ⊢
      have c0 := (blk_cell O4 0).trans rfl
      have c1 := (blk_cell O4 1).trans rfl
      have f0 := blk_frozen O4 0
      have f1 := blk_frozen O4 1
      refine one_ (i := 13) (N := none) #[true, true, true, true, true, true, true, true, true, true, true, true, true, true, false] rfl rfl (by kernel_rfl) (by decide) (fun K hK => ?_)
      refine skip_ (w1 := ?_) (by rfl) rfl ?_ ?_
      rotate_left
      · go_simp
        rfl
      have s6 := below_set (j := 1) (v := .int .i64 r2) (below_set (j := 0) (v := .int .i64 r1) s5 lb8) lb8
      have V5 := blk_put (cs' := #[.int .i64 r1, .int .i64 r2]) (blk_put (cs' := #[.int .i64 r1, .int .i64 0]) O4 0 (.int .i64 r1) rfl) 1 (.int .i64 r2) rfl
      have O5 := blk_far (blk_far (p := ⟨b8, 0, none⟩) V4 (blk_ne V4 O4 (by decide)) (.int .i64 r1)) (p := ⟨b8, 1, none⟩) (blk_ne V4 O4 (by decide)) (.int .i64 r2)
      refine hK.out _ _ s6 (fun hHeld => ?_)
      clear hK K hHeld c0 c1 f0 f1
      generalize (w5.setCell ⟨b8, 0, none⟩ (.int .i64 r1)).setCell ⟨b8, 1, none⟩ (.int .i64 r2) = w6 at s6 V5 O5 ⊢
      refine pure_ (i := 14) (N := some 9) (v := ?_) (a' := ?_) #[true, true, true, true, true, true, true, true, true, true, true, true, true, true, true] rfl rfl (by kernel_rfl) (fun _ _ _ h => h) (Or.inl ⟨by rfl, ?_⟩) ?_ ?_
      rotate_left
      · intro w'
        go_simp
        with_reducible rfl
      rotate_left
      · simp only [Act.put, List.setIfInBounds_toArray, List.set_cons_zero, List.set_cons_succ, i64_w, i32_w]
        rfl
      refine done_ (by kernel_rfl) ?_
      exact FIN b7 b8 _ s6 O5
    refine AllReadyL.cons (i := 10) rfl (by decide) (fun K hK => ?_) ?_
    · refine value_ (w1 := ?_) (v := ?_) (by rfl) rfl ?_ ?_
      rotate_left 2
      · go_simp
        constructor
        · rfl
        · rfl
      have s3 := below_then s2 s2.size (below_alloc (Below.refl w2.heap.size w2) (.cells #[.int .i64 0, .int .i64 0] 23))
      have hb3 := below_alloc (Below.refl w2.heap.size w2) (.cells #[.int .i64 0, .int .i64 0] 23)
      have v10 := blk_new w2 (.cells #[.int .i64 0, .int .i64 0] 23)
      refine hK.out _ _ s3 (fun hHeld => ?_)
      clear hK K hHeld
      refine norm_ (a' := ?_) ?_ ?_
      rotate_left
      · show Act.put _ (some 7) _ = _
        simp only [Act.put, List.setIfInBounds_toArray, List.set_cons_zero, List.set_cons_succ, i64_w, i32_w]
        rfl
      obtain ⟨b7, eb7⟩ : ∃ b, b = w2.heap.size := ⟨_, rfl⟩
      have lb7 : w0.heap.size ≤ b7 := by rw [eb7]; exact s2.size
      rw [← eb7] at v10 ⊢
      clear eb7
      generalize w2.alloc (.cells #[.int .i64 0, .int .i64 0] 23) = w3 at s3 hb3 v10 ⊢
      refine one_ (i := 5) (N := some 18) #[true, true, true, true, true, true, false, false, false, false, true, true, false, false, false] rfl rfl (by kernel_rfl) (by decide) (fun K hK => ?_)
      refine goes_ Try.func28 (by kernel_rfl) rfl #[.agg #[.int .i64 px, .int .i64 py], .int .i64 side] (by rfl) rfl rfl (by (try simp only [List.map_toArray, List.map_cons, List.map_nil]); first | done | rfl) ?_
      with_reducible refine (lift_Home.calls k px py side q1 q2 r1 r2 ok _ HH.out).mono ?_
      rintro e w4 ⟨rfl, hb4⟩
      have s4 := below_then s3 s3.size hb4
      refine ⟨_, rfl, ?_⟩
      refine hK.out _ _ s4 (fun hHeld => ?_)
      clear hK K hHeld
      refine norm_ (a' := ?_) ?_ ?_
      rotate_left
      · show Act.put _ (some 18) _ = _
        simp only [Act.put, List.setIfInBounds_toArray, List.set_cons_zero, List.set_cons_succ, i64_w, i32_w]
        rfl
      refine pure_ (i := 6) (N := some 12) (v := ?_) (a' := ?_) #[true, true, true, true, true, true, true, false, false, false, true, true, false, false, false] rfl rfl (by kernel_rfl) (fun _ _ _ h => h) (Or.inl ⟨by rfl, ?_⟩) ?_ ?_
      rotate_left
      · intro w'
        go_simp
        with_reducible rfl
      rotate_left
      · simp only [Act.put, List.setIfInBounds_toArray, List.set_cons_zero, List.set_cons_succ, i64_w, i32_w]
        rfl
      refine pure_ (i := 7) (N := some 19) (v := ?_) (a' := ?_) #[true, true, true, true, true, true, true, true, false, false, true, true, false, false, false] rfl rfl (by kernel_rfl) (fun _ _ _ h => h) (Or.inl ⟨by rfl, ?_⟩) ?_ ?_
      rotate_left
      · intro w'
        go_simp
        with_reducible rfl
      rotate_left
      · simp only [Act.put, List.setIfInBounds_toArray, List.set_cons_zero, List.set_cons_succ, i64_w, i32_w]
        rfl
      refine pure_ (i := 8) (N := some 20) (v := ?_) (a' := ?_) #[true, true, true, true, true, true, true, true, true, false, true, true, false, false, false] rfl rfl (by kernel_rfl) (fun _ _ _ h => h) (Or.inl ⟨by rfl, ?_⟩) ?_ ?_
      rotate_left
      · intro w'
        go_simp
        with_reducible rfl
      rotate_left
      · simp only [Act.put, List.setIfInBounds_toArray, List.set_cons_zero, List.set_cons_succ, i64_w, i32_w]
        rfl
      refine pure_ (i := 9) (N := some 21) (v := ?_) (a' := ?_) #[true, true, true, true, true, true, true, true, true, true, true, true, false, false, false] rfl rfl (by kernel_rfl) (fun _ _ _ h => h) (Or.inl ⟨by rfl, ?_⟩) ?_ ?_
      rotate_left
      · intro w'
        go_simp
        with_reducible rfl
      rotate_left
      · simp only [Act.put, List.setIfInBounds_toArray, List.set_cons_zero, List.set_cons_succ, i64_w, i32_w]
        rfl
      have V7 := (blk_below v10 hb4)
      have V8 := (blk_below (blk_below v11 hb3) hb4)
      have c0 := (blk_cell V7 0).trans rfl
      have c1 := (blk_cell V7 1).trans rfl
      have f0 := blk_frozen V7 0
      have f1 := blk_frozen V7 1
      refine one_ (i := 12) (N := none) #[true, true, true, true, true, true, true, true, true, true, true, true, true, false, false] rfl rfl (by kernel_rfl) (by decide) (fun K hK => ?_)
      refine skip_ (w1 := ?_) (by rfl) rfl ?_ ?_
      rotate_left
      · go_simp
        rfl
      have s5 := below_set (j := 1) (v := .int .i64 q2) (below_set (j := 0) (v := .int .i64 q1) s4 lb7) lb7
      have V4 := blk_put (cs' := #[.int .i64 q1, .int .i64 q2]) (blk_put (cs' := #[.int .i64 q1, .int .i64 0]) V7 0 (.int .i64 q1) rfl) 1 (.int .i64 q2) rfl
      have O4 := blk_far (blk_far (p := ⟨b7, 0, none⟩) V8 (blk_ne V8 V7 (by decide)) (.int .i64 q1)) (p := ⟨b7, 1, none⟩) (blk_ne V8 V7 (by decide)) (.int .i64 q2)
      refine hK.out _ _ s5 (fun hHeld => ?_)
      clear hK K hHeld c0 c1 f0 f1
      generalize (w4.setCell ⟨b7, 0, none⟩ (.int .i64 q1)).setCell ⟨b7, 1, none⟩ (.int .i64 q2) = w5 at s5 V4 O4 ⊢
      have c0 := (blk_cell O4 0).trans rfl
      have c1 := (blk_cell O4 1).trans rfl
      have f0 := blk_frozen O4 0
      have f1 := blk_frozen O4 1
      refine one_ (i := 13) (N := none) #[true, true, true, true, true, true, true, true, true, true, true, true, true, true, false] rfl rfl (by kernel_rfl) (by decide) (fun K hK => ?_)
      refine skip_ (w1 := ?_) (by rfl) rfl ?_ ?_
      rotate_left
      · go_simp
        rfl
      have s6 := below_set (j := 1) (v := .int .i64 r2) (below_set (j := 0) (v := .int .i64 r1) s5 lb8) lb8
      have V5 := blk_put (cs' := #[.int .i64 r1, .int .i64 r2]) (blk_put (cs' := #[.int .i64 r1, .int .i64 0]) O4 0 (.int .i64 r1) rfl) 1 (.int .i64 r2) rfl
      have O5 := blk_far (blk_far (p := ⟨b8, 0, none⟩) V4 (blk_ne V4 O4 (by decide)) (.int .i64 r1)) (p := ⟨b8, 1, none⟩) (blk_ne V4 O4 (by decide)) (.int .i64 r2)
      refine hK.out _ _ s6 (fun hHeld => ?_)
      clear hK K hHeld c0 c1 f0 f1
      generalize (w5.setCell ⟨b8, 0, none⟩ (.int .i64 r1)).setCell ⟨b8, 1, none⟩ (.int .i64 r2) = w6 at s6 V5 O5 ⊢
      refine pure_ (i := 14) (N := some 9) (v := ?_) (a' := ?_) #[true, true, true, true, true, true, true, true, true, true, true, true, true, true, true] rfl rfl (by kernel_rfl) (fun _ _ _ h => h) (Or.inl ⟨by rfl, ?_⟩) ?_ ?_
      rotate_left
      · intro w'
        go_simp
        with_reducible rfl
      rotate_left
      · simp only [Act.put, List.setIfInBounds_toArray, List.set_cons_zero, List.set_cons_succ, i64_w, i32_w]
        rfl
      refine done_ (by kernel_rfl) ?_
      exact FIN b7 b8 _ s6 O5
    exact AllReadyL.nil
  exact AllReadyL.nil
end Go.Proofs.Ytfangodjmppooaa.Rd
end

section
/- New, Cell, Len, and Put, Drop where there is no grid. -/
namespace Go.Proofs.Ytfangodjmppooaa.Rd
open Go Go.RowKit Go.Proofs.YtfangodjmppooaaW.PrintWords Go.Proofs.YtfangodjmppooaaW.PrintLast Go.Proofs.YtfangodjmppooaaW.PrintMore Go.Proofs.Ytfangodjmppooaa.F
set_option linter.unusedVariables false
set_option linter.unusedSimpArgs false
theorem info57 : (Try.prog.info? 57).map (fun i => (i.zero, i.size, i.bytes)) = some (some (.slice none 0 0), 1, 24) := by kernel_rfl
def nils (m : Nat) : Array Value := madeCells #[.slice none 0 0] m
theorem make_c (m : Nat) (hm : m ≤ 4096) (w : World) : (Instr.makeSlice 46 (.int .i64 (m : Int)) (.int .i64 (m : Int))).run Try.prog w = .ok (.slice (some ⟨w.heap.size, 0, none⟩) m m) (w.alloc (.cells (nils m) 57)) := by
  obtain ⟨i0, hi, hz0, hz1, hz2⟩ := info_parts info57
  have hr := run_make (P := Try.prog) w 46 57 i0 (.slice none 0 0) Try.underlying46 hi hz0 .i64 .i64 (m : Int) (m : Int) (by omega) (by omega) (by rw [hz2]; omega) (by omega)
  simp only [Int.toNat_natCast] at hr
  rw [hz1] at hr
  rw [Nat.mul_one] at hr
  exact hr
set_option maxHeartbeats 4000000 in
theorem new_some (side n : Int) (m : Nat) (w : World) (h1 : 1 ≤ side) (h2 : side ≤ 17179869184) (h3 : 1 ≤ n) (h4 : n ≤ 64) (hm : (m : Int) = n * n) :
    Calls Try.prog 8 #[.int .i64 side, .int .i64 n] w fun e w' => e = .returned (.pointer (some ⟨w.heap.size + 1, 0, none⟩)) ∧ w' = (w.alloc (.cells (nils m) 57)).alloc (.cells #[.int .i64 side, .int .i64 n, .slice (some ⟨w.heap.size, 0, none⟩) m m, .int .i64 0] 48) := by
  have hb : n * n ≤ 64 * 64 := Int.mul_le_mul (by omega) (by omega) (by omega) (by omega)
  have hmk := make_c m (by omega) w
  have c1 : decide (side < 1) = false := decide_eq_false (by omega)
  have c2 : decide (17179869184 < side) = false := decide_eq_false (by omega)
  have c3 : decide (n < 1) = false := decide_eq_false (by omega)
  have c4 : decide (64 < n) = false := decide_eq_false (by omega)
  have wm : IntKind.i64.wrap (n * n) = (m : Int) := by rw [w64s (by omega)]; omega
  clear hm hb
  go_enter Try.func8, Try.ntmps8
  go_wp2_with fail
  go_ret
  exact ⟨rfl, rfl⟩
set_option maxHeartbeats 4000000 in
theorem new_none (side n : Int) (w : World) (h : ¬ (1 ≤ side ∧ side ≤ 17179869184 ∧ 1 ≤ n ∧ n ≤ 64)) :
    Calls Try.prog 8 #[.int .i64 side, .int .i64 n] w fun e w' => e = .returned (.pointer none) ∧ w' = w := by
  by_cases a1 : side < 1
  · have c1 : decide (side < 1) = true := decide_eq_true a1
    go_enter Try.func8, Try.ntmps8
    go_wp2_with fail
    go_ret
    exact ⟨rfl, rfl⟩
  have c1 : decide (side < 1) = false := decide_eq_false a1
  by_cases a2 : 17179869184 < side
  · have c2 : decide (17179869184 < side) = true := decide_eq_true a2
    go_enter Try.func8, Try.ntmps8
    go_wp2_with fail
    go_ret
    exact ⟨rfl, rfl⟩
  have c2 : decide (17179869184 < side) = false := decide_eq_false a2
  by_cases a3 : n < 1
  · have c3 : decide (n < 1) = true := decide_eq_true a3
    go_enter Try.func8, Try.ntmps8
    go_wp2_with fail
    go_ret
    exact ⟨rfl, rfl⟩
  have c3 : decide (n < 1) = false := decide_eq_false a3
  have c4 : decide (64 < n) = true := decide_eq_true (by omega)
  go_enter Try.func8, Try.ntmps8
  go_wp2_with fail
  go_ret
  exact ⟨rfl, rfl⟩
theorem len_nil (w : World) : Calls Try.prog 14 #[.pointer none] w fun e w' => e = .returned (.int .i64 0) ∧ w' = w := by
  go_enter Try.func14, Try.ntmps14
  go_wp2_with fail
  go_ret
  exact ⟨rfl, rfl⟩
theorem len_c (g : Nat) (m : Int) (w : World) (hc : w.cell? ⟨g, 3, none⟩ = some (.int .i64 m)) : Calls Try.prog 14 #[.pointer (some ⟨g, 0, none⟩)] w fun e w' => e = .returned (.int .i64 m) ∧ w' = w := by
  go_enter Try.func14, Try.ntmps14
  go_wp2_with fail
  go_ret
  exact ⟨rfl, rfl⟩
/-- What (*Grid).cell is known to do at this pointer and point. -/
def CellAt (v : Value) (px py x y : Int) (ok : Bool) (W : World) : Prop := ∀ w, Below W.heap.size W w → Calls Try.prog 19 #[v, .agg #[.int .i64 px, .int .i64 py]] w fun e w' => e = .returned (.tuple #[.int .i64 x, .int .i64 y, .bool ok]) ∧ Below w.heap.size w w'
theorem CellAt.nil (px py : Int) (W : World) : CellAt (.pointer none) px py (-1) (-1) false W := fun w _ => cell_nil px py w
theorem CellAt.step {v : Value} {px py x y : Int} {ok : Bool} {W W1 : World} (h : CellAt v px py x y ok W) (hb : Below W.heap.size W W1) : CellAt v px py x y ok W1 := fun w hw => h w (below_step hb hw)
theorem CellAt.grid (k g : Nat) (side n px py q1 q2 r1 r2 : Int) (ok : Bool) (W : World) (v : Value) (m : Int) (hs1 : 1 ≤ side) (hn1 : 1 ≤ n) (hn2 : n ≤ 64) (hq1 : ok = true → 0 ≤ q1 ∧ q1 < side ∧ 0 ≤ q2 ∧ q2 < side ∧ side ≤ 100000000000) (hg : W.heap[g]? = some (.cells #[.int .i64 side, .int .i64 n, v, .int .i64 m] 48 (0, 0))) (h : lift_Home.f k px py side = some (q1, q2, r1, r2, ok)) :
    CellAt (.pointer (some ⟨g, 0, none⟩)) px py (if ok then q1 * n / side else -1) (if ok then q2 * n / side else -1) ok W := fun w hw =>
  have hb := blk_below hg hw
  cell_c k g side n px py q1 q2 r1 r2 ok w (blk_lt hb) hs1 hn1 hn2 hq1 ((blk_cell hb 0).trans rfl) ((blk_cell hb 1).trans rfl) h
set_option maxHeartbeats 4000000 in
theorem Cell_at (v : Value) (px py x y : Int) (ok : Bool) (w : World) (h : CellAt v px py x y ok w) : Calls Try.prog 9 #[v, .agg #[.int .i64 px, .int .i64 py]] w fun e w' => e = .returned (.tuple #[.int .i64 x, .int .i64 y]) ∧ Below w.heap.size w w' := by
  have HB := Aside0.mk (below_alloc (Below.refl w.heap.size w) (.cells #[.int .i64 px, .int .i64 py] 23))
  have H := Aside0.mk (h _ HB.out)
  clear h
  go_enter Try.func9, Try.ntmps9
  go_wp2_with (first | (with_reducible go_at_call 19; with_reducible refine H.out.mono ?_; rintro e w2 ⟨rfl, hb⟩; have HB2 := Aside0.mk (below_step HB.out hb); clear hb) | fail)
  go_ret2
  exact ⟨rfl, HB2.out⟩
end Go.Proofs.Ytfangodjmppooaa.Rd
end

section
/- Near: the rings, one after the other, up to the first cell that is not empty. -/
namespace Go.Proofs.Ytfangodjmppooaa.Rd
open Go Go.RowKit Go.Proofs.YtfangodjmppooaaW.PrintWords Go.Proofs.YtfangodjmppooaaW.PrintLast Go.Proofs.YtfangodjmppooaaW.PrintMore Go.Proofs.Ytfangodjmppooaa.F
attribute [local go_sem] Oper.semAt_some
set_option linter.unusedVariables false
set_option linter.unusedSimpArgs false
/-- Whatever is cells lies as it lay. -/
def CK (W W' : World) : Prop := ∀ (k : Nat) (cs : Array Value) (t : TypeId), W.heap[k]? = some (.cells cs t (0, 0)) → W'.heap[k]? = some (.cells cs t (0, 0))
theorem CK.refl (W : World) : CK W W := fun _ _ _ h => h
theorem CK.trans {A B C : World} (h : CK A B) (k : CK B C) : CK A C := fun i cs t hi => k i cs t (h i cs t hi)
theorem CK.below {W W' : World} (h : Below W.heap.size W W') : CK W W' := fun k cs t hk => blk_below hk h
theorem CK.drew (W : World) : CK W W.drew := fun _ _ _ h => h
theorem CK.grown {W W' : World} {row : Option Nat} (hg : W.grownBy W' row) (hr : ∀ r, row = some r → ∃ o : Obj, W.heap[r]? = some o ∧ o.isCells = false) : CK W W' := fun k cs t hk => blk_grown hk hg (fun e => by
  obtain ⟨o, h1, h2⟩ := hr k e.symm
  rw [hk] at h1
  cases h1
  cases h2)
abbrev mark (D : Nat) : Deferred := { target := .collected D, args := #[] }
theorem leaves_marks {P : Program} {fn : Func} {tmps : Array Value} {R : Ending → World → Prop} (n n0 : Nat) (ds : List Nat) : ∀ W : World, (∀ D, D ∈ ds → n0 ≤ D ∧ W.heap[D]? = some (.deferred (some []))) → ds.Nodup → n0 ≤ W.heap.size →
    (∀ W', Below n0 W W' → CK W W' → ∃ v, (results fn tmps).run P W' = .ok v W' ∧ R (.returned v) W') → LeavesInM Fence.wide n P fn tmps R (ds.map mark) .returning W := by
  induction ds with
  | nil => exact fun W _ _ _ h => h W (Below.refl _ _) (CK.refl _)
  | cons D ds ih =>
    intro W hD hn h0 h
    have hd := hD D List.mem_cons_self
    have hg := grownBy_putObj' W D (.deferred none)
    have hbl : Below n0 W (W.putObj D (.deferred none)) := (Below.refl n0 W).grown hg h0 (fun k e => by cases e; exact hd.1)
    refine ⟨by simp, .inl ⟨D, _, rfl, run_takeDeferred hd.2, ?_⟩⟩
    refine ih _ (fun D' hD' => ⟨(hD D' (List.mem_cons_of_mem _ hD')).1, ?_⟩) (List.nodup_cons.1 hn).2 (Nat.le_trans h0 hbl.size) (fun W' hb hc => h W' (hbl.trans hb) ((CK.grown hg (fun r e => by cases e; exact ⟨_, hd.2, rfl⟩)).trans hc))
    rw [World.putObj_heap_other (fun e => (List.nodup_cons.1 hn).1 (by subst e; exact hD'))]
    exact (hD D' (List.mem_cons_of_mem _ hD')).2
/-- slices.Min of this row is v. -/
def MinOk (h len c : Nat) (hc : Array Value) (v : Int) : Prop := ∀ W : World, W.heap[h]? = some (.cells hc 3 (0, 0)) → Calls Try.prog 23 #[.slice (some ⟨h, 0, none⟩) len c] W fun e W' => e = .returned (.int .i64 v) ∧ W' = W
def hit (n x y : Int) (mins : Nat → Option Int) (q : Int × Int) : Option Int := mins (idx n (x + Int.tmod q.1 n) (y + Int.tmod q.2 n)).toNat
/-- What Near answers. -/
def NearR (n x y : Int) (mins : Nat → Option Int) (r : Int) : Prop :=
  (∃ (f : Nat) (pre : List (Int × Int)) (p : Int × Int), (f : Int) ≤ n ∧ pre ++ [p] <+: ring f ∧ (∀ f' : Nat, f' < f → ∀ q ∈ ring f', hit n x y mins q = none) ∧ (∀ q ∈ pre, hit n x y mins q = none) ∧ hit n x y mins p = some r) ∨
  (r = -1 ∧ ∀ f : Nat, (f : Int) ≤ n → ∀ q ∈ ring f, hit n x y mins q = none)
structure NF (g b b2 b4 b5 b6 : Nat) (side n m x y : Int) (M : Nat) (cs : Array Value) (mins : Nat → Option Int) (W : World) : Prop where
  mk :: (out : W.heap[b2]? = some (.cells #[.pointer (some ⟨g, 0, none⟩)] 26 (0, 0)) ∧ W.heap[b4]? = some (.cells #[.int .i64 0] 3 (0, 0)) ∧ W.heap[b5]? = some (.cells #[.int .i64 x] 3 (0, 0)) ∧ W.heap[b6]? = some (.cells #[.int .i64 y] 3 (0, 0)) ∧
    W.heap[g]? = some (.cells #[.int .i64 side, .int .i64 n, .slice (some ⟨b, 0, none⟩) M M, .int .i64 m] 48 (0, 0)) ∧ W.heap[b]? = some (.cells cs 57 (0, 0)) ∧
    (∀ j v, mins j = some v → ∃ (h len c : Nat) (hc : Array Value), cs[j]? = some (.slice (some ⟨h, 0, none⟩) len c) ∧ 0 < len ∧ W.heap[h]? = some (.cells hc 3 (0, 0)) ∧ MinOk h len c hc v))
theorem NF.keep {g b b2 b4 b5 b6 : Nat} {side n m x y : Int} {M : Nat} {cs : Array Value} {mins : Nat → Option Int} {W W' : World} (h : NF g b b2 b4 b5 b6 side n m x y M cs mins W) (k : CK W W') : NF g b b2 b4 b5 b6 side n m x y M cs mins W' := by
  obtain ⟨a1, a2, a3, a4, a5, a6, a7⟩ := h.out
  refine ⟨k _ _ _ a1, k _ _ _ a2, k _ _ _ a3, k _ _ _ a4, k _ _ _ a5, k _ _ _ a6, fun j v hj => ?_⟩
  obtain ⟨h, len, c, hc, e1, e2, e3, e4⟩ := a7 j v hj
  exact ⟨h, len, c, hc, e1, e2, k _ _ _ e3, e4⟩
theorem NF.cells {g b b2 b4 b5 b6 : Nat} {side n m x y : Int} {M : Nat} {cs : Array Value} {mins : Nat → Option Int} {W : World} (h : NF g b b2 b4 b5 b6 side n m x y M cs mins W) :
    W.cell? ⟨b2, 0, none⟩ = some (.pointer (some ⟨g, 0, none⟩)) ∧ W.cell? ⟨b4, 0, none⟩ = some (.int .i64 0) ∧ W.frozen? ⟨b4, 0, none⟩ = false ∧ W.cell? ⟨b5, 0, none⟩ = some (.int .i64 x) ∧ W.cell? ⟨b6, 0, none⟩ = some (.int .i64 y) ∧ W.cell? ⟨g, 1, none⟩ = some (.int .i64 n) ∧ W.cell? ⟨g, 2, none⟩ = some (.slice (some ⟨b, 0, none⟩) M M) ∧ W.cell? ⟨g, 3, none⟩ = some (.int .i64 m) :=
  ⟨(blk_cell h.out.1 0).trans rfl, (blk_cell h.out.2.1 0).trans rfl, blk_frozen h.out.2.1 0, (blk_cell h.out.2.2.1 0).trans rfl, (blk_cell h.out.2.2.2.1 0).trans rfl, (blk_cell h.out.2.2.2.2.1 1).trans rfl, (blk_cell h.out.2.2.2.2.1 2).trans rfl, (blk_cell h.out.2.2.2.2.1 3).trans rfl⟩
theorem NF.start {g b : Nat} {side n m x y px py : Int} {M : Nat} {cs : Array Value} {mins : Nat → Option Int} {w w2 : World}
    (hb2 : Below (((w.alloc (.cells #[.pointer (some ⟨g, 0, none⟩)] 26)).alloc (.cells #[.int .i64 px, .int .i64 py] 23)).alloc (.cells #[.int .i64 0] 3)).heap.size (((w.alloc (.cells #[.pointer (some ⟨g, 0, none⟩)] 26)).alloc (.cells #[.int .i64 px, .int .i64 py] 23)).alloc (.cells #[.int .i64 0] 3)) w2)
    (hg : w.heap[g]? = some (.cells #[.int .i64 side, .int .i64 n, .slice (some ⟨b, 0, none⟩) M M, .int .i64 m] 48 (0, 0))) (hb : w.heap[b]? = some (.cells cs 57 (0, 0)))
    (hrows : ∀ j v, mins j = some v → ∃ (h len c : Nat) (hc : Array Value), cs[j]? = some (.slice (some ⟨h, 0, none⟩) len c) ∧ 0 < len ∧ w.heap[h]? = some (.cells hc 3 (0, 0)) ∧ MinOk h len c hc v) :
    NF g b w.heap.size (w.heap.size + 1 + 1) w2.heap.size (w2.heap.size + 1) side n m x y M cs mins ((w2.alloc (.cells #[.int .i64 x] 3)).alloc (.cells #[.int .i64 y] 3)) := by
  have s1 : (w.alloc (.cells #[.pointer (some ⟨g, 0, none⟩)] 26)).heap.size = w.heap.size + 1 := World.size_alloc _ _
  have s2 : ((w.alloc (.cells #[.pointer (some ⟨g, 0, none⟩)] 26)).alloc (.cells #[.int .i64 px, .int .i64 py] 23)).heap.size = w.heap.size + 1 + 1 := by rw [World.size_alloc, s1]
  have n4 := blk_new ((w.alloc (.cells #[.pointer (some ⟨g, 0, none⟩)] 26)).alloc (.cells #[.int .i64 px, .int .i64 py] 23)) (.cells #[.int .i64 0] 3)
  rw [s2] at n4
  have s3 : (w2.alloc (.cells #[.int .i64 x] 3)).heap.size = w2.heap.size + 1 := World.size_alloc _ _
  have n6 := blk_new (w2.alloc (.cells #[.int .i64 x] 3)) (.cells #[.int .i64 y] 3)
  rw [s3] at n6
  have up : ∀ {k : Nat} {o : Obj}, w.heap[k]? = some o → ((w2.alloc (.cells #[.int .i64 x] 3)).alloc (.cells #[.int .i64 y] 3)).heap[k]? = some o := fun h => blk_alloc (blk_alloc (blk_below (blk_alloc (blk_alloc (blk_alloc h _) _) _) hb2) _) _
  refine ⟨blk_alloc (blk_alloc (blk_below (blk_alloc (blk_alloc (blk_new w _) _) _) hb2) _) _, blk_alloc (blk_alloc (blk_below n4 hb2) _) _, blk_alloc (blk_new w2 _) _, n6, up hg, up hb, fun j v hj => ?_⟩
  obtain ⟨h, len, c, hc, e1, e2, e3, e4⟩ := hrows j v hj
  exact ⟨h, len, c, hc, e1, e2, up e3, e4⟩
theorem idx_bd {n x y : Int} (h1 : 1 ≤ n) : 0 ≤ idx n x y ∧ idx n x y < n * n := by
  have a1 : 0 ≤ (x + n) % n := Int.emod_nonneg _ (by omega)
  have a2 : (x + n) % n < n := Int.emod_lt_of_pos _ (by omega)
  have b1 : 0 ≤ (y + n) % n := Int.emod_nonneg _ (by omega)
  have b2 : (y + n) % n < n := Int.emod_lt_of_pos _ (by omega)
  unfold idx
  have m1 : 0 ≤ (x + n) % n * n := Int.mul_nonneg a1 (by omega)
  have m2 : (x + n) % n * n ≤ (n - 1) * n := Int.mul_le_mul_of_nonneg_right (by omega) (by omega)
  have m3 : (n - 1) * n = n * n - n := by rw [Int.sub_mul, Int.one_mul]
  exact ⟨by omega, by omega⟩
theorem tmod_bd {a n : Int} (h1 : 1 ≤ n) : -n < Int.tmod a n ∧ Int.tmod a n < n := by
  rcases Int.le_total 0 a with h | h
  · rw [Int.tmod_eq_emod_of_nonneg h]
    have := Int.emod_nonneg a (show n ≠ 0 by omega)
    have := Int.emod_lt_of_pos a (show 0 < n by omega)
    omega
  · have e : a = -(-a) := by omega
    rw [e, Int.neg_tmod, Int.tmod_eq_emod_of_nonneg (show 0 ≤ -a by omega)]
    have := Int.emod_nonneg (-a) (show n ≠ 0 by omega)
    have := Int.emod_lt_of_pos (-a) (show 0 < n by omega)
    omega
theorem about_c (f : Int) (w : World) : Calls Try.prog 21 #[.int .i64 f] w fun e w' => e = .returned (.func (.func 34) #[] #[.pointer (some ⟨w.heap.size, 0, none⟩)]) ∧ w' = w.alloc (.cells #[.int .i64 f] 3) := by
  have hmf : ∀ (fn : Fn) (first cap : Array Value) (w : World), (Instr.makeFunc fn first cap).run Try.prog w = .ok (.func fn first cap) w := fun _ _ _ _ => rfl
  go_enter Try.func21, Try.ntmps21
  go_wp2_with fail
  go_ret
  exact ⟨rfl, rfl⟩
end Go.Proofs.Ytfangodjmppooaa.Rd
end

section
/- Near, walked by hand (printed by gen_near.py). -/
namespace Go.Proofs.Ytfangodjmppooaa.Rd
open Go Go.RowKit Go.Shelf Go.Proofs.YtfangodjmppooaaW.PrintWords Go.Proofs.YtfangodjmppooaaW.PrintLast Go.Proofs.YtfangodjmppooaaW.PrintMore Go.Proofs.Ytfangodjmppooaa.F
attribute [local go_sem] Oper.semAt_some
set_option linter.unusedVariables false
set_option linter.unusedSimpArgs false
set_option maxHeartbeats 8000000 in
set_option maxRecDepth 100000 in
theorem near_c (g b M : Nat) (side n m px py x y : Int) (cs : Array Value) (mins : Nat → Option Int) (w : World) (H : CellAt (.pointer (some ⟨g, 0, none⟩)) px py x y true w) (h1 : 1 ≤ n) (h2 : n ≤ 64) (hx : 0 ≤ x) (hx2 : x ≤ 64) (hy : 0 ≤ y) (hy2 : y ≤ 64) (hM : (M : Int) = n * n) (hm : (m == 0) = false)
    (hg : w.heap[g]? = some (.cells #[.int .i64 side, .int .i64 n, .slice (some ⟨b, 0, none⟩) M M, .int .i64 m] 48 (0, 0))) (hb : w.heap[b]? = some (.cells cs 57 (0, 0)))
    (hrows : ∀ j v, mins j = some v → ∃ (h len c : Nat) (hc : Array Value), cs[j]? = some (.slice (some ⟨h, 0, none⟩) len c) ∧ 0 < len ∧ w.heap[h]? = some (.cells hc 3 (0, 0)) ∧ MinOk h len c hc v)
    (hnone : ∀ j, j < M → mins j = none → cs[j]? = some (.slice none 0 0)) :
    Calls Try.prog 12 #[.pointer (some ⟨g, 0, none⟩), .agg #[.int .i64 px, .int .i64 py]] w fun e w' => ∃ r, e = .returned (.int .i64 r) ∧ NearR n x y mins r ∧ Below w.heap.size w w' := by
  refine (callsIn_wide (n := 8)).1 ?_
  have HB := Aside0.mk (below_alloc (below_alloc (below_alloc (Below.refl w.heap.size w) (.cells #[.pointer (some ⟨g, 0, none⟩)] 26)) (.cells #[.int .i64 px, .int .i64 py] 23)) (.cells #[.int .i64 0] 3))
  have HH := Aside0.mk (H _ HB.out)
  have wn : IntKind.i64.wrap (n + 1) = n + 1 := w64s (by omega)
  clear H
  refine callsIn_of_wp_marks Try.func12 rfl trivial ?_ rfl
  simp only [Try.ntmps12, List.size_toArray, List.length_cons, List.length_nil, Nat.reduceAdd, Nat.reduceSub, Array.replicate_succ, Array.replicate_zero, List.push_toArray, List.append_toArray, List.nil_append, List.cons_append]
  gi_wp2_with (first | (refine ⟨trivial, ?_⟩; gi_at_call 19; refine (callsIn_wide.2 HH.out).mono ?_; rintro e w2 ⟨rfl, hb2⟩; have HB2 := Aside0.mk (below_alloc (below_alloc (below_step HB.out hb2) (.cells #[.int .i64 x] 3)) (.cells #[.int .i64 y] 3)); have HN := Aside0.mk (NF.start (x := x) (y := y) hb2 hg hb hrows); clear hb2; obtain ⟨k1, k2, k3, k4, k5, k6, k7, k8⟩ := HN.out.cells) | fail)
  clear HB HH k1 k2 k3 k4 k5 k6 k7 k8
  obtain ⟨b5, eb5⟩ : ∃ b, b = w2.heap.size := ⟨_, rfl⟩
  rw [← eb5] at HN ⊢
  clear eb5
  generalize (w2.alloc (.cells #[.int .i64 x] 3)).alloc (.cells #[.int .i64 y] 3) = W0 at HN HB2 ⊢
  refine wpIn_loop (fun a' W => ∃ (i : Nat) (ds : List Nat) (u8 u34 u35 u36 u37 u69 : Value), a' = { tmps := #[.pointer (some ⟨g, 0, none⟩), .agg #[.int .i64 px, .int .i64 py], .pointer (some ⟨w.heap.size, 0, none⟩), .pointer (some ⟨w.heap.size + 1, 0, none⟩), .pointer (some ⟨w.heap.size + 1 + 1, 0, none⟩), .pointer (some ⟨b5, 0, none⟩), .pointer (some ⟨b5 + 1, 0, none⟩), .bool true, u8, undef, undef, undef, .tuple #[.int .i64 x, .int .i64 y, .bool true], .pointer (some ⟨g, 0, none⟩), .agg #[.int .i64 px, .int .i64 py], .tuple #[.int .i64 x, .int .i64 y, .bool true], .int .i64 x, .int .i64 y, .bool true, .bool true, .bool false, .bool false, .pointer (some ⟨g, 0, none⟩), .pointer (some ⟨g, 0, none⟩), .pointer (some ⟨g, 3, none⟩), .int .i64 m, .bool false, .bool false, .pointer (some ⟨g, 0, none⟩), .pointer (some ⟨g, 0, none⟩), .pointer (some ⟨g, 1, none⟩), .int .i64 n, .int .i64 (n + 1), .int .i64 (i : Int), u34, u35, u36, u37, undef, undef, undef, undef, undef, undef, undef, undef, undef, undef, undef, undef, undef, undef, undef, undef, undef, undef, undef, undef, undef, undef, undef, undef, undef, undef, undef, undef, undef, undef, undef, u69], defers := ds.map mark } ∧ (i : Int) ≤ n + 1 ∧ NF g b w.heap.size (w.heap.size + 1 + 1) b5 (b5 + 1) side n m x y M cs mins W ∧ Below w.heap.size w W ∧ (∀ D, D ∈ ds → w.heap.size ≤ D ∧ W.heap[D]? = some (.deferred (some []))) ∧ ds.Nodup ∧ (∀ f' : Nat, f' < i → ∀ q ∈ ring f', hit n x y mins q = none))
    (fun a' _ => (n + 1 - intOf (a'.tmps.getD 33 undef)).toNat) ?start ?round
  case start => exact ⟨0, [], undef, undef, undef, undef, undef, undef, rfl, by omega, HN.out, HB2.out, (fun D hD => absurd hD List.not_mem_nil), List.nodup_nil, fun f' hf => absurd hf (Nat.not_lt_zero _)⟩
  case round =>
    clear HN HB2
    rintro a' W ⟨i, ds, u8, u34, u35, u36, u37, u69, rfl, hi, hNF, hBW, hDs, hnd, hpast⟩
    have HI := Aside0.mk hi
    have HP := Aside0.mk (And.intro hDs (And.intro hnd hpast))
    have HW := Aside0.mk (And.intro hNF hBW)
    clear hi hDs hnd hpast hNF hBW
    by_cases hlt : (i : Int) < n + 1
    · have hdec : decide ((i : Int) < n + 1) = true := decide_eq_true hlt
      gi_wp2_with (first | (refine ⟨trivial, ?_⟩; gi_at_call 21; refine (callsIn_wide.2 (about_c (i : Int) W)).mono ?_; rintro e w3 ⟨rfl, hw3⟩) | fail)
      clear hdec
      have hcell : (W.alloc (.cells #[.int .i64 (i : Int)] 3)).cell? ⟨W.heap.size, 0, none⟩ = some (.int .i64 (i : Int)) := (blk_cell (blk_new W _) 0).trans rfl
      have hs3 : (W.alloc (.cells #[.int .i64 (i : Int)] 3)).heap.size = W.heap.size + 1 := World.size_alloc _ _
      have hNF1 := HW.out.1.keep (CK.below (below_alloc (Below.refl W.heap.size W) (.cells #[.int .i64 (i : Int)] 3)))
      have hB1 := below_alloc HW.out.2 (.cells #[.int .i64 (i : Int)] 3)
      have hD1 : ∀ D, D ∈ ds → w.heap.size ≤ D ∧ (W.alloc (.cells #[.int .i64 (i : Int)] 3)).heap[D]? = some (.deferred (some [])) := fun D hD => ⟨(HP.out.1 D hD).1, blk_alloc (HP.out.1 D hD).2 _⟩
      have hlD : ∀ D, D ∈ ds → D < (W.alloc (.cells #[.int .i64 (i : Int)] 3)).heap.size := fun D hD => blk_lt (hD1 D hD).2
      obtain ⟨b7, e7⟩ : ∃ b, b = W.heap.size := ⟨_, rfl⟩
      rw [← e7] at hcell hs3 ⊢
      clear e7
      generalize W.alloc (.cells #[.int .i64 (i : Int)] 3) = W1 at hcell hs3 hNF1 hB1 hD1 hlD ⊢
      have hwW := hB1.size
      refine wpIn_rangeFunc_ownF (F := Fence.wide) (n := 8) rfl (by decide) (gf := 34) (lb := #[.pointer (some ⟨b7, 0, none⟩)]) rfl trivial (enters_of Try.func34 (by kernel_rfl) rfl)
        (about_stops Fence.wide (8 - 1) trivial rfl (by decide) b7 (b7 + 1) (Nat.lt_succ_self _) (i : Int) (by omega) (by omega) W1 (by omega) hcell) belowK_t (belowK_b (by omega)) (Below.refl _ _) (fun _ => rfl)
        (fun pre W' => (NF g b w.heap.size (w.heap.size + 1 + 1) b5 (b5 + 1) side n m x y M cs mins W' ∧ Below w.heap.size w W' ∧ (∀ D, D ∈ ds → w.heap.size ≤ D ∧ W'.heap[D]? = some (.deferred (some [])))) ∧ (∀ q ∈ pre, hit n x y mins q = none))
        (fun c pre W' => c = .ret ∧ ∃ (pre' : List (Int × Int)) (p : Int × Int) (r : Int), pre = pre' ++ [p] ∧ (∀ q ∈ pre', hit n x y mins q = none) ∧ hit n x y mins p = some r ∧ W'.heap[w.heap.size + 1 + 1]? = some (.cells #[.int .i64 r] 3 (0, 0)) ∧ Below w.heap.size w W' ∧ (∀ D, D ∈ ds → w.heap.size ≤ D ∧ W'.heap[D]? = some (.deferred (some []))))
        ?hI ?hIx ⟨⟨hNF1, hB1, hD1⟩, fun q hq => absurd hq List.not_mem_nil⟩ (fun x_ => { tmps := #[.pointer (some ⟨g, 0, none⟩), .agg #[.int .i64 px, .int .i64 py], .pointer (some ⟨w.heap.size, 0, none⟩), .pointer (some ⟨w.heap.size + 1, 0, none⟩), .pointer (some ⟨w.heap.size + 1 + 1, 0, none⟩), .pointer (some ⟨b5, 0, none⟩), .pointer (some ⟨b5 + 1, 0, none⟩), .bool true, .int .i64 (i : Int), .int .i64 x_.1, .int .i64 x_.2, undef, .tuple #[.int .i64 x, .int .i64 y, .bool true], .pointer (some ⟨g, 0, none⟩), .agg #[.int .i64 px, .int .i64 py], .tuple #[.int .i64 x, .int .i64 y, .bool true], .int .i64 x, .int .i64 y, .bool true, .bool true, .bool false, .bool false, .pointer (some ⟨g, 0, none⟩), .pointer (some ⟨g, 0, none⟩), .pointer (some ⟨g, 3, none⟩), .int .i64 m, .bool false, .bool false, .pointer (some ⟨g, 0, none⟩), .pointer (some ⟨g, 0, none⟩), .pointer (some ⟨g, 1, none⟩), .int .i64 n, .int .i64 (n + 1), .int .i64 (i : Int), .bool true, .int .i64 (i : Int), .int .i64 (i : Int), .func (.func 34) #[] #[.pointer (some ⟨b7, 0, none⟩)], .int .i64 x_.1, .int .i64 x_.2, undef, undef, undef, undef, undef, undef, undef, undef, undef, undef, undef, undef, undef, undef, undef, undef, undef, undef, undef, undef, undef, undef, undef, undef, undef, undef, undef, undef, undef, u69], defers := [] }) ?assign ?body ?done ?stop
      case hI =>
        intro s A B row hs hg hr
        exact ⟨⟨hs.1.1.keep (CK.grown hg (fun r e => (hr r e).2)), hs.1.2.1.grown hg hs.1.2.1.size (fun k e => Nat.le_trans hwW (hr k e).1), fun D hD => ⟨(hs.1.2.2 D hD).1, blk_grown (hs.1.2.2 D hD).2 hg (fun e => by have := (hr D e.symm).1; have := hlD D hD; omega)⟩⟩, hs.2⟩
      case hIx =>
        intro c s A B row hs hg hr
        obtain ⟨e0, pre', p, r, e1, e2, e3, e4, e5, e6⟩ := hs
        exact ⟨e0, pre', p, r, e1, e2, e3, CK.grown hg (fun r e => (hr r e).2) _ _ _ e4, e5.grown hg e5.size (fun k e => Nat.le_trans hwW (hr k e).1), fun D hD => ⟨(e6 D hD).1, blk_grown (e6 D hD).2 hg (fun e => by have := (hr D e.symm).1; have := hlD D hD; omega)⟩⟩
      case assign =>
        intro l x_ W' K hK
        gi_wp2
        exact hK
      case body =>
        rintro l pre x_ W3 ⟨⟨hNF, hB, hD⟩, hp⟩ hln
        obtain ⟨X1, hX1⟩ : ∃ X, X = x + Int.tmod x_.1 n := ⟨_, rfl⟩
        obtain ⟨Y1, hY1⟩ : ∃ Y, Y = y + Int.tmod x_.2 n := ⟨_, rfl⟩
        have tb1 := tmod_bd (a := x_.1) h1
        have tb2 := tmod_bd (a := x_.2) h1
        have wx : IntKind.i64.wrap (x + Int.tmod x_.1 n) = X1 := by rw [w64s (by omega), hX1]
        have wy : IntKind.i64.wrap (y + Int.tmod x_.2 n) = Y1 := by rw [w64s (by omega), hY1]
        have HX : Aside0 (-n ≤ X1 ∧ X1 ≤ 1000 ∧ -n ≤ Y1 ∧ Y1 ≤ 1000) := ⟨by omega⟩
        have ib := idx_bd (n := n) (x := X1) (y := Y1) h1
        obtain ⟨j, hj⟩ : ∃ j : Nat, idx n X1 Y1 = (j : Int) := ⟨(idx n X1 Y1).toNat, by omega⟩
        have hhit : hit n x y mins x_ = mins j := by unfold hit; rw [← hX1, ← hY1, hj, Int.toNat_natCast]
        have HJ := Aside0.mk hj
        have i0 : (0 : Int) ≤ (j : Int) := by omega
        have i1 : (j : Int) < (M : Int) := by omega
        have jM : j < M := by omega
        have nz : (n == 0) = false := beq_eq_false_iff_ne.mpr (by omega)
        have nz2 : ¬ n = 0 := by omega
        clear hX1 hY1 tb1 tb2 ib hj hM
        cases hmj : mins j with
        | none =>
          have hcj := hnone j jM hmj
          refine wpIn_block (wpIn_seq ?_)
          refine startR_ (n := 25) (S := fun w' => CK W3 w') (ds := []) (by rintro ⟨a_, w_, h_⟩; exact h_) (by kernel_rfl) #[false, false, false, false, false, false, false, false, false, false, false, false, false, false, false, false, false, false, false, false, false, false, false, false, false] (by kernel_rfl) rfl rfl (CK.drew _) (fun hHeld => ?_)
          refine take_ (i := 0) (N := some 40) (v := ?_) (a' := ?_) #[true, false, false, false, false, false, false, false, false, false, false, false, false, false, false, false, false, false, false, false, false, false, false, false, false] rfl rfl (by kernel_rfl) (fun _ _ _ h => h) (Or.inl ⟨by rfl, ?_⟩) hHeld ?_ ?_
          rotate_left
          · intro w' s0
            obtain ⟨k1, k2, k3, k4, k5, k6, k7, k8⟩ := (hNF.keep s0).cells
            go_simp
            with_reducible rfl
          rotate_left
          · simp only [Act.put, List.setIfInBounds_toArray, List.set_cons_zero, List.set_cons_succ, i64_w, i32_w]
            rfl
          refine pure_ (i := 1) (N := some 41) (v := ?_) (a' := ?_) #[true, true, false, false, false, false, false, false, false, false, false, false, false, false, false, false, false, false, false, false, false, false, false, false, false] rfl rfl (by kernel_rfl) (fun _ _ _ h => h) (Or.inl ⟨by rfl, ?_⟩) ?_ ?_
          rotate_left
          · intro w'
            go_simp
            with_reducible rfl
          rotate_left
          · simp only [Act.put, List.setIfInBounds_toArray, List.set_cons_zero, List.set_cons_succ, i64_w, i32_w]
            rfl
          refine pure_ (i := 2) (N := some 42) (v := ?_) (a' := ?_) #[true, true, true, false, false, false, false, false, false, false, false, false, false, false, false, false, false, false, false, false, false, false, false, false, false] rfl rfl (by kernel_rfl) (fun _ _ _ h => h) (Or.inl ⟨by rfl, ?_⟩) ?_ ?_
          rotate_left
          · intro w'
            go_simp
            with_reducible rfl
          rotate_left
          · simp only [Act.put, List.setIfInBounds_toArray, List.set_cons_zero, List.set_cons_succ, i64_w, i32_w]
            rfl
          refine take_ (i := 3) (N := some 43) (v := ?_) (a' := ?_) #[true, true, true, true, false, false, false, false, false, false, false, false, false, false, false, false, false, false, false, false, false, false, false, false, false] rfl rfl (by kernel_rfl) (fun _ _ _ h => h) (Or.inl ⟨by rfl, ?_⟩) hHeld ?_ ?_
          rotate_left
          · intro w' s0
            obtain ⟨k1, k2, k3, k4, k5, k6, k7, k8⟩ := (hNF.keep s0).cells
            go_simp
            with_reducible rfl
          rotate_left
          · simp only [Act.put, List.setIfInBounds_toArray, List.set_cons_zero, List.set_cons_succ, i64_w, i32_w]
            rfl
          refine take_ (i := 4) (N := some 44) (v := ?_) (a' := ?_) #[true, true, true, true, true, false, false, false, false, false, false, false, false, false, false, false, false, false, false, false, false, false, false, false, false] rfl rfl (by kernel_rfl) (fun _ _ _ h => h) (Or.inl ⟨by rfl, ?_⟩) hHeld ?_ ?_
          rotate_left
          · intro w' s0
            obtain ⟨k1, k2, k3, k4, k5, k6, k7, k8⟩ := (hNF.keep s0).cells
            go_simp
            with_reducible rfl
          rotate_left
          · simp only [Act.put, List.setIfInBounds_toArray, List.set_cons_zero, List.set_cons_succ, i64_w, i32_w]
            rfl
          refine take_ (i := 5) (N := some 45) (v := ?_) (a' := ?_) #[true, true, true, true, true, true, false, false, false, false, false, false, false, false, false, false, false, false, false, false, false, false, false, false, false] rfl rfl (by kernel_rfl) (fun _ _ _ h => h) (Or.inl ⟨by rfl, ?_⟩) hHeld ?_ ?_
          rotate_left
          · intro w' s0
            obtain ⟨k1, k2, k3, k4, k5, k6, k7, k8⟩ := (hNF.keep s0).cells
            go_simp
            with_reducible rfl
          rotate_left
          · simp only [Act.put, List.setIfInBounds_toArray, List.set_cons_zero, List.set_cons_succ, i64_w, i32_w]
            rfl
          refine pure_ (i := 6) (N := some 46) (v := ?_) (a' := ?_) #[true, true, true, true, true, true, true, false, false, false, false, false, false, false, false, false, false, false, false, false, false, false, false, false, false] rfl rfl (by kernel_rfl) (fun _ _ _ h => h) (Or.inl ⟨by rfl, ?_⟩) ?_ ?_
          rotate_left
          · intro w'
            go_simp
            with_reducible rfl
          rotate_left
          · simp only [Act.put, List.setIfInBounds_toArray, List.set_cons_zero, List.set_cons_succ, i64_w, i32_w]
            rfl
          refine take_ (i := 7) (N := some 47) (v := ?_) (a' := ?_) #[true, true, true, true, true, true, true, true, false, false, false, false, false, false, false, false, false, false, false, false, false, false, false, false, false] rfl rfl (by kernel_rfl) (fun _ _ _ h => h) (Or.inl ⟨by rfl, ?_⟩) hHeld ?_ ?_
          rotate_left
          · intro w' s0
            obtain ⟨k1, k2, k3, k4, k5, k6, k7, k8⟩ := (hNF.keep s0).cells
            go_simp
            with_reducible rfl
          rotate_left
          · simp only [Act.put, List.setIfInBounds_toArray, List.set_cons_zero, List.set_cons_succ, i64_w, i32_w]
            rfl
          refine pure_ (i := 8) (N := some 48) (v := ?_) (a' := ?_) #[true, true, true, true, true, true, true, true, true, false, false, false, false, false, false, false, false, false, false, false, false, false, false, false, false] rfl rfl (by kernel_rfl) (fun _ _ _ h => h) (Or.inl ⟨by rfl, ?_⟩) ?_ ?_
          rotate_left
          · intro w'
            go_simp
            with_reducible rfl
          rotate_left
          · simp only [Act.put, List.setIfInBounds_toArray, List.set_cons_zero, List.set_cons_succ, i64_w, i32_w]
            rfl
          refine pure_ (i := 9) (N := some 49) (v := ?_) (a' := ?_) #[true, true, true, true, true, true, true, true, true, true, false, false, false, false, false, false, false, false, false, false, false, false, false, false, false] rfl rfl (by kernel_rfl) (fun _ _ _ h => h) (Or.inl ⟨by rfl, ?_⟩) ?_ ?_
          rotate_left
          · intro w'
            go_simp
            with_reducible rfl
          rotate_left
          · simp only [Act.put, List.setIfInBounds_toArray, List.set_cons_zero, List.set_cons_succ, i64_w, i32_w]
            rfl
          refine take_ (i := 10) (N := some 50) (v := ?_) (a' := ?_) #[true, true, true, true, true, true, true, true, true, true, true, false, false, false, false, false, false, false, false, false, false, false, false, false, false] rfl rfl (by kernel_rfl) (fun _ _ _ h => h) (Or.inl ⟨by rfl, ?_⟩) hHeld ?_ ?_
          rotate_left
          · intro w' s0
            obtain ⟨k1, k2, k3, k4, k5, k6, k7, k8⟩ := (hNF.keep s0).cells
            go_simp
            with_reducible rfl
          rotate_left
          · simp only [Act.put, List.setIfInBounds_toArray, List.set_cons_zero, List.set_cons_succ, i64_w, i32_w]
            rfl
          refine pure_ (i := 11) (N := some 51) (v := ?_) (a' := ?_) #[true, true, true, true, true, true, true, true, true, true, true, true, false, false, false, false, false, false, false, false, false, false, false, false, false] rfl rfl (by kernel_rfl) (fun _ _ _ h => h) (Or.inl ⟨by rfl, ?_⟩) ?_ ?_
          rotate_left
          · intro w'
            go_simp
            with_reducible rfl
          rotate_left
          · simp only [Act.put, List.setIfInBounds_toArray, List.set_cons_zero, List.set_cons_succ, i64_w, i32_w]
            rfl
          refine pure_ (i := 12) (N := some 52) (v := ?_) (a' := ?_) #[true, true, true, true, true, true, true, true, true, true, true, true, true, false, false, false, false, false, false, false, false, false, false, false, false] rfl rfl (by kernel_rfl) (fun _ _ _ h => h) (Or.inl ⟨by rfl, ?_⟩) ?_ ?_
          rotate_left
          · intro w'
            go_simp
            with_reducible rfl
          rotate_left
          · simp only [Act.put, List.setIfInBounds_toArray, List.set_cons_zero, List.set_cons_succ, i64_w, i32_w]
            rfl
          refine take_ (i := 13) (N := some 53) (v := ?_) (a' := ?_) #[true, true, true, true, true, true, true, true, true, true, true, true, true, true, false, false, false, false, false, false, false, false, false, false, false] rfl rfl (by kernel_rfl) (fun _ _ _ h => h) (Or.inl ⟨by rfl, ?_⟩) hHeld ?_ ?_
          rotate_left
          · intro w' s0
            obtain ⟨k1, k2, k3, k4, k5, k6, k7, k8⟩ := (hNF.keep s0).cells
            go_simp
            with_reducible rfl
          rotate_left
          · simp only [Act.put, List.setIfInBounds_toArray, List.set_cons_zero, List.set_cons_succ, i64_w, i32_w]
            rfl
          refine pure_ (i := 14) (N := some 54) (v := ?_) (a' := ?_) #[true, true, true, true, true, true, true, true, true, true, true, true, true, true, true, false, false, false, false, false, false, false, false, false, false] rfl rfl (by kernel_rfl) (fun _ _ _ h => h) (Or.inl ⟨by rfl, ?_⟩) ?_ ?_
          rotate_left
          · intro w'
            go_simp
            with_reducible rfl
          rotate_left
          · simp only [Act.put, List.setIfInBounds_toArray, List.set_cons_zero, List.set_cons_succ, i64_w, i32_w]
            rfl
          refine take_ (i := 15) (N := some 55) (v := ?_) (a' := ?_) #[true, true, true, true, true, true, true, true, true, true, true, true, true, true, true, true, false, false, false, false, false, false, false, false, false] rfl rfl (by kernel_rfl) (fun _ _ _ h => h) (Or.inl ⟨by rfl, ?_⟩) hHeld ?_ ?_
          rotate_left
          · intro w' s0
            obtain ⟨k1, k2, k3, k4, k5, k6, k7, k8⟩ := (hNF.keep s0).cells
            go_simp
            with_reducible rfl
          rotate_left
          · simp only [Act.put, List.setIfInBounds_toArray, List.set_cons_zero, List.set_cons_succ, i64_w, i32_w]
            rfl
          refine pure_ (i := 16) (N := some 56) (v := ?_) (a' := ?_) #[true, true, true, true, true, true, true, true, true, true, true, true, true, true, true, true, true, false, false, false, false, false, false, false, false] rfl rfl (by kernel_rfl) (fun _ _ _ h => h) (Or.inl ⟨by rfl, ?_⟩) ?_ ?_
          rotate_left
          · intro w'
            go_simp
            with_reducible rfl
          rotate_left
          · simp only [Act.put, List.setIfInBounds_toArray, List.set_cons_zero, List.set_cons_succ, i64_w, i32_w]
            rfl
          refine pure_ (i := 17) (N := some 57) (v := ?_) (a' := ?_) #[true, true, true, true, true, true, true, true, true, true, true, true, true, true, true, true, true, true, false, false, false, false, false, false, false] rfl rfl (by kernel_rfl) (fun _ _ _ h => h) (Or.inl ⟨by rfl, ?_⟩) ?_ ?_
          rotate_left
          · intro w'
            go_simp
            with_reducible rfl
          rotate_left
          · simp only [Act.put, List.setIfInBounds_toArray, List.set_cons_zero, List.set_cons_succ, i64_w, i32_w]
            rfl
          refine take_ (i := 18) (N := some 58) (v := ?_) (a' := ?_) #[true, true, true, true, true, true, true, true, true, true, true, true, true, true, true, true, true, true, true, false, false, false, false, false, false] rfl rfl (by kernel_rfl) (fun _ _ _ h => h) (Or.inl ⟨by rfl, ?_⟩) hHeld ?_ ?_
          rotate_left
          · intro w' s0
            obtain ⟨k1, k2, k3, k4, k5, k6, k7, k8⟩ := (hNF.keep s0).cells
            go_simp
            with_reducible rfl
          rotate_left
          · simp only [Act.put, List.setIfInBounds_toArray, List.set_cons_zero, List.set_cons_succ, i64_w, i32_w]
            rfl
          refine pure_ (i := 19) (N := some 59) (v := ?_) (a' := ?_) #[true, true, true, true, true, true, true, true, true, true, true, true, true, true, true, true, true, true, true, true, false, false, false, false, false] rfl rfl (by kernel_rfl) (fun _ _ _ h => h) (Or.inl ⟨by rfl, ?_⟩) ?_ ?_
          rotate_left
          · intro w'
            go_simp
            with_reducible rfl
          rotate_left
          · simp only [Act.put, List.setIfInBounds_toArray, List.set_cons_zero, List.set_cons_succ, i64_w, i32_w]
            rfl
          refine pure_ (i := 20) (N := some 60) (v := ?_) (a' := ?_) #[true, true, true, true, true, true, true, true, true, true, true, true, true, true, true, true, true, true, true, true, true, false, false, false, false] rfl rfl (by kernel_rfl) (fun _ _ _ h => h) (Or.inl ⟨by rfl, ?_⟩) ?_ ?_
          rotate_left
          · intro w'
            go_simp
            with_reducible rfl
          rotate_left
          · simp only [Act.put, List.setIfInBounds_toArray, List.set_cons_zero, List.set_cons_succ, i64_w, i32_w]
            rfl
          clear hHeld
          refine one_ (i := 21) (N := some 61) #[true, true, true, true, true, true, true, true, true, true, true, true, true, true, true, true, true, true, true, true, true, true, false, false, false] rfl rfl (by kernel_rfl) (by decide) (fun K hK => ?_)
          refine goes_ Try.func22 (by kernel_rfl) rfl #[.pointer (some ⟨g, 0, none⟩), .int .i64 X1, .int .i64 Y1] (by rfl) rfl rfl (by (try simp only [List.map_toArray, List.map_cons, List.map_nil]); first | done | rfl) ?_
          have hat := at_c g n X1 Y1 W3.drew h1 h2 HX.out.1 HX.out.2.1 HX.out.2.2.1 HX.out.2.2.2 (hNF.keep (CK.drew _)).cells.2.2.2.2.2.1
          rw [HJ.out] at hat
          with_reducible refine hat.mono ?_
          rintro e w4 ⟨rfl, rfl⟩
          clear hat
          refine ⟨_, rfl, ?_⟩
          refine hK.out _ _ ((CK.drew _).trans (CK.drew _)) (fun hHeld => ?_)
          clear hK K
          refine norm_ (a' := ?_) ?_ ?_
          rotate_left
          · show Act.put _ (some 61) _ = _
            simp only [Act.put, List.setIfInBounds_toArray, List.set_cons_zero, List.set_cons_succ, i64_w, i32_w]
            rfl
          refine pure_ (i := 22) (N := some 62) (v := ?_) (a' := ?_) #[true, true, true, true, true, true, true, true, true, true, true, true, true, true, true, true, true, true, true, true, true, true, true, false, false] rfl rfl (by kernel_rfl) (fun _ _ _ h => h) (Or.inl ⟨by rfl, ?_⟩) ?_ ?_
          rotate_left
          · intro w'
            go_simp
            with_reducible rfl
          rotate_left
          · simp only [Act.put, List.setIfInBounds_toArray, List.set_cons_zero, List.set_cons_succ, i64_w, i32_w]
            rfl
          refine take_ (i := 23) (N := some 63) (v := ?_) (a' := ?_) #[true, true, true, true, true, true, true, true, true, true, true, true, true, true, true, true, true, true, true, true, true, true, true, true, false] rfl rfl (by kernel_rfl) (fun _ _ _ h => h) (Or.inl ⟨by rfl, ?_⟩) hHeld ?_ ?_
          rotate_left
          · intro w' s0
            have k9 := (blk_cell (s0 _ _ _ hNF.out.2.2.2.2.2.1) j).trans hcj
            go_simp
            with_reducible rfl
          rotate_left
          · simp only [Act.put, List.setIfInBounds_toArray, List.set_cons_zero, List.set_cons_succ, i64_w, i32_w]
            rfl
          refine pure_ (i := 24) (N := some 11) (v := ?_) (a' := ?_) #[true, true, true, true, true, true, true, true, true, true, true, true, true, true, true, true, true, true, true, true, true, true, true, true, true] rfl rfl (by kernel_rfl) (fun _ _ _ h => h) (Or.inl ⟨by rfl, ?_⟩) ?_ ?_
          rotate_left
          · intro w'
            go_simp
            with_reducible rfl
          rotate_left
          · simp only [Act.put, List.setIfInBounds_toArray, List.set_cons_zero, List.set_cons_succ, i64_w, i32_w]
            rfl
          refine done_ (by kernel_rfl) ?_
          gi_wp2
          refine ⟨(KeepsOthers.drew _).trans (KeepsOthers.drew _), below_drew (below_drew (Below.refl _ _)), ⟨hNF.keep ((CK.drew _).trans (CK.drew _)), below_drew (below_drew hB), fun D hD' => hD D hD'⟩, fun q hq => ?_⟩
          rcases List.mem_append.1 hq with hq | hq
          · exact hp q hq
          · rw [List.mem_singleton.1 hq]; exact hhit.trans hmj
        | some v =>
          obtain ⟨h, len, c, hc, hcj, hlen, hh, hmin⟩ := hNF.out.2.2.2.2.2.2 j v hmj
          have dl : decide ((0 : Int) < (len : Int)) = true := decide_eq_true (by omega)
          have hlen2 : 0 < len := hlen
          refine wpIn_block (wpIn_seq ?_)
          refine startR_ (n := 25) (S := fun w' => CK W3 w') (ds := []) (by rintro ⟨a_, w_, h_⟩; exact h_) (by kernel_rfl) #[false, false, false, false, false, false, false, false, false, false, false, false, false, false, false, false, false, false, false, false, false, false, false, false, false] (by kernel_rfl) rfl rfl (CK.drew _) (fun hHeld => ?_)
          refine take_ (i := 0) (N := some 40) (v := ?_) (a' := ?_) #[true, false, false, false, false, false, false, false, false, false, false, false, false, false, false, false, false, false, false, false, false, false, false, false, false] rfl rfl (by kernel_rfl) (fun _ _ _ h => h) (Or.inl ⟨by rfl, ?_⟩) hHeld ?_ ?_
          rotate_left
          · intro w' s0
            obtain ⟨k1, k2, k3, k4, k5, k6, k7, k8⟩ := (hNF.keep s0).cells
            go_simp
            with_reducible rfl
          rotate_left
          · simp only [Act.put, List.setIfInBounds_toArray, List.set_cons_zero, List.set_cons_succ, i64_w, i32_w]
            rfl
          refine pure_ (i := 1) (N := some 41) (v := ?_) (a' := ?_) #[true, true, false, false, false, false, false, false, false, false, false, false, false, false, false, false, false, false, false, false, false, false, false, false, false] rfl rfl (by kernel_rfl) (fun _ _ _ h => h) (Or.inl ⟨by rfl, ?_⟩) ?_ ?_
          rotate_left
          · intro w'
            go_simp
            with_reducible rfl
          rotate_left
          · simp only [Act.put, List.setIfInBounds_toArray, List.set_cons_zero, List.set_cons_succ, i64_w, i32_w]
            rfl
          refine pure_ (i := 2) (N := some 42) (v := ?_) (a' := ?_) #[true, true, true, false, false, false, false, false, false, false, false, false, false, false, false, false, false, false, false, false, false, false, false, false, false] rfl rfl (by kernel_rfl) (fun _ _ _ h => h) (Or.inl ⟨by rfl, ?_⟩) ?_ ?_
          rotate_left
          · intro w'
            go_simp
            with_reducible rfl
          rotate_left
          · simp only [Act.put, List.setIfInBounds_toArray, List.set_cons_zero, List.set_cons_succ, i64_w, i32_w]
            rfl
          refine take_ (i := 3) (N := some 43) (v := ?_) (a' := ?_) #[true, true, true, true, false, false, false, false, false, false, false, false, false, false, false, false, false, false, false, false, false, false, false, false, false] rfl rfl (by kernel_rfl) (fun _ _ _ h => h) (Or.inl ⟨by rfl, ?_⟩) hHeld ?_ ?_
          rotate_left
          · intro w' s0
            obtain ⟨k1, k2, k3, k4, k5, k6, k7, k8⟩ := (hNF.keep s0).cells
            go_simp
            with_reducible rfl
          rotate_left
          · simp only [Act.put, List.setIfInBounds_toArray, List.set_cons_zero, List.set_cons_succ, i64_w, i32_w]
            rfl
          refine take_ (i := 4) (N := some 44) (v := ?_) (a' := ?_) #[true, true, true, true, true, false, false, false, false, false, false, false, false, false, false, false, false, false, false, false, false, false, false, false, false] rfl rfl (by kernel_rfl) (fun _ _ _ h => h) (Or.inl ⟨by rfl, ?_⟩) hHeld ?_ ?_
          rotate_left
          · intro w' s0
            obtain ⟨k1, k2, k3, k4, k5, k6, k7, k8⟩ := (hNF.keep s0).cells
            go_simp
            with_reducible rfl
          rotate_left
          · simp only [Act.put, List.setIfInBounds_toArray, List.set_cons_zero, List.set_cons_succ, i64_w, i32_w]
            rfl
          refine take_ (i := 5) (N := some 45) (v := ?_) (a' := ?_) #[true, true, true, true, true, true, false, false, false, false, false, false, false, false, false, false, false, false, false, false, false, false, false, false, false] rfl rfl (by kernel_rfl) (fun _ _ _ h => h) (Or.inl ⟨by rfl, ?_⟩) hHeld ?_ ?_
          rotate_left
          · intro w' s0
            obtain ⟨k1, k2, k3, k4, k5, k6, k7, k8⟩ := (hNF.keep s0).cells
            go_simp
            with_reducible rfl
          rotate_left
          · simp only [Act.put, List.setIfInBounds_toArray, List.set_cons_zero, List.set_cons_succ, i64_w, i32_w]
            rfl
          refine pure_ (i := 6) (N := some 46) (v := ?_) (a' := ?_) #[true, true, true, true, true, true, true, false, false, false, false, false, false, false, false, false, false, false, false, false, false, false, false, false, false] rfl rfl (by kernel_rfl) (fun _ _ _ h => h) (Or.inl ⟨by rfl, ?_⟩) ?_ ?_
          rotate_left
          · intro w'
            go_simp
            with_reducible rfl
          rotate_left
          · simp only [Act.put, List.setIfInBounds_toArray, List.set_cons_zero, List.set_cons_succ, i64_w, i32_w]
            rfl
          refine take_ (i := 7) (N := some 47) (v := ?_) (a' := ?_) #[true, true, true, true, true, true, true, true, false, false, false, false, false, false, false, false, false, false, false, false, false, false, false, false, false] rfl rfl (by kernel_rfl) (fun _ _ _ h => h) (Or.inl ⟨by rfl, ?_⟩) hHeld ?_ ?_
          rotate_left
          · intro w' s0
            obtain ⟨k1, k2, k3, k4, k5, k6, k7, k8⟩ := (hNF.keep s0).cells
            go_simp
            with_reducible rfl
          rotate_left
          · simp only [Act.put, List.setIfInBounds_toArray, List.set_cons_zero, List.set_cons_succ, i64_w, i32_w]
            rfl
          refine pure_ (i := 8) (N := some 48) (v := ?_) (a' := ?_) #[true, true, true, true, true, true, true, true, true, false, false, false, false, false, false, false, false, false, false, false, false, false, false, false, false] rfl rfl (by kernel_rfl) (fun _ _ _ h => h) (Or.inl ⟨by rfl, ?_⟩) ?_ ?_
          rotate_left
          · intro w'
            go_simp
            with_reducible rfl
          rotate_left
          · simp only [Act.put, List.setIfInBounds_toArray, List.set_cons_zero, List.set_cons_succ, i64_w, i32_w]
            rfl
          refine pure_ (i := 9) (N := some 49) (v := ?_) (a' := ?_) #[true, true, true, true, true, true, true, true, true, true, false, false, false, false, false, false, false, false, false, false, false, false, false, false, false] rfl rfl (by kernel_rfl) (fun _ _ _ h => h) (Or.inl ⟨by rfl, ?_⟩) ?_ ?_
          rotate_left
          · intro w'
            go_simp
            with_reducible rfl
          rotate_left
          · simp only [Act.put, List.setIfInBounds_toArray, List.set_cons_zero, List.set_cons_succ, i64_w, i32_w]
            rfl
          refine take_ (i := 10) (N := some 50) (v := ?_) (a' := ?_) #[true, true, true, true, true, true, true, true, true, true, true, false, false, false, false, false, false, false, false, false, false, false, false, false, false] rfl rfl (by kernel_rfl) (fun _ _ _ h => h) (Or.inl ⟨by rfl, ?_⟩) hHeld ?_ ?_
          rotate_left
          · intro w' s0
            obtain ⟨k1, k2, k3, k4, k5, k6, k7, k8⟩ := (hNF.keep s0).cells
            go_simp
            with_reducible rfl
          rotate_left
          · simp only [Act.put, List.setIfInBounds_toArray, List.set_cons_zero, List.set_cons_succ, i64_w, i32_w]
            rfl
          refine pure_ (i := 11) (N := some 51) (v := ?_) (a' := ?_) #[true, true, true, true, true, true, true, true, true, true, true, true, false, false, false, false, false, false, false, false, false, false, false, false, false] rfl rfl (by kernel_rfl) (fun _ _ _ h => h) (Or.inl ⟨by rfl, ?_⟩) ?_ ?_
          rotate_left
          · intro w'
            go_simp
            with_reducible rfl
          rotate_left
          · simp only [Act.put, List.setIfInBounds_toArray, List.set_cons_zero, List.set_cons_succ, i64_w, i32_w]
            rfl
          refine pure_ (i := 12) (N := some 52) (v := ?_) (a' := ?_) #[true, true, true, true, true, true, true, true, true, true, true, true, true, false, false, false, false, false, false, false, false, false, false, false, false] rfl rfl (by kernel_rfl) (fun _ _ _ h => h) (Or.inl ⟨by rfl, ?_⟩) ?_ ?_
          rotate_left
          · intro w'
            go_simp
            with_reducible rfl
          rotate_left
          · simp only [Act.put, List.setIfInBounds_toArray, List.set_cons_zero, List.set_cons_succ, i64_w, i32_w]
            rfl
          refine take_ (i := 13) (N := some 53) (v := ?_) (a' := ?_) #[true, true, true, true, true, true, true, true, true, true, true, true, true, true, false, false, false, false, false, false, false, false, false, false, false] rfl rfl (by kernel_rfl) (fun _ _ _ h => h) (Or.inl ⟨by rfl, ?_⟩) hHeld ?_ ?_
          rotate_left
          · intro w' s0
            obtain ⟨k1, k2, k3, k4, k5, k6, k7, k8⟩ := (hNF.keep s0).cells
            go_simp
            with_reducible rfl
          rotate_left
          · simp only [Act.put, List.setIfInBounds_toArray, List.set_cons_zero, List.set_cons_succ, i64_w, i32_w]
            rfl
          refine pure_ (i := 14) (N := some 54) (v := ?_) (a' := ?_) #[true, true, true, true, true, true, true, true, true, true, true, true, true, true, true, false, false, false, false, false, false, false, false, false, false] rfl rfl (by kernel_rfl) (fun _ _ _ h => h) (Or.inl ⟨by rfl, ?_⟩) ?_ ?_
          rotate_left
          · intro w'
            go_simp
            with_reducible rfl
          rotate_left
          · simp only [Act.put, List.setIfInBounds_toArray, List.set_cons_zero, List.set_cons_succ, i64_w, i32_w]
            rfl
          refine take_ (i := 15) (N := some 55) (v := ?_) (a' := ?_) #[true, true, true, true, true, true, true, true, true, true, true, true, true, true, true, true, false, false, false, false, false, false, false, false, false] rfl rfl (by kernel_rfl) (fun _ _ _ h => h) (Or.inl ⟨by rfl, ?_⟩) hHeld ?_ ?_
          rotate_left
          · intro w' s0
            obtain ⟨k1, k2, k3, k4, k5, k6, k7, k8⟩ := (hNF.keep s0).cells
            go_simp
            with_reducible rfl
          rotate_left
          · simp only [Act.put, List.setIfInBounds_toArray, List.set_cons_zero, List.set_cons_succ, i64_w, i32_w]
            rfl
          refine pure_ (i := 16) (N := some 56) (v := ?_) (a' := ?_) #[true, true, true, true, true, true, true, true, true, true, true, true, true, true, true, true, true, false, false, false, false, false, false, false, false] rfl rfl (by kernel_rfl) (fun _ _ _ h => h) (Or.inl ⟨by rfl, ?_⟩) ?_ ?_
          rotate_left
          · intro w'
            go_simp
            with_reducible rfl
          rotate_left
          · simp only [Act.put, List.setIfInBounds_toArray, List.set_cons_zero, List.set_cons_succ, i64_w, i32_w]
            rfl
          refine pure_ (i := 17) (N := some 57) (v := ?_) (a' := ?_) #[true, true, true, true, true, true, true, true, true, true, true, true, true, true, true, true, true, true, false, false, false, false, false, false, false] rfl rfl (by kernel_rfl) (fun _ _ _ h => h) (Or.inl ⟨by rfl, ?_⟩) ?_ ?_
          rotate_left
          · intro w'
            go_simp
            with_reducible rfl
          rotate_left
          · simp only [Act.put, List.setIfInBounds_toArray, List.set_cons_zero, List.set_cons_succ, i64_w, i32_w]
            rfl
          refine take_ (i := 18) (N := some 58) (v := ?_) (a' := ?_) #[true, true, true, true, true, true, true, true, true, true, true, true, true, true, true, true, true, true, true, false, false, false, false, false, false] rfl rfl (by kernel_rfl) (fun _ _ _ h => h) (Or.inl ⟨by rfl, ?_⟩) hHeld ?_ ?_
          rotate_left
          · intro w' s0
            obtain ⟨k1, k2, k3, k4, k5, k6, k7, k8⟩ := (hNF.keep s0).cells
            go_simp
            with_reducible rfl
          rotate_left
          · simp only [Act.put, List.setIfInBounds_toArray, List.set_cons_zero, List.set_cons_succ, i64_w, i32_w]
            rfl
          refine pure_ (i := 19) (N := some 59) (v := ?_) (a' := ?_) #[true, true, true, true, true, true, true, true, true, true, true, true, true, true, true, true, true, true, true, true, false, false, false, false, false] rfl rfl (by kernel_rfl) (fun _ _ _ h => h) (Or.inl ⟨by rfl, ?_⟩) ?_ ?_
          rotate_left
          · intro w'
            go_simp
            with_reducible rfl
          rotate_left
          · simp only [Act.put, List.setIfInBounds_toArray, List.set_cons_zero, List.set_cons_succ, i64_w, i32_w]
            rfl
          refine pure_ (i := 20) (N := some 60) (v := ?_) (a' := ?_) #[true, true, true, true, true, true, true, true, true, true, true, true, true, true, true, true, true, true, true, true, true, false, false, false, false] rfl rfl (by kernel_rfl) (fun _ _ _ h => h) (Or.inl ⟨by rfl, ?_⟩) ?_ ?_
          rotate_left
          · intro w'
            go_simp
            with_reducible rfl
          rotate_left
          · simp only [Act.put, List.setIfInBounds_toArray, List.set_cons_zero, List.set_cons_succ, i64_w, i32_w]
            rfl
          clear hHeld
          refine one_ (i := 21) (N := some 61) #[true, true, true, true, true, true, true, true, true, true, true, true, true, true, true, true, true, true, true, true, true, true, false, false, false] rfl rfl (by kernel_rfl) (by decide) (fun K hK => ?_)
          refine goes_ Try.func22 (by kernel_rfl) rfl #[.pointer (some ⟨g, 0, none⟩), .int .i64 X1, .int .i64 Y1] (by rfl) rfl rfl (by (try simp only [List.map_toArray, List.map_cons, List.map_nil]); first | done | rfl) ?_
          have hat := at_c g n X1 Y1 W3.drew h1 h2 HX.out.1 HX.out.2.1 HX.out.2.2.1 HX.out.2.2.2 (hNF.keep (CK.drew _)).cells.2.2.2.2.2.1
          rw [HJ.out] at hat
          with_reducible refine hat.mono ?_
          rintro e w4 ⟨rfl, rfl⟩
          clear hat
          refine ⟨_, rfl, ?_⟩
          refine hK.out _ _ ((CK.drew _).trans (CK.drew _)) (fun hHeld => ?_)
          clear hK K
          refine norm_ (a' := ?_) ?_ ?_
          rotate_left
          · show Act.put _ (some 61) _ = _
            simp only [Act.put, List.setIfInBounds_toArray, List.set_cons_zero, List.set_cons_succ, i64_w, i32_w]
            rfl
          refine pure_ (i := 22) (N := some 62) (v := ?_) (a' := ?_) #[true, true, true, true, true, true, true, true, true, true, true, true, true, true, true, true, true, true, true, true, true, true, true, false, false] rfl rfl (by kernel_rfl) (fun _ _ _ h => h) (Or.inl ⟨by rfl, ?_⟩) ?_ ?_
          rotate_left
          · intro w'
            go_simp
            with_reducible rfl
          rotate_left
          · simp only [Act.put, List.setIfInBounds_toArray, List.set_cons_zero, List.set_cons_succ, i64_w, i32_w]
            rfl
          refine take_ (i := 23) (N := some 63) (v := ?_) (a' := ?_) #[true, true, true, true, true, true, true, true, true, true, true, true, true, true, true, true, true, true, true, true, true, true, true, true, false] rfl rfl (by kernel_rfl) (fun _ _ _ h => h) (Or.inl ⟨by rfl, ?_⟩) hHeld ?_ ?_
          rotate_left
          · intro w' s0
            have k9 := (blk_cell (s0 _ _ _ hNF.out.2.2.2.2.2.1) j).trans hcj
            go_simp
            with_reducible rfl
          rotate_left
          · simp only [Act.put, List.setIfInBounds_toArray, List.set_cons_zero, List.set_cons_succ, i64_w, i32_w]
            rfl
          refine pure_ (i := 24) (N := some 11) (v := ?_) (a' := ?_) #[true, true, true, true, true, true, true, true, true, true, true, true, true, true, true, true, true, true, true, true, true, true, true, true, true] rfl rfl (by kernel_rfl) (fun _ _ _ h => h) (Or.inl ⟨by rfl, ?_⟩) ?_ ?_
          rotate_left
          · intro w'
            go_simp
            with_reducible rfl
          rotate_left
          · simp only [Act.put, List.setIfInBounds_toArray, List.set_cons_zero, List.set_cons_succ, i64_w, i32_w]
            rfl
          refine done_ (by kernel_rfl) ?_
          have k0 := (CK.drew W3).trans (CK.drew W3.drew)
          have hN4 := hNF.keep k0
          have hB4 : Below w.heap.size w W3.drew.drew := below_drew (below_drew hB)
          have hD4 : ∀ D, D ∈ ds → w.heap.size ≤ D ∧ W3.drew.drew.heap[D]? = some (.deferred (some [])) := fun D hD' => hD D hD'
          have KO4 : KeepsOthers W3 W3.drew.drew := (KeepsOthers.drew W3).trans (KeepsOthers.drew _)
          have hh4 := k0 _ _ _ hh
          generalize W3.drew.drew = W4 at hN4 hB4 hD4 KO4 hh4 ⊢
          have c4 := hN4.cells.2.1
          have f4 := hN4.cells.2.2.1
          have HM := Aside0.mk hmin
          gi_wp2_with (first | (refine ⟨trivial, ?_⟩; gi_at_call 23; refine (CallsIn.inRound l (callsIn_wide.2 (HM.out _ hh4))).mono ?_; rintro e w9 ⟨rfl, rfl⟩) | fail)
          refine ⟨KO4.trans (KeepsOthers.setCell _ _ _), rfl, pre, x_, v, rfl, hp, hhit.trans hmj, blk_put hN4.out.2.1 0 _ rfl, below_set hB4 (by omega), fun D hD' => ⟨(hD4 D hD').1, ?_⟩⟩
          refine (Below.heap_setCell _ _ _ D (fun e => ?_)).trans (hD4 D hD').2
          have hx1 := (hD4 D hD').2
          rw [e, hN4.out.2.1] at hx1
          cases hx1
      case done =>
        rintro D ys W' hDge rfl ⟨⟨hNF, hB, hD⟩, hp⟩ hK
        have wi : IntKind.i64.wrap ((i : Int) + 1) = (i : Int) + 1 := w64s (by omega)
        have wi2 : wrap64 ((i : Int) + 1) = (i : Int) + 1 := by unfold wrap64; omega
        gi_wp2
        clear wi wi2
        have ei : ((i : Int) + 1) = ((i + 1 : Nat) : Int) := rfl
        rw [ei]
        clear ei
        refine ⟨⟨i + 1, D :: ds, _, _, _, _, _, _, rfl, ?_⟩, ?_⟩
        refine ⟨by omega, hNF, hB, ?_, ?_, ?_⟩
        · intro D' hD'
          rcases List.mem_cons.1 hD' with rfl | hD'
          · exact ⟨by omega, hK⟩
          · exact hD D' hD'
        · exact List.nodup_cons.2 ⟨fun hm' => by have := hlD D hm'; omega, HP.out.2.1⟩
        · intro f' hf q hq
          by_cases hfe : f' = i
          · subst hfe; exact hp q hq
          · exact HP.out.2.2 f' (by omega) q hq
        · simp [intOf]
          omega
      case stop =>
        rintro D c pre W' hDge hSp ⟨rfl, pre', p, r, e1, e2, e3, e4, e5, e6⟩ hK
        gi_wp2
        refine leaves_marks 8 w.heap.size (D :: ds) W' ?_ ?_ e5.size ?_
        · intro D' hD'
          rcases List.mem_cons.1 hD' with rfl | hD'
          · exact ⟨by omega, hK⟩
          · exact e6 D' hD'
        · exact List.nodup_cons.2 ⟨fun hm' => by have := hlD D hm'; omega, HP.out.2.1⟩
        · intro W'' hb'' hck
          have hc5 : W''.cell? ⟨w.heap.size + 1 + 1, 0, none⟩ = some (.int .i64 r) := (blk_cell (hck _ _ _ e4) 0).trans rfl
          refine ⟨.int .i64 r, ?_, r, rfl, .inl ⟨i, pre', p, by omega, e1 ▸ hSp, HP.out.2.2, e2, e3⟩, e5.trans hb''⟩
          simp [results, Try.f12, go_sem, hc5]
    · have hdec : decide ((i : Int) < n + 1) = false := decide_eq_false hlt
      have hc := HW.out.1.cells
      have c4 := hc.2.1
      have f4 := hc.2.2.1
      clear hc
      gi_wp2
      have hS := below_set (g := w.heap.size + 1 + 1) (j := 0) (v := .int .i64 (-1)) HW.out.2 (by omega)
      have hp4 := blk_put (cs' := #[.int .i64 (-1)]) HW.out.1.out.2.1 0 (.int .i64 (-1)) rfl
      refine leaves_marks 8 w.heap.size ds _ ?_ HP.out.2.1 hS.size ?_
      · intro D hD
        refine ⟨(HP.out.1 D hD).1, (Below.heap_setCell _ _ _ D (fun e => ?_)).trans (HP.out.1 D hD).2⟩
        have hx1 := (HP.out.1 D hD).2
        rw [e, HW.out.1.out.2.1] at hx1
        cases hx1
      · intro W'' hb'' hck
        have hc5 : W''.cell? ⟨w.heap.size + 1 + 1, 0, none⟩ = some (.int .i64 (-1)) := (blk_cell (hck _ _ _ hp4) 0).trans rfl
        refine ⟨.int .i64 (-1), ?_, -1, rfl, .inr ⟨rfl, fun f hf q hq => HP.out.2.2 f (by have := HI.out; omega) q hq⟩, hS.trans hb''⟩
        simp [results, Try.f12, go_sem, hc5]
end Go.Proofs.Ytfangodjmppooaa.Rd
end

section
/- Put, where the point has a cell that is empty (printed by gen_put.py). -/
namespace Go.Proofs.Ytfangodjmppooaa.Rd
open Go Go.RowKit Go.Proofs.YtfangodjmppooaaW.PrintWords Go.Proofs.YtfangodjmppooaaW.PrintLast Go.Proofs.YtfangodjmppooaaW.PrintMore Go.Proofs.Ytfangodjmppooaa.F
set_option linter.unusedVariables false
set_option linter.unusedSimpArgs false
theorem info_int : (Try.prog.info? 3).map (fun i => (i.zero, i.size, i.bytes)) = some (some (.int .i64 0), 1, 8) := by kernel_rfl
set_option maxHeartbeats 4000000 in
theorem put_none (v : Value) (vv px py x y : Int) (w : World) (h : CellAt v px py x y false w) : Calls Try.prog 13 #[v, .int .i64 vv, .agg #[.int .i64 px, .int .i64 py]] w fun e w' => (∃ v, e = .returned v) ∧ Below w.heap.size w w' := by
  have HB := Aside0.mk (below_alloc (Below.refl w.heap.size w) (.cells #[.int .i64 px, .int .i64 py] 23))
  have H := Aside0.mk (h _ HB.out)
  clear h
  go_enter Try.func13, Try.ntmps13
  go_wp2_with (first | (with_reducible go_at_call 19; with_reducible refine H.out.mono ?_; rintro e w2 ⟨rfl, hb⟩; have HB2 := Aside0.mk (below_step HB.out hb); clear hb) | fail)
  go_end0
  exact ⟨⟨_, rfl⟩, HB2.out⟩
set_option maxHeartbeats 4000000 in
theorem drop_none (v : Value) (vv px py x y : Int) (w : World) (h : CellAt v px py x y false w) : Calls Try.prog 15 #[v, .int .i64 vv, .agg #[.int .i64 px, .int .i64 py]] w fun e w' => (∃ v, e = .returned v) ∧ Below w.heap.size w w' := by
  have HB := Aside0.mk (below_alloc (Below.refl w.heap.size w) (.cells #[.int .i64 px, .int .i64 py] 23))
  have H := Aside0.mk (h _ HB.out)
  clear h
  go_enter Try.func15, Try.ntmps15
  go_wp2_with (first | (with_reducible go_at_call 19; with_reducible refine H.out.mono ?_; rintro e w2 ⟨rfl, hb⟩; have HB2 := Aside0.mk (below_step HB.out hb); clear hb) | fail)
  refine bodyPost_ret (results_none rfl _ _ _) rfl ?_
  exact ⟨⟨_, rfl⟩, HB2.out⟩
set_option maxHeartbeats 8000000 in
set_option maxRecDepth 100000 in
theorem put_c (g b M i : Nat) (side n m vv px py x y : Int) (cs : Array Value) (w : World) (H : CellAt (.pointer (some ⟨g, 0, none⟩)) px py x y true w) (h1 : 1 ≤ n) (h2 : n ≤ 64) (hx : -n ≤ x) (hx2 : x ≤ 1000) (hy : -n ≤ y) (hy2 : y ≤ 1000) (hidx : idx n x y = (i : Int)) (hi : i < M) (hM : M ≤ 4096) (hm : 0 ≤ m ∧ m ≤ 1000000)
    (hg : w.heap[g]? = some (.cells #[.int .i64 side, .int .i64 n, .slice (some ⟨b, 0, none⟩) M M, .int .i64 m] 48 (0, 0))) (hb : w.heap[b]? = some (.cells cs 57 (0, 0))) (hcs : cs[i]? = some (.slice none 0 0)) :
    Calls Try.prog 13 #[.pointer (some ⟨g, 0, none⟩), .int .i64 vv, .agg #[.int .i64 px, .int .i64 py]] w fun e w' => (∃ v, e = .returned v) ∧ ∃ (h c : Nat) (cells : Array Value), w'.heap[g]? = some (.cells #[.int .i64 side, .int .i64 n, .slice (some ⟨b, 0, none⟩) M M, .int .i64 (m + 1)] 48 (0, 0)) ∧ w'.heap[b]? = some (.cells (cs.setIfInBounds i (.slice (some ⟨h, 0, none⟩) 1 c)) 57 (0, 0)) ∧ w'.heap[h]? = some (.cells cells 3 (0, 0)) ∧ cells[0]? = some (.int .i64 vv) ∧ ∀ n0, n0 ≤ g → n0 ≤ b → Below n0 w w' := by
  have HB := Aside0.mk (below_alloc (Below.refl w.heap.size w) (.cells #[.int .i64 px, .int .i64 py] 23))
  have HH := Aside0.mk (H _ HB.out)
  have hgb : g ≠ b := blk_ne hg hb (by decide)
  have HG := Aside0.mk hg
  have HR := Aside0.mk hb
  have HI := Aside0.mk hidx
  clear H hg hb
  go_enter Try.func13, Try.ntmps13
  go_wp2_with (first | (with_reducible go_at_call 19; with_reducible refine HH.out.mono ?_; rintro e w2 ⟨rfl, hb⟩; have HB2 := Aside0.mk (below_step HB.out hb); clear hb; have z1 := (blk_cell (blk_below HG.out HB2.out) 1).trans rfl) | (with_reducible go_at_call 22; with_reducible refine (at_c g n x y _ h1 h2 hx hx2 hy hy2 z1).mono ?_; rintro e w3 ⟨rfl, rfl⟩; rw [HI.out]) | fail)
  have HB3 := Aside0.mk (below_drew HB2.out)
  have HG3 := Aside0.mk (blk_below HG.out HB3.out)
  have HR3 := Aside0.mk (blk_below HR.out HB3.out)
  clear z1 HB2
  generalize w2.drew = w0 at HB3 HG3 HR3 ⊢
  have i0 : (0 : Int) ≤ (i : Int) := by omega
  have i1 : (i : Int) < (M : Int) := by omega
  refine start_ (n := 17) (S := fun w' => Below w0.heap.size w0 w') (ds := [16]) #[false, false, false, false, false, false, false, false, false, false, false, false, false, false, false, false, false] (by kernel_rfl) rfl rfl (below_drew (Below.refl _ _)) (fun hHeld => ?_)
  refine pure_ (i := 0) (N := some 22) (v := ?_) (a' := ?_) #[true, false, false, false, false, false, false, false, false, false, false, false, false, false, false, false, false] rfl rfl (by kernel_rfl) (fun _ _ _ h => h) (Or.inl ⟨by rfl, ?_⟩) ?_ ?_
  rotate_left
  · intro w'
    go_simp
    with_reducible rfl
  rotate_left
  · simp only [Act.put, List.setIfInBounds_toArray, List.set_cons_zero, List.set_cons_succ, i64_w, i32_w]
    rfl
  refine pure_ (i := 1) (N := some 23) (v := ?_) (a' := ?_) #[true, true, false, false, false, false, false, false, false, false, false, false, false, false, false, false, false] rfl rfl (by kernel_rfl) (fun _ _ _ h => h) (Or.inl ⟨by rfl, ?_⟩) ?_ ?_
  rotate_left
  · intro w'
    go_simp
    with_reducible rfl
  rotate_left
  · simp only [Act.put, List.setIfInBounds_toArray, List.set_cons_zero, List.set_cons_succ, i64_w, i32_w]
    rfl
  refine pure_ (i := 2) (N := some 24) (v := ?_) (a' := ?_) #[true, true, true, false, false, false, false, false, false, false, false, false, false, false, false, false, false] rfl rfl (by kernel_rfl) (fun _ _ _ h => h) (Or.inl ⟨by rfl, ?_⟩) ?_ ?_
  rotate_left
  · intro w'
    go_simp
    with_reducible rfl
  rotate_left
  · simp only [Act.put, List.setIfInBounds_toArray, List.set_cons_zero, List.set_cons_succ, i64_w, i32_w]
    rfl
  refine take_ (i := 3) (N := some 25) (v := ?_) (a' := ?_) #[true, true, true, true, false, false, false, false, false, false, false, false, false, false, false, false, false] rfl rfl (by kernel_rfl) (fun _ _ _ h => h) (Or.inl ⟨by rfl, ?_⟩) hHeld ?_ ?_
  rotate_left
  · intro w' s0
    have z0 := (blk_cell (blk_below HG3.out s0) 2).trans rfl
    go_simp
    with_reducible rfl
  rotate_left
  · simp only [Act.put, List.setIfInBounds_toArray, List.set_cons_zero, List.set_cons_succ, i64_w, i32_w]
    rfl
  refine pure_ (i := 4) (N := some 26) (v := ?_) (a' := ?_) #[true, true, true, true, true, false, false, false, false, false, false, false, false, false, false, false, false] rfl rfl (by kernel_rfl) (fun _ _ _ h => h) (Or.inl ⟨by rfl, ?_⟩) ?_ ?_
  rotate_left
  · intro w'
    go_simp
    with_reducible rfl
  rotate_left
  · simp only [Act.put, List.setIfInBounds_toArray, List.set_cons_zero, List.set_cons_succ, i64_w, i32_w]
    rfl
  refine pure_ (i := 5) (N := some 27) (v := ?_) (a' := ?_) #[true, true, true, true, true, true, false, false, false, false, false, false, false, false, false, false, false] rfl rfl (by kernel_rfl) (fun _ _ _ h => h) (Or.inl ⟨by rfl, ?_⟩) ?_ ?_
  rotate_left
  · intro w'
    go_simp
    with_reducible rfl
  rotate_left
  · simp only [Act.put, List.setIfInBounds_toArray, List.set_cons_zero, List.set_cons_succ, i64_w, i32_w]
    rfl
  refine pure_ (i := 6) (N := some 28) (v := ?_) (a' := ?_) #[true, true, true, true, true, true, true, false, false, false, false, false, false, false, false, false, false] rfl rfl (by kernel_rfl) (fun _ _ _ h => h) (Or.inl ⟨by rfl, ?_⟩) ?_ ?_
  rotate_left
  · intro w'
    go_simp
    with_reducible rfl
  rotate_left
  · simp only [Act.put, List.setIfInBounds_toArray, List.set_cons_zero, List.set_cons_succ, i64_w, i32_w]
    rfl
  refine pure_ (i := 7) (N := some 29) (v := ?_) (a' := ?_) #[true, true, true, true, true, true, true, true, false, false, false, false, false, false, false, false, false] rfl rfl (by kernel_rfl) (fun _ _ _ h => h) (Or.inl ⟨by rfl, ?_⟩) ?_ ?_
  rotate_left
  · intro w'
    go_simp
    with_reducible rfl
  rotate_left
  · simp only [Act.put, List.setIfInBounds_toArray, List.set_cons_zero, List.set_cons_succ, i64_w, i32_w]
    rfl
  refine take_ (i := 8) (N := some 30) (v := ?_) (a' := ?_) #[true, true, true, true, true, true, true, true, true, false, false, false, false, false, false, false, false] rfl rfl (by kernel_rfl) (fun _ _ _ h => h) (Or.inl ⟨by rfl, ?_⟩) hHeld ?_ ?_
  rotate_left
  · intro w' s0
    have z0 := (blk_cell (blk_below HG3.out s0) 2).trans rfl
    go_simp
    with_reducible rfl
  rotate_left
  · simp only [Act.put, List.setIfInBounds_toArray, List.set_cons_zero, List.set_cons_succ, i64_w, i32_w]
    rfl
  refine pure_ (i := 9) (N := some 31) (v := ?_) (a' := ?_) #[true, true, true, true, true, true, true, true, true, true, false, false, false, false, false, false, false] rfl rfl (by kernel_rfl) (fun _ _ _ h => h) (Or.inl ⟨by rfl, ?_⟩) ?_ ?_
  rotate_left
  · intro w'
    go_simp
    with_reducible rfl
  rotate_left
  · simp only [Act.put, List.setIfInBounds_toArray, List.set_cons_zero, List.set_cons_succ, i64_w, i32_w]
    rfl
  refine pure_ (i := 10) (N := some 32) (v := ?_) (a' := ?_) #[true, true, true, true, true, true, true, true, true, true, true, false, false, false, false, false, false] rfl rfl (by kernel_rfl) (fun _ _ _ h => h) (Or.inl ⟨by rfl, ?_⟩) ?_ ?_
  rotate_left
  · intro w'
    go_simp
    with_reducible rfl
  rotate_left
  · simp only [Act.put, List.setIfInBounds_toArray, List.set_cons_zero, List.set_cons_succ, i64_w, i32_w]
    rfl
  refine take_ (i := 11) (N := some 33) (v := ?_) (a' := ?_) #[true, true, true, true, true, true, true, true, true, true, true, true, false, false, false, false, false] rfl rfl (by kernel_rfl) (fun _ _ _ h => h) (Or.inl ⟨by rfl, ?_⟩) hHeld ?_ ?_
  rotate_left
  · intro w' s0
    have z0 := (blk_cell (blk_below HR3.out s0) i).trans hcs
    go_simp
    with_reducible rfl
  rotate_left
  · simp only [Act.put, List.setIfInBounds_toArray, List.set_cons_zero, List.set_cons_succ, i64_w, i32_w]
    rfl
  refine pure_ (i := 12) (N := some 34) (v := ?_) (a' := ?_) #[true, true, true, true, true, true, true, true, true, true, true, true, true, false, false, false, false] rfl rfl (by kernel_rfl) (fun _ _ _ h => h) (Or.inl ⟨by rfl, ?_⟩) ?_ ?_
  rotate_left
  · intro w'
    go_simp
    with_reducible rfl
  rotate_left
  · simp only [Act.put, List.setIfInBounds_toArray, List.set_cons_zero, List.set_cons_succ, i64_w, i32_w]
    rfl
  have s1 := hHeld
  clear hHeld
  generalize w0.drew = w1 at s1 ⊢
  refine one_ (i := 13) (N := some 35) #[true, true, true, true, true, true, true, true, true, true, true, true, true, true, false, false, false] rfl rfl (by kernel_rfl) (by decide) (fun K hK => ?_)
  refine Kd.R_lit_step (Kd.int .i64) (w0 := w0) w0.heap.size 3 (by rfl) (N := 35) rfl (xs := [vv]) (inner := [.int .i64 vv]) (ok := fun _ => True) (okp := fun _ => False) ?hr ?hp (fun _ h => h.elim) trivial s1 s1.size (by simp) ?_
  case hr => first | (go_simp; done) | (go_simp; rfl)
  case hp => exact Kd.reps_scalar [vv]
  intro v2 w2 hR2 s2 hg2 hn2
  clear hg2 hn2
  obtain ⟨A2, c2, rfl⟩ := Kd.R_slice hR2
  refine hK.out _ _ s2 (fun hHeld => ?_)
  clear hK K hHeld
  refine norm_ (a' := ?_) ?_ ?_
  rotate_left
  · show Act.put _ (some 35) _ = _
    simp only [Act.put, List.setIfInBounds_toArray, List.set_cons_zero, List.set_cons_succ, i64_w, i32_w]
    rfl
  refine one_ (i := 14) (N := some 36) #[true, true, true, true, true, true, true, true, true, true, true, true, true, true, true, false, false] rfl rfl (by kernel_rfl) (by decide) (fun K hK => ?_)
  refine Kd.R_append_rows_step (Kd.int .i64) (w0 := w0) w0.heap.size (by rfl) (.tmp 33) (.tmp 35) 57 3 (.int .i64 0) 8 rfl Try.underlying57 info_int rfl (by decide) (by decide) (.slice none 0 0) [] [vv] _ _ _ (fun _ => True) (fun _ => False) rfl rfl ?aO ?aR (fun _ _ h => h) (fun _ h => h.elim) (fun _ _ => trivial) s2 s2.size (by simp) ?_
  case aO => exact Kd.R_nil _ _ _ _ _
  case aR => exact (Kd.R_reads' hR2).2.2
  intro v3 w3 hR3 s3 hg3 hn3
  clear hg3 hn3
  obtain ⟨A3, c3, rfl⟩ := Kd.R_slice hR3
  refine hK.out _ _ s3 (fun hHeld => ?_)
  clear hK K hHeld
  refine norm_ (a' := ?_) ?_ ?_
  rotate_left
  · show Act.put _ (some 36) _ = _
    simp only [Act.put, List.setIfInBounds_toArray, List.set_cons_zero, List.set_cons_succ, i64_w, i32_w]
    rfl
  refine pure_ (i := 15) (N := some 37) (v := ?_) (a' := ?_) #[true, true, true, true, true, true, true, true, true, true, true, true, true, true, true, true, false] rfl rfl (by kernel_rfl) (fun _ _ _ h => h) (Or.inl ⟨by rfl, ?_⟩) ?_ ?_
  rotate_left
  · intro w'
    go_simp
    with_reducible rfl
  rotate_left
  · simp only [Act.put, List.setIfInBounds_toArray, List.set_cons_zero, List.set_cons_succ, i64_w, i32_w]
    rfl
  have c0 := (blk_cell (blk_below HR3.out s3) i).trans hcs
  have f0 := blk_frozen (blk_below HR3.out s3) i
  refine wpAnyLast_ready (rs := [16]) (by kernel_rfl) (by simp) (AllReadyL.cons_last rfl (by decide) (fun K hK => ?_) AllReadyL.nil)
  refine skip_ (w1 := ?_) (by rfl) rfl ?_ ?_
  rotate_left
  · go_simp
    rfl
  refine hK.out _ _ ?_
  clear hK K c0 f0
  have G4 := blk_far (p := ⟨b, i, none⟩) (blk_below HG3.out s3) hgb (.slice A3 1 c3)
  have R4 := blk_set (blk_below HR3.out s3) i (.slice A3 1 c3)
  have C3 := (Kd.R_reads' hR3).2.2
  obtain ⟨h, cp, ev, h3, h4, cells, hc4⟩ := Kd.R_form hR3 (show 0 < ([] ++ [vv]).length from Nat.zero_lt_one)
  injection ev with ev1 ev2 ev3
  subst ev1
  have hce : cells[0]? = some (.int .i64 vv) := by
    obtain ⟨ad', cs', e', _, hK', hcc⟩ := Kd.C_get C3 (0 : Int) 0 (by omega) (by simp)
    cases e'
    have hK2 : cs' = [.int .i64 vv] := hK'
    have h5 := hcc 0 (.int .i64 vv) (by rw [hK2]; rfl)
    exact (blk_cell hc4 0).symm.trans h5
  have sb := blk_lt (blk_below HR3.out (Below.refl _ _))
  have sg := blk_lt (blk_below HG3.out (Below.refl _ _))
  have H4 := blk_far (p := ⟨b, i, none⟩) hc4 (show h ≠ b by omega) (.slice (some ⟨h, 0, none⟩) 1 c3)
  have N4 : Aside0 (∀ n0, n0 ≤ w0.heap.size → n0 ≤ b → Below n0 w0 (w3.setCell ⟨b, i, none⟩ (.slice (some ⟨h, 0, none⟩) 1 c3))) := ⟨fun n0 a1 a2 => (below_weaken2 s3 a1).setCell (p := ⟨b, i, none⟩) a2 _⟩
  have hhg : h ≠ g := by omega
  clear hR2 hR3 C3 hc4 s1 s2 ev2 ev3
  have Q4 := Aside0.mk (And.intro G4 (And.intro R4 H4))
  clear G4 R4 H4 s3 sb sg
  generalize w3.setCell ⟨b, i, none⟩ (.slice (some ⟨h, 0, none⟩) 1 c3) = w4 at Q4 N4 ⊢
  refine done_ (by kernel_rfl) ?_
  have y3 : w4.cell? ⟨g, 3, none⟩ = some (.int .i64 m) := (blk_cell Q4.out.1 3).trans rfl
  have yf := blk_frozen Q4.out.1 3
  have wm : IntKind.i64.wrap (m + 1) = m + 1 := w64s (by omega)
  go_wp2_with fail
  go_end0
  have hbg : b ≠ g := fun e => hgb e.symm
  refine ⟨⟨_, rfl⟩, h, c3, cells, blk_put Q4.out.1 3 _ rfl, blk_far Q4.out.2.1 hbg _, blk_far Q4.out.2.2 hhg _, hce, fun n0 a1 a2 => ?_⟩
  have sw := HB3.out.size
  have swg := blk_lt HG.out
  exact (((below_then (Below.refl n0 w) (by omega) HB3.out).trans (N4.out n0 (by omega) a2)).setCell (p := ⟨g, 3, none⟩) a1 _)

end Go.Proofs.Ytfangodjmppooaa.Rd
end

section
/- lives: a vertex is put and found. -/
namespace Go.Proofs.Ytfangodjmppooaa.Rd
open Go Go.RowKit Go.Proofs.YtfangodjmppooaaW.PrintWords Go.Proofs.YtfangodjmppooaaW.PrintLast Go.Proofs.YtfangodjmppooaaW.PrintMore Go.Proofs.Ytfangodjmppooaa.F
set_option linter.unusedVariables false
set_option linter.unusedSimpArgs false
theorem nils_at {m j : Nat} (h : j < m) : (nils m)[j]? = some (.slice none 0 0) := by
  simp [nils, madeCells, h]
  rw [Nat.mod_one]
  rfl
theorem min_one (h c : Nat) (hc : Array Value) (v : Int) (hv : hc[0]? = some (.int .i64 v)) : MinOk h 1 c hc v := fun W hW => by
  have c0 := (blk_cell hW 0).trans hv
  go_enter Try.func23, Try.ntmps23
  go_wp2_with fail
  refine wp_loop_rounds 1 ?_
  rw [rounds_succ]
  go_wp2_with fail
  go_ret
  exact ⟨rfl, rfl⟩
def one7 (j : Nat) : Option Int := if j = 0 then some 7 else none
theorem near7 {r : Int} (h : NearR 5 4 4 one7 r) : r = 7 := by
  rcases h with ⟨f, pre, p, _, _, _, _, hr⟩ | ⟨_, hall⟩
  · unfold hit one7 at hr
    split at hr
    · exact (Option.some.inj hr).symm
    · cases hr
  · have h1 := hall 1 (by decide) (1, 1) (by decide)
    exact absurd h1 (by decide)
theorem home_a : lift_Home.f 20 9 (-1) 10 = some (9, 9, 0, -1, true) := by decide +kernel
theorem home_b : lift_Home.f 20 1 1 10 = some (1, 1, 0, 0, true) := by decide +kernel
theorem home_c : lift_Home.f 20 9 9 10 = some (9, 9, 0, 0, true) := by decide +kernel
theorem cell_a {g : Nat} {v : Value} {m : Int} {W : World} (hg : W.heap[g]? = some (.cells #[.int .i64 10, .int .i64 5, v, .int .i64 m] 48 (0, 0))) : CellAt (.pointer (some ⟨g, 0, none⟩)) 9 (-1) 4 4 true W := by
  have h := CellAt.grid 20 g 10 5 9 (-1) 9 9 0 (-1) true W v m (by decide) (by decide) (by decide) (fun _ => by decide) hg home_a
  exact h
theorem cell_b {g : Nat} {v : Value} {m : Int} {W : World} (hg : W.heap[g]? = some (.cells #[.int .i64 10, .int .i64 5, v, .int .i64 m] 48 (0, 0))) : CellAt (.pointer (some ⟨g, 0, none⟩)) 1 1 0 0 true W := by
  have h := CellAt.grid 20 g 10 5 1 1 1 1 0 0 true W v m (by decide) (by decide) (by decide) (fun _ => by decide) hg home_b
  exact h
theorem cell_d {g : Nat} {v : Value} {m : Int} {W : World} (hg : W.heap[g]? = some (.cells #[.int .i64 10, .int .i64 5, v, .int .i64 m] 48 (0, 0))) : CellAt (.pointer (some ⟨g, 0, none⟩)) 9 9 4 4 true W := by
  have h := CellAt.grid 20 g 10 5 9 9 9 9 0 0 true W v m (by decide) (by decide) (by decide) (fun _ => by decide) hg home_c
  exact h
theorem near_l (g b h c : Nat) (cells : Array Value) (w : World) (hg : w.heap[g]? = some (.cells #[.int .i64 10, .int .i64 5, .slice (some ⟨b, 0, none⟩) 25 25, .int .i64 (0 + 1)] 48 (0, 0))) (hb : w.heap[b]? = some (.cells ((nils 25).setIfInBounds 0 (.slice (some ⟨h, 0, none⟩) 1 c)) 57 (0, 0))) (hh : w.heap[h]? = some (.cells cells 3 (0, 0))) (hv : cells[0]? = some (.int .i64 7)) :
    Calls Try.prog 12 #[.pointer (some ⟨g, 0, none⟩), .agg #[.int .i64 9, .int .i64 9]] w fun e w' => e = .returned (.int .i64 7) ∧ Below w.heap.size w w' := by
  refine (near_c g b 25 10 5 (0 + 1) 9 9 4 4 _ one7 w (cell_d hg) (by decide) (by decide) (by decide) (by decide) (by decide) (by decide) (by decide) (by decide) hg hb ?_ ?_).mono ?_
  · intro j v hj
    unfold one7 at hj
    by_cases hj0 : j = 0
    · rw [if_pos hj0] at hj
      cases hj
      subst hj0
      refine ⟨h, 1, c, cells, ?_, by decide, hh, min_one h c cells 7 hv⟩
      rw [Array.getElem?_setIfInBounds_self_of_lt]
      simp [nils, size_madeCells]
    · rw [if_neg hj0] at hj; cases hj
  · intro j hj hn
    have hj0 : j ≠ 0 := fun e => by subst e; cases hn
    rw [Array.getElem?_setIfInBounds_ne (fun e => hj0 e.symm)]
    exact nils_at hj
  · rintro e w' ⟨r, rfl, hr, hb'⟩
    rw [near7 hr]
    exact ⟨rfl, hb'⟩
set_option maxHeartbeats 4000000 in
theorem lives_c (w : World) : Calls Try.prog 11 #[] w fun e w' => e = .returned (.bool true) ∧ Below w.heap.size w w' := by
  have s1 : (w.alloc (.cells (nils 25) 57)).heap.size = w.heap.size + 1 := World.size_alloc _ _
  have HB := Aside0.mk (below_alloc (below_alloc (Below.refl w.heap.size w) (.cells (nils 25) 57)) (.cells #[.int .i64 10, .int .i64 5, .slice (some ⟨w.heap.size, 0, none⟩) 25 25, .int .i64 0] 48))
  have hg0 := blk_new (w.alloc (.cells (nils 25) 57)) (.cells #[.int .i64 10, .int .i64 5, .slice (some ⟨w.heap.size, 0, none⟩) 25 25, .int .i64 0] 48)
  rw [s1] at hg0
  have HG := Aside0.mk hg0
  have HR := Aside0.mk (blk_alloc (blk_new w (.cells (nils 25) 57)) (.cells #[.int .i64 10, .int .i64 5, .slice (some ⟨w.heap.size, 0, none⟩) 25 25, .int .i64 0] 48))
  clear hg0 s1
  go_enter Try.func11, Try.ntmps11
  go_wp2_with (first | (with_reducible go_at_call 8; with_reducible refine (new_some 10 5 25 w (by decide) (by decide) (by decide) (by decide) (by decide)).mono ?_; rintro e w1 ⟨rfl, hw1⟩; rw [← hw1] at HB HG HR; clear hw1) | (with_reducible go_at_call 9; with_reducible refine (Cell_at _ 9 (-1) 4 4 true _ (cell_a HG.out)).mono ?_; rintro e w2 ⟨rfl, hb⟩; have HB2 := Aside0.mk (below_step HB.out hb); have HG2 := Aside0.mk (blk_below HG.out hb); have HR2 := Aside0.mk (blk_below HR.out hb); clear hb HB HG HR) | (with_reducible go_at_call 13; refine (put_c (w.heap.size + 1) w.heap.size 25 0 10 5 0 7 1 1 0 0 (nils 25) _ (cell_b HG2.out) (by decide) (by decide) (by decide) (by decide) (by decide) (by decide) (by decide) (by decide) (by decide) (by decide) HG2.out HR2.out (nils_at (by decide))).mono ?_; rintro e w3 ⟨⟨v3, rfl⟩, h, c, cells, hg3, hr3, hh3, hc3, hb3⟩; have HB3 := Aside0.mk (HB2.out.trans (hb3 w.heap.size (by omega) (Nat.le_refl _))); have HN := Aside0.mk (near_l _ _ h c cells w3 hg3 hr3 hh3 hc3); have HG3 := Aside0.mk hg3; clear hg3 hr3 hh3 hc3 hb3 HB2 HG2 HR2) | (with_reducible go_at_call 12; with_reducible refine HN.out.mono ?_; rintro e w4 ⟨rfl, hb⟩; have HB4 := Aside0.mk (below_step HB3.out hb); have z3 : w4.cell? ⟨w.heap.size + 1, 3, none⟩ = some (.int .i64 1) := (blk_cell (blk_below HG3.out hb) 3).trans rfl; clear hb HB3 HG3 HN) | (with_reducible go_at_call 14; with_reducible refine (len_c _ 1 _ z3).mono ?_; rintro e w5 ⟨rfl, rfl⟩) | fail)
  go_ret
  exact ⟨rfl, HB4.out⟩
end Go.Proofs.Ytfangodjmppooaa.Rd
end

section
/- Near, where nothing is to be looked for. -/
namespace Go.Proofs.Ytfangodjmppooaa.Rd
open Go Go.RowKit Go.Proofs.YtfangodjmppooaaW.PrintWords Go.Proofs.YtfangodjmppooaaW.PrintLast Go.Proofs.YtfangodjmppooaaW.PrintMore Go.Proofs.Ytfangodjmppooaa.F
set_option linter.unusedVariables false
set_option linter.unusedSimpArgs false
theorem three_blk (w : World) (o0 o1 o2 : Obj) : (((w.alloc o0).alloc o1).alloc o2).heap[w.heap.size]? = some o0 ∧ (((w.alloc o0).alloc o1).alloc o2).heap[w.heap.size + 1 + 1]? = some o2 := by
  refine ⟨blk_alloc (blk_alloc (blk_new w o0) _) _, ?_⟩
  have h := blk_new ((w.alloc o0).alloc o1) o2
  have e : ((w.alloc o0).alloc o1).heap.size = w.heap.size + 1 + 1 := by rw [World.size_alloc, World.size_alloc]
  rw [e] at h
  exact h
set_option maxHeartbeats 4000000 in
theorem near_off (px py x y : Int) (w : World) (pp : Option Addr) (H : CellAt (.pointer pp) px py x y false w) : Calls Try.prog 12 #[.pointer pp, .agg #[.int .i64 px, .int .i64 py]] w fun e w' => e = .returned (.int .i64 (-1)) ∧ Below w.heap.size w w' := by
  have HB := Aside0.mk (below_alloc (below_alloc (below_alloc (Below.refl w.heap.size w) (.cells #[.pointer pp] 26)) (.cells #[.int .i64 px, .int .i64 py] 23)) (.cells #[.int .i64 0] 3))
  have HN := Aside0.mk (three_blk w (.cells #[.pointer pp] 26) (.cells #[.int .i64 px, .int .i64 py] 23) (.cells #[.int .i64 0] 3))
  have HH := Aside0.mk (H _ HB.out)
  clear H
  go_enter Try.func12, Try.ntmps12
  go_wp2_with (first | (with_reducible go_at_call 19; with_reducible refine HH.out.mono ?_; rintro e w2 ⟨rfl, hb2⟩; have HB2 := Aside0.mk (below_step HB.out hb2); have N4 := Aside0.mk (blk_below HN.out.2 hb2); have k4 : ((w2.alloc (.cells #[.int .i64 x] 3)).alloc (.cells #[.int .i64 y] 3)).cell? ⟨w.heap.size + 1 + 1, 0, none⟩ = some (.int .i64 0) := (blk_cell (blk_alloc (blk_alloc N4.out _) _) 0).trans rfl; have f4 := blk_frozen (blk_alloc (blk_alloc N4.out (.cells #[.int .i64 x] 3)) (.cells #[.int .i64 y] 3)) 0; have k2 : ((w2.alloc (.cells #[.int .i64 x] 3)).alloc (.cells #[.int .i64 y] 3)).cell? ⟨w.heap.size, 0, none⟩ = some (.pointer pp) := (blk_cell (blk_alloc (blk_alloc (blk_below HN.out.1 hb2) _) _) 0).trans rfl; clear hb2) | fail)
  have hS := below_set (g := w.heap.size + 1 + 1) (j := 0) (v := .int .i64 (-1)) (below_alloc (below_alloc HB2.out (.cells #[.int .i64 x] 3)) (.cells #[.int .i64 y] 3)) (by omega)
  have hc5 : (((w2.alloc (.cells #[.int .i64 x] 3)).alloc (.cells #[.int .i64 y] 3)).setCell ⟨w.heap.size + 1 + 1, 0, none⟩ (.int .i64 (-1))).cell? ⟨w.heap.size + 1 + 1, 0, none⟩ = some (.int .i64 (-1)) := (blk_cell (blk_put (cs' := #[.int .i64 (-1)]) (blk_alloc (blk_alloc N4.out _) _) 0 (.int .i64 (-1)) rfl) 0).trans rfl
  (try simp only [Exit.inBlock, Exit.then])
  refine bodyPost_ret (v := .int .i64 (-1)) ?_ rfl ⟨rfl, hS⟩
  simp [results, Try.f12, go_sem, hc5]
set_option maxHeartbeats 4000000 in
theorem near_empty (px py x y : Int) (w : World) (g : Nat) (cs : Array Value) (hg : w.heap[g]? = some (.cells cs 48 (0, 0))) (hm : cs[3]? = some (.int .i64 0)) (H : CellAt (.pointer (some ⟨g, 0, none⟩)) px py x y true w) : Calls Try.prog 12 #[.pointer (some ⟨g, 0, none⟩), .agg #[.int .i64 px, .int .i64 py]] w fun e w' => e = .returned (.int .i64 (-1)) ∧ Below w.heap.size w w' := by
  have HB := Aside0.mk (below_alloc (below_alloc (below_alloc (Below.refl w.heap.size w) (.cells #[.pointer (some ⟨g, 0, none⟩)] 26)) (.cells #[.int .i64 px, .int .i64 py] 23)) (.cells #[.int .i64 0] 3))
  have HN := Aside0.mk (three_blk w (.cells #[.pointer (some ⟨g, 0, none⟩)] 26) (.cells #[.int .i64 px, .int .i64 py] 23) (.cells #[.int .i64 0] 3))
  have HH := Aside0.mk (H _ HB.out)
  clear H
  have HG := Aside0.mk hg
  clear hg
  go_enter Try.func12, Try.ntmps12
  go_wp2_with (first | (with_reducible go_at_call 19; with_reducible refine HH.out.mono ?_; rintro e w2 ⟨rfl, hb2⟩; have HB2 := Aside0.mk (below_step HB.out hb2); have N4 := Aside0.mk (blk_below HN.out.2 hb2); have k4 : ((w2.alloc (.cells #[.int .i64 x] 3)).alloc (.cells #[.int .i64 y] 3)).cell? ⟨w.heap.size + 1 + 1, 0, none⟩ = some (.int .i64 0) := (blk_cell (blk_alloc (blk_alloc N4.out _) _) 0).trans rfl; have f4 := blk_frozen (blk_alloc (blk_alloc N4.out (.cells #[.int .i64 x] 3)) (.cells #[.int .i64 y] 3)) 0; have k2 : ((w2.alloc (.cells #[.int .i64 x] 3)).alloc (.cells #[.int .i64 y] 3)).cell? ⟨w.heap.size, 0, none⟩ = some (.pointer (some ⟨g, 0, none⟩)) := (blk_cell (blk_alloc (blk_alloc (blk_below HN.out.1 hb2) _) _) 0).trans rfl; have k3 := (blk_cell (blk_alloc (blk_alloc (blk_below HG.out HB2.out) (.cells #[.int .i64 x] 3)) (.cells #[.int .i64 y] 3)) 3).trans hm; clear hb2) | fail)
  have hS := below_set (g := w.heap.size + 1 + 1) (j := 0) (v := .int .i64 (-1)) (below_alloc (below_alloc HB2.out (.cells #[.int .i64 x] 3)) (.cells #[.int .i64 y] 3)) (by omega)
  have hc5 : (((w2.alloc (.cells #[.int .i64 x] 3)).alloc (.cells #[.int .i64 y] 3)).setCell ⟨w.heap.size + 1 + 1, 0, none⟩ (.int .i64 (-1))).cell? ⟨w.heap.size + 1 + 1, 0, none⟩ = some (.int .i64 (-1)) := (blk_cell (blk_put (cs' := #[.int .i64 (-1)]) (blk_alloc (blk_alloc N4.out _) _) 0 (.int .i64 (-1)) rfl) 0).trans rfl
  (try simp only [Exit.inBlock, Exit.then])
  refine bodyPost_ret (v := .int .i64 (-1)) ?_ rfl ⟨rfl, hS⟩
  simp [results, Try.f12, go_sem, hc5]
end Go.Proofs.Ytfangodjmppooaa.Rd
end

section
/- lift.Home on plain numbers (as in chapter 6). -/
namespace Go.Proofs.Ytfangodjmppooaa.LiftH
open Go Go.RowKit Go.Proofs.YtfangodjmppooaaW.PrintWords Go.Proofs.Ytfangodjmppooaa.F
set_option linter.unusedVariables false
abbrev InC (n : Int) : Prop := -1099511627776 ≤ n ∧ n ≤ 1099511627776
abbrev HomeOk (x y s : Int) : Prop := (1 ≤ s ∧ s ≤ 1099511627776) ∧ (InC x ∧ InC y)
theorem hw64 {x : Int} (h : -9223372036854775808 ≤ x) (h' : x ≤ 9223372036854775807) : wrap64 x = x := by unfold wrap64; omega
theorem divs {n m : Int} (hm : 1 ≤ m ∧ m ≤ 1099511627776) (hn : InC n) : (-1099511627776 ≤ n / m ∧ n / m ≤ 1099511627776) ∧ 0 ≤ n % m ∧ n % m < m := by
  refine ⟨⟨Int.le_ediv_of_mul_le (by omega) (by omega), ?_⟩, Int.emod_nonneg n (by omega), Int.emod_lt_of_pos n (by omega)⟩
  rcases Int.lt_or_le n 0 with h | h
  · have := Int.ediv_neg_of_neg_of_pos h (show 0 < m by omega); omega
  · have := Int.ediv_le_self m h; omega
theorem within_f (a : Int) : lift_within.f a = some (decide (InC a)) := by
  unfold lift_within.f
  by_cases h : a ≥ -1099511627776
  · rw [if_pos h]
    congr 1
    rw [decide_eq_decide]
    exact ⟨fun k => ⟨h, k⟩, fun k => k.2⟩
  · rw [if_neg h, decide_eq_false (fun k => h k.1)]
theorem lcan_f (a b : Int) : lift_can.f a b = some (decide (InC a ∧ InC b)) := by
  unfold lift_can.f
  rw [within_f, Option.bind_some]
  by_cases h : InC a
  · rw [if_pos (decide_eq_true h), within_f, Option.bind_some]
    congr 1
    rw [decide_eq_decide]
    exact ⟨fun k => ⟨h, k⟩, fun k => k.2⟩
  · rw [if_neg (by rw [decide_eq_true_eq]; exact h), decide_eq_false (fun k => h k.1)]
theorem ltorus_f (s : Int) : lift_torus.f s = some (decide (1 ≤ s ∧ s ≤ 1099511627776)) := by
  unfold lift_torus.f
  by_cases h : s ≥ 1
  · rw [if_pos h]
    congr 1
    rw [decide_eq_decide]
    exact ⟨fun k => ⟨h, k⟩, fun k => k.2⟩
  · rw [if_neg h, decide_eq_false (fun k => h k.1)]
theorem part_f {n s : Int} (hn : InC n) (hs : 1 ≤ s ∧ s ≤ 1099511627776) : lift_part.f n s = some (n % s, n / s) := by
  have hd := divs hs hn
  unfold lift_part.f
  rw [if_neg (by omega)]
  rcases Int.lt_or_le n 0 with h | h
  · obtain ⟨p, rfl⟩ : ∃ p : Nat, n = -(p : Int) := ⟨n.natAbs, by omega⟩
    have e1 : Int.tmod (-(p : Int)) s = -((p : Int) % s) := by rw [Int.neg_tmod, Int.tmod_eq_emod_of_nonneg (by omega)]
    have e2 : Int.tdiv (-(p : Int)) s = -((p : Int) / s) := by rw [Int.neg_tdiv, Int.tdiv_eq_ediv_of_nonneg (by omega)]
    have h1 := Int.emod_nonneg (p : Int) (show s ≠ 0 by omega)
    have h2 := Int.emod_lt_of_pos (p : Int) (show 0 < s by omega)
    have h3 := Int.mul_ediv_add_emod (p : Int) s
    have h4 : (p : Int) / s ≤ p := Int.ediv_le_self _ (by omega)
    have h5 : 0 ≤ (p : Int) / s := Int.ediv_nonneg (by omega) (by omega)
    have hu := fun q r => (Int.ediv_emod_unique (a := -(p : Int)) (b := s) (r := r) (q := q) (by omega)).2
    rw [e1, e2]
    by_cases h0 : (p : Int) % s = 0
    · obtain ⟨u1, u2⟩ := hu (-((p : Int) / s)) 0 ⟨by rw [Int.mul_neg]; omega, by omega, by omega⟩
      rw [if_neg (by omega), u1, u2, h0, hw64 (by omega) (by omega)]
      rfl
    · obtain ⟨u1, u2⟩ := hu (-((p : Int) / s) - 1) (s - (p : Int) % s) ⟨by rw [Int.mul_sub, Int.mul_neg, Int.mul_one]; omega, by omega, by omega⟩
      rw [if_pos (by omega), u1, u2, hw64 (x := -((p : Int) / s)) (by omega) (by omega), hw64 (by omega) (by omega), hw64 (by omega) (by omega)]
      congr 2
      omega
  · rw [Int.tmod_eq_emod_of_nonneg h, Int.tdiv_eq_ediv_of_nonneg h, if_neg (by omega), hw64 (by omega) (by omega)]
theorem lhome_f (x y s : Int) {k : Nat} (hk : 1 ≤ k) : lift_Home.f k x y s = some (if HomeOk x y s then (x % s, y % s, x / s, y / s, true) else (0, 0, 0, 0, false)) := by
  obtain ⟨k, rfl⟩ : ∃ m, k = m + 1 := ⟨k - 1, by omega⟩
  unfold lift_Home.f
  rw [ltorus_f, Option.bind_some]
  by_cases h1 : 1 ≤ s ∧ s ≤ 1099511627776
  · rw [if_pos (decide_eq_true h1), lcan_f, Option.bind_some]
    by_cases h2 : InC x ∧ InC y
    · rw [decide_eq_true h2, lift_Home.j0, if_neg (by decide), part_f h2.1 h1, Option.bind_some, part_f h2.2 h1, Option.bind_some, if_pos ⟨h1, h2⟩]
    · rw [decide_eq_false h2, lift_Home.j0, if_pos (by decide), if_neg (fun h => h2 h.2)]
  · rw [if_neg (by rw [decide_eq_true_eq]; exact h1), lift_Home.j0, if_pos rfl, if_neg (fun h => h1 h.1)]
end Go.Proofs.Ytfangodjmppooaa.LiftH
end

section
/- BucketNews: walked by hand. -/
namespace Go.Proofs.Ytfangodjmppooaa.Rd
open Go Go.RowKit Go.Proofs.YtfangodjmppooaaW.PrintWords Go.Proofs.YtfangodjmppooaaW.PrintLast Go.Proofs.YtfangodjmppooaaW.PrintMore Go.Proofs.Ytfangodjmppooaa.F
set_option linter.unusedVariables false
set_option linter.unusedSimpArgs false
theorem home_any (px py side : Int) (h1 : 1 ≤ side) (h2 : side ≤ 17179869184) : ∃ q1 q2 r1 r2 ok, lift_Home.f 20 px py side = some (q1, q2, r1, r2, ok) ∧ (ok = true → 0 ≤ q1 ∧ q1 < side ∧ 0 ≤ q2 ∧ q2 < side ∧ side ≤ 100000000000) := by
  have h := LiftH.lhome_f px py side (k := 20) (by decide)
  by_cases c : LiftH.HomeOk px py side
  · rw [if_pos c] at h
    exact ⟨_, _, _, _, _, h, fun _ => ⟨Int.emod_nonneg _ (by omega), Int.emod_lt_of_pos _ (by omega), Int.emod_nonneg _ (by omega), Int.emod_lt_of_pos _ (by omega), by omega⟩⟩
  · rw [if_neg c] at h
    exact ⟨_, _, _, _, _, h, fun e => by cases e⟩
theorem near_zero (g : Nat) (side n px py : Int) (v : Value) (w : World) (h1 : 1 ≤ side) (h2 : side ≤ 17179869184) (h3 : 1 ≤ n) (h4 : n ≤ 64) (hg : w.heap[g]? = some (.cells #[.int .i64 side, .int .i64 n, v, .int .i64 0] 48 (0, 0))) :
    Calls Try.prog 12 #[.pointer (some ⟨g, 0, none⟩), .agg #[.int .i64 px, .int .i64 py]] w fun e w' => e = .returned (.int .i64 (-1)) ∧ Below w.heap.size w w' := by
  obtain ⟨q1, q2, r1, r2, ok, hh, hq⟩ := home_any px py side h1 h2
  have hc := CellAt.grid 20 g side n px py q1 q2 r1 r2 ok w v 0 h1 h3 h4 hq hg hh
  cases ok with
  | true => exact near_empty px py _ _ w g _ hg rfl hc
  | false => exact near_off px py _ _ w _ hc
set_option maxHeartbeats 4000000 in
theorem news_some (side n px py : Int) (m : Nat) (w : World) (h1 : 1 ≤ side) (h2 : side ≤ 17179869184) (h3 : 1 ≤ n) (h4 : n ≤ 64) (hm : (m : Int) = n * n) :
    Calls Try.prog 6 #[.int .i64 side, .int .i64 n, .agg #[.int .i64 px, .int .i64 py]] w fun e w' => e = .returned (.bool true) ∧ Below w.heap.size w w' := by
  have HB := Aside0.mk (below_alloc (Below.refl w.heap.size w) (.cells #[.int .i64 px, .int .i64 py] 23))
  have HP := Aside0.mk (blk_new w (.cells #[.int .i64 px, .int .i64 py] 23))
  have HM := Aside0.mk (And.intro (And.intro h1 h2) (And.intro (And.intro h3 h4) hm))
  have c1 : decide (1 ≤ side) = true := decide_eq_true h1
  have c2 : decide (side ≤ 17179869184) = true := decide_eq_true h2
  have c3 : decide (1 ≤ n) = true := decide_eq_true h3
  have c4 : decide (n ≤ 64) = true := decide_eq_true h4
  clear hm
  go_enter Try.func6, Try.ntmps6
  go_wp2_with fail
  obtain ⟨w0, hw0⟩ : ∃ w0, w0 = w.alloc (.cells #[.int .i64 px, .int .i64 py] 23) := ⟨_, rfl⟩
  rw [← hw0] at HB HP ⊢
  clear hw0
  with_reducible refine (new_some side n m _ HM.out.1.1 HM.out.1.2 HM.out.2.1.1 HM.out.2.1.2 HM.out.2.2).mono ?_
  rintro e w1 ⟨rfl, hw1⟩
  have s1 : (w0.alloc (.cells (nils m) 57)).heap.size = w0.heap.size + 1 := World.size_alloc _ _
  have hg := blk_new (w0.alloc (.cells (nils m) 57)) (.cells #[.int .i64 side, .int .i64 n, .slice (some ⟨w0.heap.size, 0, none⟩) m m, .int .i64 0] 48)
  have hb1 := below_alloc (below_alloc (Below.refl w0.heap.size w0) (.cells (nils m) 57)) (.cells #[.int .i64 side, .int .i64 n, .slice (some ⟨w0.heap.size, 0, none⟩) m m, .int .i64 0] 48)
  rw [s1] at hg
  rw [← hw1] at hg hb1
  clear hw1 s1
  have HG := Aside0.mk hg
  have HB1 := Aside0.mk (below_step HB.out hb1)
  have HP1 := Aside0.mk (blk_below HP.out hb1)
  have p0 : w1.cell? ⟨w.heap.size, 0, none⟩ = some (.int .i64 px) := (blk_cell HP1.out 0).trans rfl
  have p1 : w1.cell? ⟨w.heap.size, 1, none⟩ = some (.int .i64 py) := (blk_cell HP1.out 1).trans rfl
  clear hg hb1 HB HP HP1
  go_wp2_with (first | (with_reducible go_at_call 12; with_reducible refine (near_zero _ side n px py _ _ HM.out.1.1 HM.out.1.2 HM.out.2.1.1 HM.out.2.1.2 HG.out).mono ?_; rintro e w4 ⟨rfl, hb⟩; have HB4 := Aside0.mk (below_step HB1.out hb); have z3 : w4.cell? ⟨w0.heap.size + 1, 3, none⟩ = some (.int .i64 0) := (blk_cell (blk_below HG.out hb) 3).trans rfl; clear hb HB1 HG) | (with_reducible go_at_call 14; with_reducible refine (len_c _ 0 _ z3).mono ?_; rintro e w5 ⟨rfl, rfl⟩) | (with_reducible go_at_call 11; with_reducible refine (lives_c _).mono ?_; rintro e w6 ⟨rfl, hb⟩; have HB6 := Aside0.mk (below_step HB4.out hb); clear hb) | fail)
  go_ret
  exact ⟨rfl, HB6.out⟩
set_option maxHeartbeats 4000000 in
theorem news_none0 (side n px py : Int) (w : World) (h : ¬ (1 ≤ side ∧ side ≤ 17179869184 ∧ 1 ≤ n ∧ n ≤ 64)) (c0 : decide (1 ≤ side) = false) :
    Calls Try.prog 6 #[.int .i64 side, .int .i64 n, .agg #[.int .i64 px, .int .i64 py]] w fun e w' => e = .returned (.bool true) ∧ Below w.heap.size w w' := by
  have HB := Aside0.mk (below_alloc (Below.refl w.heap.size w) (.cells #[.int .i64 px, .int .i64 py] 23))
  have HP := Aside0.mk (blk_new w (.cells #[.int .i64 px, .int .i64 py] 23))
  have HN := Aside0.mk h
  clear h
  go_enter Try.func6, Try.ntmps6
  go_wp2_with (first | (with_reducible go_at_call 8; with_reducible refine (new_none side n _ HN.out).mono ?_; rintro e w1 ⟨rfl, rfl⟩) | (with_reducible go_at_call 9; with_reducible refine (Cell_at _ px py (-1) (-1) false _ (CellAt.nil px py _)).mono ?_; rintro e w2 ⟨rfl, hb⟩; have HB2 := Aside0.mk (below_step HB.out hb); have HP2 := Aside0.mk (blk_below HP.out hb); have p0 : w2.cell? ⟨w.heap.size, 0, none⟩ = some (.int .i64 px) := (blk_cell HP2.out 0).trans rfl; have p1 : w2.cell? ⟨w.heap.size, 1, none⟩ = some (.int .i64 py) := (blk_cell HP2.out 1).trans rfl; clear hb HB HP) | (with_reducible go_at_call 13; with_reducible refine (put_none _ 1 px py (-1) (-1) _ (CellAt.nil px py _)).mono ?_; rintro e w3 ⟨⟨v3, rfl⟩, hb⟩; have HB3 := Aside0.mk (below_step HB2.out hb); have HP3 := Aside0.mk (blk_below HP2.out hb); clear p0 p1; have p0 : w3.cell? ⟨w.heap.size, 0, none⟩ = some (.int .i64 px) := (blk_cell HP3.out 0).trans rfl; have p1 : w3.cell? ⟨w.heap.size, 1, none⟩ = some (.int .i64 py) := (blk_cell HP3.out 1).trans rfl; clear hb HB2 HP2) | (with_reducible go_at_call 15; with_reducible refine (drop_none _ 1 px py (-1) (-1) _ (CellAt.nil px py _)).mono ?_; rintro e w4 ⟨⟨v4, rfl⟩, hb⟩; have HB4 := Aside0.mk (below_step HB3.out hb); have HP4 := Aside0.mk (blk_below HP3.out hb); clear p0 p1; have p0 : w4.cell? ⟨w.heap.size, 0, none⟩ = some (.int .i64 px) := (blk_cell HP4.out 0).trans rfl; have p1 : w4.cell? ⟨w.heap.size, 1, none⟩ = some (.int .i64 py) := (blk_cell HP4.out 1).trans rfl; clear hb HB3 HP3) | (with_reducible go_at_call 12; with_reducible refine (near_off px py (-1) (-1) _ none (CellAt.nil px py _)).mono ?_; rintro e w5 ⟨rfl, hb⟩; have HB5 := Aside0.mk (below_step HB4.out hb); clear hb HB4 HP4 p0 p1) | (with_reducible go_at_call 14; with_reducible refine (len_nil _).mono ?_; rintro e w6 ⟨rfl, rfl⟩) | (with_reducible go_at_call 11; with_reducible refine (lives_c _).mono ?_; rintro e w7 ⟨rfl, hb⟩; have HB7 := Aside0.mk (below_step HB5.out hb); clear hb) | fail)
  go_ret
  exact ⟨rfl, HB7.out⟩
set_option maxHeartbeats 4000000 in
theorem news_none1 (side n px py : Int) (w : World) (h : ¬ (1 ≤ side ∧ side ≤ 17179869184 ∧ 1 ≤ n ∧ n ≤ 64)) (c0 : decide (1 ≤ side) = true) (c1 : decide (side ≤ 17179869184) = false) :
    Calls Try.prog 6 #[.int .i64 side, .int .i64 n, .agg #[.int .i64 px, .int .i64 py]] w fun e w' => e = .returned (.bool true) ∧ Below w.heap.size w w' := by
  have HB := Aside0.mk (below_alloc (Below.refl w.heap.size w) (.cells #[.int .i64 px, .int .i64 py] 23))
  have HP := Aside0.mk (blk_new w (.cells #[.int .i64 px, .int .i64 py] 23))
  have HN := Aside0.mk h
  clear h
  go_enter Try.func6, Try.ntmps6
  go_wp2_with (first | (with_reducible go_at_call 8; with_reducible refine (new_none side n _ HN.out).mono ?_; rintro e w1 ⟨rfl, rfl⟩) | (with_reducible go_at_call 9; with_reducible refine (Cell_at _ px py (-1) (-1) false _ (CellAt.nil px py _)).mono ?_; rintro e w2 ⟨rfl, hb⟩; have HB2 := Aside0.mk (below_step HB.out hb); have HP2 := Aside0.mk (blk_below HP.out hb); have p0 : w2.cell? ⟨w.heap.size, 0, none⟩ = some (.int .i64 px) := (blk_cell HP2.out 0).trans rfl; have p1 : w2.cell? ⟨w.heap.size, 1, none⟩ = some (.int .i64 py) := (blk_cell HP2.out 1).trans rfl; clear hb HB HP) | (with_reducible go_at_call 13; with_reducible refine (put_none _ 1 px py (-1) (-1) _ (CellAt.nil px py _)).mono ?_; rintro e w3 ⟨⟨v3, rfl⟩, hb⟩; have HB3 := Aside0.mk (below_step HB2.out hb); have HP3 := Aside0.mk (blk_below HP2.out hb); clear p0 p1; have p0 : w3.cell? ⟨w.heap.size, 0, none⟩ = some (.int .i64 px) := (blk_cell HP3.out 0).trans rfl; have p1 : w3.cell? ⟨w.heap.size, 1, none⟩ = some (.int .i64 py) := (blk_cell HP3.out 1).trans rfl; clear hb HB2 HP2) | (with_reducible go_at_call 15; with_reducible refine (drop_none _ 1 px py (-1) (-1) _ (CellAt.nil px py _)).mono ?_; rintro e w4 ⟨⟨v4, rfl⟩, hb⟩; have HB4 := Aside0.mk (below_step HB3.out hb); have HP4 := Aside0.mk (blk_below HP3.out hb); clear p0 p1; have p0 : w4.cell? ⟨w.heap.size, 0, none⟩ = some (.int .i64 px) := (blk_cell HP4.out 0).trans rfl; have p1 : w4.cell? ⟨w.heap.size, 1, none⟩ = some (.int .i64 py) := (blk_cell HP4.out 1).trans rfl; clear hb HB3 HP3) | (with_reducible go_at_call 12; with_reducible refine (near_off px py (-1) (-1) _ none (CellAt.nil px py _)).mono ?_; rintro e w5 ⟨rfl, hb⟩; have HB5 := Aside0.mk (below_step HB4.out hb); clear hb HB4 HP4 p0 p1) | (with_reducible go_at_call 14; with_reducible refine (len_nil _).mono ?_; rintro e w6 ⟨rfl, rfl⟩) | (with_reducible go_at_call 11; with_reducible refine (lives_c _).mono ?_; rintro e w7 ⟨rfl, hb⟩; have HB7 := Aside0.mk (below_step HB5.out hb); clear hb) | fail)
  go_ret
  exact ⟨rfl, HB7.out⟩
set_option maxHeartbeats 4000000 in
theorem news_none2 (side n px py : Int) (w : World) (h : ¬ (1 ≤ side ∧ side ≤ 17179869184 ∧ 1 ≤ n ∧ n ≤ 64)) (c0 : decide (1 ≤ side) = true) (c1 : decide (side ≤ 17179869184) = true) (c2 : decide (1 ≤ n) = false) :
    Calls Try.prog 6 #[.int .i64 side, .int .i64 n, .agg #[.int .i64 px, .int .i64 py]] w fun e w' => e = .returned (.bool true) ∧ Below w.heap.size w w' := by
  have HB := Aside0.mk (below_alloc (Below.refl w.heap.size w) (.cells #[.int .i64 px, .int .i64 py] 23))
  have HP := Aside0.mk (blk_new w (.cells #[.int .i64 px, .int .i64 py] 23))
  have HN := Aside0.mk h
  clear h
  go_enter Try.func6, Try.ntmps6
  go_wp2_with (first | (with_reducible go_at_call 8; with_reducible refine (new_none side n _ HN.out).mono ?_; rintro e w1 ⟨rfl, rfl⟩) | (with_reducible go_at_call 9; with_reducible refine (Cell_at _ px py (-1) (-1) false _ (CellAt.nil px py _)).mono ?_; rintro e w2 ⟨rfl, hb⟩; have HB2 := Aside0.mk (below_step HB.out hb); have HP2 := Aside0.mk (blk_below HP.out hb); have p0 : w2.cell? ⟨w.heap.size, 0, none⟩ = some (.int .i64 px) := (blk_cell HP2.out 0).trans rfl; have p1 : w2.cell? ⟨w.heap.size, 1, none⟩ = some (.int .i64 py) := (blk_cell HP2.out 1).trans rfl; clear hb HB HP) | (with_reducible go_at_call 13; with_reducible refine (put_none _ 1 px py (-1) (-1) _ (CellAt.nil px py _)).mono ?_; rintro e w3 ⟨⟨v3, rfl⟩, hb⟩; have HB3 := Aside0.mk (below_step HB2.out hb); have HP3 := Aside0.mk (blk_below HP2.out hb); clear p0 p1; have p0 : w3.cell? ⟨w.heap.size, 0, none⟩ = some (.int .i64 px) := (blk_cell HP3.out 0).trans rfl; have p1 : w3.cell? ⟨w.heap.size, 1, none⟩ = some (.int .i64 py) := (blk_cell HP3.out 1).trans rfl; clear hb HB2 HP2) | (with_reducible go_at_call 15; with_reducible refine (drop_none _ 1 px py (-1) (-1) _ (CellAt.nil px py _)).mono ?_; rintro e w4 ⟨⟨v4, rfl⟩, hb⟩; have HB4 := Aside0.mk (below_step HB3.out hb); have HP4 := Aside0.mk (blk_below HP3.out hb); clear p0 p1; have p0 : w4.cell? ⟨w.heap.size, 0, none⟩ = some (.int .i64 px) := (blk_cell HP4.out 0).trans rfl; have p1 : w4.cell? ⟨w.heap.size, 1, none⟩ = some (.int .i64 py) := (blk_cell HP4.out 1).trans rfl; clear hb HB3 HP3) | (with_reducible go_at_call 12; with_reducible refine (near_off px py (-1) (-1) _ none (CellAt.nil px py _)).mono ?_; rintro e w5 ⟨rfl, hb⟩; have HB5 := Aside0.mk (below_step HB4.out hb); clear hb HB4 HP4 p0 p1) | (with_reducible go_at_call 14; with_reducible refine (len_nil _).mono ?_; rintro e w6 ⟨rfl, rfl⟩) | (with_reducible go_at_call 11; with_reducible refine (lives_c _).mono ?_; rintro e w7 ⟨rfl, hb⟩; have HB7 := Aside0.mk (below_step HB5.out hb); clear hb) | fail)
  go_ret
  exact ⟨rfl, HB7.out⟩
set_option maxHeartbeats 4000000 in
theorem news_none3 (side n px py : Int) (w : World) (h : ¬ (1 ≤ side ∧ side ≤ 17179869184 ∧ 1 ≤ n ∧ n ≤ 64)) (c0 : decide (1 ≤ side) = true) (c1 : decide (side ≤ 17179869184) = true) (c2 : decide (1 ≤ n) = true) (c3 : decide (n ≤ 64) = false) :
    Calls Try.prog 6 #[.int .i64 side, .int .i64 n, .agg #[.int .i64 px, .int .i64 py]] w fun e w' => e = .returned (.bool true) ∧ Below w.heap.size w w' := by
  have HB := Aside0.mk (below_alloc (Below.refl w.heap.size w) (.cells #[.int .i64 px, .int .i64 py] 23))
  have HP := Aside0.mk (blk_new w (.cells #[.int .i64 px, .int .i64 py] 23))
  have HN := Aside0.mk h
  clear h
  go_enter Try.func6, Try.ntmps6
  go_wp2_with (first | (with_reducible go_at_call 8; with_reducible refine (new_none side n _ HN.out).mono ?_; rintro e w1 ⟨rfl, rfl⟩) | (with_reducible go_at_call 9; with_reducible refine (Cell_at _ px py (-1) (-1) false _ (CellAt.nil px py _)).mono ?_; rintro e w2 ⟨rfl, hb⟩; have HB2 := Aside0.mk (below_step HB.out hb); have HP2 := Aside0.mk (blk_below HP.out hb); have p0 : w2.cell? ⟨w.heap.size, 0, none⟩ = some (.int .i64 px) := (blk_cell HP2.out 0).trans rfl; have p1 : w2.cell? ⟨w.heap.size, 1, none⟩ = some (.int .i64 py) := (blk_cell HP2.out 1).trans rfl; clear hb HB HP) | (with_reducible go_at_call 13; with_reducible refine (put_none _ 1 px py (-1) (-1) _ (CellAt.nil px py _)).mono ?_; rintro e w3 ⟨⟨v3, rfl⟩, hb⟩; have HB3 := Aside0.mk (below_step HB2.out hb); have HP3 := Aside0.mk (blk_below HP2.out hb); clear p0 p1; have p0 : w3.cell? ⟨w.heap.size, 0, none⟩ = some (.int .i64 px) := (blk_cell HP3.out 0).trans rfl; have p1 : w3.cell? ⟨w.heap.size, 1, none⟩ = some (.int .i64 py) := (blk_cell HP3.out 1).trans rfl; clear hb HB2 HP2) | (with_reducible go_at_call 15; with_reducible refine (drop_none _ 1 px py (-1) (-1) _ (CellAt.nil px py _)).mono ?_; rintro e w4 ⟨⟨v4, rfl⟩, hb⟩; have HB4 := Aside0.mk (below_step HB3.out hb); have HP4 := Aside0.mk (blk_below HP3.out hb); clear p0 p1; have p0 : w4.cell? ⟨w.heap.size, 0, none⟩ = some (.int .i64 px) := (blk_cell HP4.out 0).trans rfl; have p1 : w4.cell? ⟨w.heap.size, 1, none⟩ = some (.int .i64 py) := (blk_cell HP4.out 1).trans rfl; clear hb HB3 HP3) | (with_reducible go_at_call 12; with_reducible refine (near_off px py (-1) (-1) _ none (CellAt.nil px py _)).mono ?_; rintro e w5 ⟨rfl, hb⟩; have HB5 := Aside0.mk (below_step HB4.out hb); clear hb HB4 HP4 p0 p1) | (with_reducible go_at_call 14; with_reducible refine (len_nil _).mono ?_; rintro e w6 ⟨rfl, rfl⟩) | (with_reducible go_at_call 11; with_reducible refine (lives_c _).mono ?_; rintro e w7 ⟨rfl, hb⟩; have HB7 := Aside0.mk (below_step HB5.out hb); clear hb) | fail)
  go_ret
  exact ⟨rfl, HB7.out⟩
theorem news_calls (side n px py : Int) (w : World) (hs : (Lit.int .i64 side).wf = true) (hn : (Lit.int .i64 n).wf = true) (hx : (Lit.int .i64 px).wf = true) (hy : (Lit.int .i64 py).wf = true) :
    Calls Try.prog 6 #[.int .i64 side, .int .i64 n, .agg #[.int .i64 px, .int .i64 py]] w fun e w' => e = .returned (.bool true) ∧ Below w.heap.size w w' := by
  by_cases a1 : 1 ≤ side
  case neg => exact news_none0 side n px py w (fun h => a1 h.1) (decide_eq_false a1)
  by_cases a2 : side ≤ 17179869184
  case neg => exact news_none1 side n px py w (fun h => a2 h.2.1) (decide_eq_true a1) (decide_eq_false a2)
  by_cases a3 : 1 ≤ n
  case neg => exact news_none2 side n px py w (fun h => a3 h.2.2.1) (decide_eq_true a1) (decide_eq_true a2) (decide_eq_false a3)
  by_cases a4 : n ≤ 64
  case neg => exact news_none3 side n px py w (fun h => a4 h.2.2.2) (decide_eq_true a1) (decide_eq_true a2) (decide_eq_true a3) (decide_eq_false a4)
  have m0 : 0 ≤ n * n := Int.mul_nonneg (by omega) (by omega)
  exact news_some side n px py (n * n).toNat w a1 a2 a3 a4 (by omega)
end Go.Proofs.Ytfangodjmppooaa.Rd
end

section
/- Numbers as digits to the base 65536, the lowest first: their values, their one form. Plain lists and whole numbers. -/
namespace Go.Proofs.Ytfangodjmppooaa.Dig
open Go Go.RowKit Go.Proofs.YtfangodjmppooaaW.PrintWords

theorem w64 {x : Int} (h : -9223372036854775808 ≤ x) (h' : x ≤ 9223372036854775807) : wrap64 x = x := by unfold wrap64; omega

/-- The value of digits. -/
def val : List Int → Int
  | [] => 0
  | d :: l => d + 65536 * val l
/-- All are digits. -/
def Dg (l : List Int) : Prop := ∀ d, d ∈ l → 0 ≤ d ∧ d < 65536
/-- In the one form: the last one is not nought. -/
def Cn (l : List Int) : Prop := Dg l ∧ (l = [] ∨ l.getD (l.length - 1) 0 ≠ 0)
def P : Nat → Int
  | 0 => 1
  | k + 1 => 65536 * P k

theorem P_pos (k : Nat) : 1 ≤ P k := by
  induction k with
  | zero => simp [P]
  | succ k ih => simp only [P]; omega
theorem P_add (a b : Nat) : P (a + b) = P a * P b := by
  induction b with
  | zero => simp [P]
  | succ b ih => rw [show a + (b + 1) = (a + b) + 1 from rfl, P, ih, P]; grind
theorem P_mono {a b : Nat} (h : a ≤ b) : P a ≤ P b := by
  obtain ⟨c, rfl⟩ : ∃ c, b = a + c := ⟨b - a, by omega⟩
  rw [P_add]
  have h1 := P_pos a
  have h2 := P_pos c
  have : P a * 1 ≤ P a * P c := Int.mul_le_mul_of_nonneg_left h2 (by omega)
  omega

theorem Dg_nil : Dg [] := fun d h => by cases h
theorem Dg_cons {d : Int} {l : List Int} : Dg (d :: l) ↔ (0 ≤ d ∧ d < 65536) ∧ Dg l := by simp [Dg]
theorem Dg_app {a b : List Int} : Dg (a ++ b) ↔ Dg a ∧ Dg b := by
  constructor
  · intro h
    exact ⟨fun d hd => h d (List.mem_append_left _ hd), fun d hd => h d (List.mem_append_right _ hd)⟩
  · rintro ⟨h1, h2⟩ d hd
    rcases List.mem_append.1 hd with hd | hd
    · exact h1 d hd
    · exact h2 d hd
theorem Dg_one {d : Int} (h : 0 ≤ d) (h' : d < 65536) : Dg [d] := fun x hx => by
  rw [List.mem_singleton.1 hx]; exact ⟨h, h'⟩
theorem Dg_take {l : List Int} (h : Dg l) (n : Nat) : Dg (l.take n) := fun d hd => h d (List.mem_of_mem_take hd)
theorem Dg_drop {l : List Int} (h : Dg l) (n : Nat) : Dg (l.drop n) := fun d hd => h d (List.mem_of_mem_drop hd)
theorem Dg_get {l : List Int} (h : Dg l) (n : Nat) : 0 ≤ l.getD n 0 ∧ l.getD n 0 < 65536 := by
  rw [List.getD_eq_getElem?_getD]
  cases e : l[n]? with
  | none => simp
  | some x => simpa using h x (List.mem_of_getElem? e)
theorem Dg_rd {l : List Int} (h : Dg l) (i : Int) : 0 ≤ rd l i ∧ rd l i < 65536 := Dg_get h _

theorem val_app (a b : List Int) : val (a ++ b) = val a + P a.length * val b := by
  induction a with
  | nil => simp [val, P]
  | cons d a ih => simp only [List.cons_append, val, ih, List.length_cons, P]; grind
theorem val_snoc (a : List Int) (d : Int) : val (a ++ [d]) = val a + P a.length * d := by
  rw [val_app]; simp [val]
theorem val_nonneg {l : List Int} (h : Dg l) : 0 ≤ val l := by
  induction l with
  | nil => simp [val]
  | cons d l ih =>
    have := (Dg_cons.1 h)
    have := ih this.2
    simp only [val]; omega
theorem val_lt {l : List Int} (h : Dg l) : val l < P l.length := by
  induction l with
  | nil => simp [val, P]
  | cons d l ih =>
    have := (Dg_cons.1 h)
    have := ih this.2
    simp only [val, List.length_cons, P]; omega
theorem val_zero_of {l : List Int} (h : ∀ d, d ∈ l → d = 0) : val l = 0 := by
  induction l with
  | nil => rfl
  | cons d l ih =>
    simp only [val]
    rw [ih (fun x hx => h x (List.mem_cons_of_mem _ hx)), h d List.mem_cons_self]; rfl
/-- The rest from a place on. -/
theorem val_drop {l : List Int} {i : Nat} (h : i < l.length) : val (l.drop i) = l.getD i 0 + 65536 * val (l.drop (i + 1)) := by
  rw [List.drop_eq_getElem_cons h, val]
  simp [List.getD_eq_getElem?_getD, List.getElem?_eq_getElem h]
theorem val_drop_all {l : List Int} {i : Nat} (h : l.length ≤ i) : val (l.drop i) = 0 := by
  rw [List.drop_eq_nil_of_le h]; rfl
theorem val_take_drop (l : List Int) (i : Nat) (h : i ≤ l.length) : val l = val (l.take i) + P i * val (l.drop i) := by
  have := val_app (l.take i) (l.drop i)
  rw [List.take_append_drop, List.length_take, Nat.min_eq_left h] at this
  exact this
theorem take_succ' {l : List Int} {i : Nat} (h : i < l.length) : l.take (i + 1) = l.take i ++ [l.getD i 0] := by
  rw [List.take_succ_eq_append_getElem h]
  simp [List.getD_eq_getElem?_getD, List.getElem?_eq_getElem h]

theorem Cn_nil : Cn [] := ⟨Dg_nil, .inl rfl⟩
/-- The last digit counts. -/
theorem Cn_low {l : List Int} (h : Cn l) (hn : l ≠ []) : P (l.length - 1) ≤ val l := by
  obtain ⟨h1, h2 | h2⟩ := h
  · exact absurd h2 hn
  · have hl : 0 < l.length := List.length_pos_iff.2 hn
    have e := val_take_drop l (l.length - 1) (by omega)
    have e2 := val_drop (l := l) (i := l.length - 1) (by omega)
    rw [val_drop_all (i := l.length - 1 + 1) (by omega)] at e2
    have hg := Dg_get h1 (l.length - 1)
    have h0 := val_nonneg (Dg_take h1 (l.length - 1))
    have hp := P_pos (l.length - 1)
    have : P (l.length - 1) * 1 ≤ P (l.length - 1) * val (l.drop (l.length - 1)) := Int.mul_le_mul_of_nonneg_left (by omega) (by omega)
    omega
theorem Cn_zero {l : List Int} (h : Cn l) (h0 : val l = 0) : l = [] := by
  by_cases hn : l = []
  · exact hn
  · have := Cn_low h hn
    have := P_pos (l.length - 1)
    omega
theorem Cn_tail {d : Int} {l : List Int} (h : Cn (d :: l)) : Cn l := by
  refine ⟨(Dg_cons.1 h.1).2, ?_⟩
  rcases l with _ | ⟨e, l⟩
  · exact .inl rfl
  · refine .inr ?_
    rcases h.2 with h2 | h2
    · cases h2
    · simpa using h2
/-- One value, one form. -/
theorem Cn_one {a b : List Int} (ha : Cn a) (hb : Cn b) (h : val a = val b) : a = b := by
  induction a generalizing b with
  | nil => exact (Cn_zero hb (by rw [← h]; rfl)).symm
  | cons d a ih =>
    rcases b with _ | ⟨e, b⟩
    · exact Cn_zero ha (by rw [h]; rfl)
    · simp only [val] at h
      have h1 := (Dg_cons.1 ha.1).1
      have h2 := (Dg_cons.1 hb.1).1
      have hd : d = e := by omega
      subst hd
      rw [ih (Cn_tail ha) (Cn_tail hb) (by omega)]
theorem Cn_longer {a b : List Int} (ha : Dg a) (hb : Cn b) (h : a.length < b.length) : val a < val b := by
  have h1 := val_lt ha
  have h2 := Cn_low hb (by intro e; rw [e] at h; simp at h)
  have h3 := P_mono (a := a.length) (b := b.length - 1) (by omega)
  omega
/-- The digits of a number. -/
def dig (n : Nat) : List Int := if h : n = 0 then [] else ((n % 65536 : Nat) : Int) :: dig (n / 65536)
  termination_by n
  decreasing_by omega
theorem dig_zero : dig 0 = [] := by rw [dig]; simp
theorem dig_pos {n : Nat} (h : n ≠ 0) : dig n = ((n % 65536 : Nat) : Int) :: dig (n / 65536) := by rw [dig]; simp [h]
theorem dig_val (n : Nat) : val (dig n) = n := by
  induction n using Nat.strongRecOn with
  | ind n ih =>
    by_cases h : n = 0
    · subst h; rw [dig_zero]; rfl
    · rw [dig_pos h, val, ih _ (by omega)]; omega
theorem dig_Dg (n : Nat) : Dg (dig n) := by
  induction n using Nat.strongRecOn with
  | ind n ih =>
    by_cases h : n = 0
    · subst h; rw [dig_zero]; exact Dg_nil
    · rw [dig_pos h]; exact Dg_cons.2 ⟨by omega, ih _ (by omega)⟩
theorem dig_ne {n : Nat} (h : n ≠ 0) : dig n ≠ [] := by rw [dig_pos h]; simp
theorem dig_Cn (n : Nat) : Cn (dig n) := by
  induction n using Nat.strongRecOn with
  | ind n ih =>
    by_cases h : n = 0
    · subst h; rw [dig_zero]; exact Cn_nil
    · refine ⟨dig_Dg n, .inr ?_⟩
      rw [dig_pos h]
      have h2 := (ih (n / 65536) (by omega)).2
      by_cases h3 : n / 65536 = 0
      · rw [h3, dig_zero]; simp; omega
      · rcases h2 with h2 | h2
        · exact absurd h2 (dig_ne h3)
        · have hl : 0 < (dig (n / 65536)).length := List.length_pos_iff.2 (dig_ne h3)
          rw [List.length_cons, show (dig (n / 65536)).length + 1 - 1 = ((dig (n / 65536)).length - 1) + 1 from by omega, List.getD_cons_succ]
          exact h2
theorem eq_dig {l : List Int} (h : Cn l) : l = dig (val l).toNat :=
  Cn_one h (dig_Cn _) (by rw [dig_val]; have := val_nonneg h.1; omega)
theorem eq_dig_of {l : List Int} {n : Nat} (h : Cn l) (e : val l = n) : l = dig n := Cn_one h (dig_Cn _) (by rw [dig_val, e])
theorem dig_len {n m : Nat} (h : (n : Int) < P m) : (dig n).length ≤ m := by
  by_cases hn : n = 0
  · subst hn; rw [dig_zero]; simp
  · have h1 := Cn_low (dig_Cn n) (dig_ne hn)
    rw [dig_val] at h1
    rcases Nat.lt_or_ge m (dig n).length with h2 | h2
    · have := P_mono (a := m) (b := (dig n).length - 1) (by omega)
      omega
    · exact h2
theorem dig_len_mono {a b : Nat} (h : a ≤ b) : (dig a).length ≤ (dig b).length := by
  apply dig_len
  have := val_lt (dig_Dg b)
  rw [dig_val] at this
  omega
theorem dig_len_pos {n : Nat} (h : n ≠ 0) : 0 < (dig n).length := List.length_pos_iff.2 (dig_ne h)
end Go.Proofs.Ytfangodjmppooaa.Dig
end

section
namespace Go.Proofs.Ytfangodjmppooaa.F
open Go.RowKit Go.Proofs.YtfangodjmppooaaW.PrintWords Go.Proofs.YtfangodjmppooaaW.PrintLast Go.Proofs.YtfangodjmppooaaW.PrintMore
attribute [local go_sem] max2_int min2_int max_two min_two max_three min_three max_four min_four   -- for this text's walks alone
set_option linter.unusedVariables false
set_option linter.unusedSimpArgs false

/-! ### zelligeref03_Trim: function 49 -/
def zelligeref03_Trim.l0 : Nat → List Int → Int → Option (List Int)
  | 0, _, _ => none
  | k + 1, x0, x3 => if x3 > 0 then (if 0 ≤ (wrap64 (x3 - 1)) then (if (wrap64 (x3 - 1)) < (x0.length : Int) then (if (rd x0 (wrap64 (x3 - 1))) = 0 then (zelligeref03_Trim.l0 k x0 (wrap64 (x3 - 1))) else (if 0 ≤ x3 then (if x3 ≤ (x0.length : Int) then (some (x0.take (x3 : Int).toNat)) else (none)) else (none))) else (none)) else (none)) else (if 0 ≤ x3 then (if x3 ≤ (x0.length : Int) then (some (x0.take (x3 : Int).toNat)) else (none)) else (none))
def zelligeref03_Trim.f (k : Nat) (l0 : List Int) : Option (List Int) := zelligeref03_Trim.l0 k l0 (l0.length : Int)
theorem zelligeref03_Trim.mono_l : ∀ k, (∀ y0 y1, LeO (zelligeref03_Trim.l0 k y0 y1) (zelligeref03_Trim.l0 (k + 1) y0 y1))
  | 0 => fun _ _ r h => by simp [zelligeref03_Trim.l0] at h
  | k + 1 => by
    have ih0 := zelligeref03_Trim.mono_l k
    · intro y0 y1
      unfold zelligeref03_Trim.l0
      repeat' first
      | (with_reducible exact ih0 _ _)
      | (with_reducible exact LeO.refl _)
      | (with_reducible exact LeO.none _)
      | (with_reducible refine LeO.ite ?_ ?_)
      | (with_reducible refine LeO.bind ?_ (fun _ => ?_))
      | exact ih0 _ _
      | exact LeO.none _
      | refine LeO.ite ?_ ?_
      | refine LeO.bind ?_ (fun _ => ?_)
theorem zelligeref03_Trim.mono : ∀ a0 k, LeO (zelligeref03_Trim.f k a0) (zelligeref03_Trim.f (k + 1) a0) := by
  intro a0 k
  have ih0 := zelligeref03_Trim.mono_l k
  unfold zelligeref03_Trim.f
  repeat' first
      | (with_reducible exact ih0 _ _)
      | (with_reducible exact LeO.refl _)
      | (with_reducible exact LeO.none _)
      | (with_reducible refine LeO.ite ?_ ?_)
      | (with_reducible refine LeO.bind ?_ (fun _ => ?_))
      | exact ih0 _ _
      | exact LeO.none _
      | refine LeO.ite ?_ ?_
      | refine LeO.bind ?_ (fun _ => ?_)
set_option maxHeartbeats 8000000 in
set_option maxRecDepth 100000 in
theorem zelligeref03_Trim.calls (k : Nat) (P0_ : Nat → Prop) (u9000_ : Value) (l0 : List Int) (r : List Int) (w0 w : World) (hB : Below w0.heap.size w0 w) (ho0 : Kd.R (Kd.int .i64) 3 w w0.heap.size P0_ u9000_ l0) (h : zelligeref03_Trim.f k l0 = some r) :
    Calls Try.prog 49 #[u9000_] w fun e w' => ∃ v0_ : Value, e = .returned (v0_) ∧ Kd.R (Kd.int .i64) 3 w' w0.heap.size (fun k_ => (P0_ k_ ∨ w.heap.size ≤ k_)) v0_ r ∧ Below w0.heap.size w0 w' ∧ Kept w w' (fun k_ => P0_ k_) := by
  have HO0 := Aside0.mk (show Kd.R (Kd.int .i64) 3 w w0.heap.size (fun k_ => (P0_ k_ ∨ w.heap.size ≤ k_)) u9000_ l0 from Kd.R_mono ho0 (fun k_ hk => (.inl hk)))
  have HK := Aside0.mk (Kept.refl w (fun k_ => P0_ k_))
  have HW0 := Aside0.mk hB.size
  have HB := Aside0.mk hB
  clear hB
  have H : (zelligeref03_Trim.l0 k l0 (l0.length : Int)) = some r := h
  clear h
  have H' := Aside0.mk H
  clear H
  obtain ⟨Ao2, co2, eo2⟩ := Kd.R_slice HO0.out
  subst eo2
  go_enter Try.func49, Try.ntmps49
  go_wp2
  go_loopg [3] k (fun kq v3 w' => ∃ (x3_1 : Int), v3 = .int .i64 x3_1 ∧ Aside0 (zelligeref03_Trim.l0 kq l0 x3_1 = some r) ∧ Aside0 (kq ≤ k) ∧ Aside0 (Kd.R (Kd.int .i64) 3 w' w0.heap.size (fun k_ => (P0_ k_ ∨ w.heap.size ≤ k_)) (.slice Ao2 l0.length co2) l0) ∧ Aside0 (Kept w w' (fun k_ => P0_ k_)) ∧ Aside0 (Below w0.heap.size w0 w'))
  case atStart => exact ⟨((l0.length : Int)), (by first | rfl | (simp; done) | (simp [*]; done)), H', ⟨Nat.le_refl _⟩, ⟨by (with_reducible repeat (first | apply Kd.R_alloc | apply Kd.R_drewN | apply Kd.R_drew)); exact HO0.out⟩, ⟨by repeat (first | (with_reducible first | exact HK.out | apply Kept.alloc | apply Kept.drewN | apply Kept.drew) | exact HK.out)⟩, ⟨by repeat (first | (with_reducible first | exact HB.out | apply below_alloc | apply pw_below_drewN | apply below_drew1) | exact HB.out)⟩⟩
  case round =>
    clear H'
    try clear p2
    obtain ⟨x3_1, rfl, HA, HK1, HO_0, HK, HB⟩ := hrel
    cases gk with
    | zero => exact absurd HA.out (by simp [zelligeref03_Trim.l0])
    | succ k1 =>
      have H := HA.out
      clear HA
      simp only [zelligeref03_Trim.l0] at H
      by_cases c3 : x3_1 > 0
      · rw [if_pos c3] at H
        have c3b0 : decide (0 < x3_1) = true := decide_eq_true c3
        clear c3
        obtain ⟨ji4, hji4⟩ : ∃ j_ : Int, (wrap64 (x3_1 - 1)) = j_ := ⟨_, rfl⟩
        replace H : (if 0 ≤ (ji4) then (if (ji4) < (l0.length : Int) then (if (rd l0 (ji4)) = 0 then (zelligeref03_Trim.l0 k1 l0 ji4) else (if 0 ≤ x3_1 then (if x3_1 ≤ (l0.length : Int) then (some (l0.take (x3_1 : Int).toNat)) else (none)) else (none))) else (none)) else (none)) = some r := by first | (rw [hji4] at H; exact H) | (simp only [hji4] at H ⊢; exact H)
        have hji4w : (IntKind.i64.wrap (x3_1 - 1)) = ji4 := (i64_w _).trans hji4
        by_cases c5 : 0 ≤ (ji4)
        · rw [if_pos c5] at H
          have c5b0 : decide (0 ≤ (ji4)) = true := decide_eq_true c5
          clear c5
          by_cases c6 : (ji4) < (l0.length : Int)
          · rw [if_pos c6] at H
            have c6b0 : decide ((ji4) < (l0.length : Int)) = true := decide_eq_true c6
            clear c6
            by_cases c7 : (rd l0 (ji4)) = 0
            · rw [if_pos c7] at H
              have c7b0 : ((rd l0 (ji4)) == 0) = true := beq_iff_eq.mpr c7
              have c7b1 : ((rd l0 (ji4)) != 0) = false := bne_eq_false_iff_eq.mpr c7
              clear c7
              have H' := Aside0.mk H
              clear H
              have p122 : 0 ≤ ((ji4) : Int) := of_decide_eq_true (by first | (with_reducible assumption) | assumption)
              have q122 : (ji4) < (l0.length : Int) := of_decide_eq_true (by first | (with_reducible assumption) | assumption)
              obtain ⟨ad122, e122, hx122_0⟩ := Kd.at_int (Kd.R_reads' HO_0.out).2.2 (ji4) p122 q122
              cases e122
              replace p122 := eq_true p122
              replace q122 := eq_true q122
              go_wp2
              go_roundg k1
              case measure => have := HK1.out; omega
              case rel => exact ⟨(ji4), (by first | rfl | (simp; done) | (simp only [← hji4] <;> (first | rfl | simp)) | (simp [*]; done)), H', ⟨by have := HK1.out; omega⟩, ⟨by (with_reducible repeat (first | apply Kd.R_alloc | apply Kd.R_drewN | apply Kd.R_drew)); exact HO_0.out⟩, ⟨by repeat (first | (with_reducible first | exact HK.out | apply Kept.alloc | apply Kept.drewN | apply Kept.drew) | exact HK.out)⟩, ⟨by repeat (first | (with_reducible first | exact HB.out | apply below_alloc | apply pw_below_drewN | apply below_drew1) | exact HB.out)⟩⟩
            · rw [if_neg c7] at H
              have c7b0 : ((rd l0 (ji4)) == 0) = false := beq_eq_false_iff_ne.mpr c7
              have c7b1 : ((rd l0 (ji4)) != 0) = true := bne_iff_ne.mpr c7
              by_cases c8 : 0 ≤ x3_1
              · rw [if_pos c8] at H
                have c8b0 := eq_true c8
                have c8b1 : decide (0 ≤ x3_1) = true := decide_eq_true c8
                clear c8
                by_cases c9 : x3_1 ≤ (l0.length : Int)
                · rw [if_pos c9] at H
                  have c9b0 := eq_true c9
                  have c9b1 : decide (x3_1 ≤ (l0.length : Int)) = true := decide_eq_true c9
                  clear c9
                  obtain ⟨y123, hy123⟩ : ∃ y_ : List Int, y_ = (l0.take (x3_1 : Int).toNat) := ⟨_, rfl⟩
                  replace H : (some y123) = some r := by first | (rw [hy123]; with_reducible exact H) | (have H2_ := (Option.bind_some _ _).symm.trans H; rw [hy123]; with_reducible exact H2_) | (have H2_ := (Option.bind_some _ _).symm.trans H; with_reducible exact H2_) | with_reducible exact H | (rw [hy123]; exact H) | exact H
                  have Ny123 := Aside0.mk hy123
                  clear hy123
                  obtain rfl := Option.some.inj H
                  have p122 : 0 ≤ ((ji4) : Int) := of_decide_eq_true (by first | (with_reducible assumption) | assumption)
                  have q122 : (ji4) < (l0.length : Int) := of_decide_eq_true (by first | (with_reducible assumption) | assumption)
                  obtain ⟨ad122, e122, hx122_0⟩ := Kd.at_int (Kd.R_reads' HO_0.out).2.2 (ji4) p122 q122
                  cases e122
                  replace p122 := eq_true p122
                  replace q122 := eq_true q122
                  have q10 : (x3_1 : Int) ≤ ((l0.length : Int) : Int) := of_decide_eq_true (by first | (with_reducible assumption) | assumption)
                  obtain ⟨i010, hi010, _, hsz10, _⟩ := info_parts info3
                  have hcut10 := cut_to (P := Try.prog) 69 3 .i64 Try.underlying69 hi010 (some ad122) l0.length co2 x3_1 (of_decide_eq_true (by first | (with_reducible assumption) | assumption)) q10 (Kd.R_reads' HO_0.out).2.1
                  have hr10 := Kd.R_take (m := (x3_1 : Int).toNat) HO_0.out (by omega)
                  have hy10 : y123.length = (x3_1 : Int).toNat := (by rw [Ny123.out, List.length_take]; omega)
                  rw [← Ny123.out] at hr10
                  rw [← hy10] at hr10 hcut10
                  clear hy10 hi010 hsz10 HO_0
                  have HO125 := Aside0.mk hr10
                  clear hr10
                  replace q10 := eq_true q10
                  go_wp2
                  go_ret
                  exact ⟨_, by first | rfl | (simp [errW_none, errW_some] <;> rfl) | (simp only [← hji4]; first | rfl | (simp [errW_none, errW_some] <;> rfl)) | (simp [*, errW_none, errW_some] <;> rfl), by (with_reducible repeat (first | apply Kd.R_alloc | apply Kd.R_drewN | apply Kd.R_drew)); exact HO125.out, by repeat (first | (with_reducible first | exact HB.out | apply below_alloc | apply pw_below_drewN | apply below_drew1) | exact HB.out), by repeat (first | (with_reducible first | exact HK.out | apply Kept.alloc | apply Kept.drewN | apply Kept.drew) | exact HK.out)⟩
                · rw [if_neg c9] at H
                  exact absurd H (by simp)
              · rw [if_neg c8] at H
                exact absurd H (by simp)
          · rw [if_neg c6] at H
            exact absurd H (by simp)
        · rw [if_neg c5] at H
          exact absurd H (by simp)
      · rw [if_neg c3] at H
        have c3b0 : decide (0 < x3_1) = false := decide_eq_false c3
        clear c3
        by_cases c11 : 0 ≤ x3_1
        · rw [if_pos c11] at H
          have c11b0 := eq_true c11
          have c11b1 : decide (0 ≤ x3_1) = true := decide_eq_true c11
          clear c11
          by_cases c12 : x3_1 ≤ (l0.length : Int)
          · rw [if_pos c12] at H
            have c12b0 := eq_true c12
            have c12b1 : decide (x3_1 ≤ (l0.length : Int)) = true := decide_eq_true c12
            clear c12
            obtain ⟨y126, hy126⟩ : ∃ y_ : List Int, y_ = (l0.take (x3_1 : Int).toNat) := ⟨_, rfl⟩
            replace H : (some y126) = some r := by first | (rw [hy126]; with_reducible exact H) | (have H2_ := (Option.bind_some _ _).symm.trans H; rw [hy126]; with_reducible exact H2_) | (have H2_ := (Option.bind_some _ _).symm.trans H; with_reducible exact H2_) | with_reducible exact H | (rw [hy126]; exact H) | exact H
            have Ny126 := Aside0.mk hy126
            clear hy126
            obtain rfl := Option.some.inj H
            have q13 : (x3_1 : Int) ≤ ((l0.length : Int) : Int) := of_decide_eq_true (by first | (with_reducible assumption) | assumption)
            obtain ⟨i013, hi013, _, hsz13, _⟩ := info_parts info3
            have hcut13 := cut_to (P := Try.prog) 69 3 .i64 Try.underlying69 hi013 Ao2 l0.length co2 x3_1 (of_decide_eq_true (by first | (with_reducible assumption) | assumption)) q13 (Kd.R_reads' HO_0.out).2.1
            have hr13 := Kd.R_take (m := (x3_1 : Int).toNat) HO_0.out (by omega)
            have hy13 : y126.length = (x3_1 : Int).toNat := (by rw [Ny126.out, List.length_take]; omega)
            rw [← Ny126.out] at hr13
            rw [← hy13] at hr13 hcut13
            clear hy13 hi013 hsz13 HO_0
            have HO128 := Aside0.mk hr13
            clear hr13
            replace q13 := eq_true q13
            go_wp2
            go_ret
            exact ⟨_, by first | rfl | (simp [errW_none, errW_some] <;> rfl) | (simp [*, errW_none, errW_some] <;> rfl), by (with_reducible repeat (first | apply Kd.R_alloc | apply Kd.R_drewN | apply Kd.R_drew)); exact HO128.out, by repeat (first | (with_reducible first | exact HB.out | apply below_alloc | apply pw_below_drewN | apply below_drew1) | exact HB.out), by repeat (first | (with_reducible first | exact HK.out | apply Kept.alloc | apply Kept.drewN | apply Kept.drew) | exact HK.out)⟩
          · rw [if_neg c12] at H
            exact absurd H (by simp)
        · rw [if_neg c11] at H
          exact absurd H (by simp)

end Go.Proofs.Ytfangodjmppooaa.F
end

section
namespace Go.Proofs.Ytfangodjmppooaa.F
open Go.RowKit Go.Proofs.YtfangodjmppooaaW.PrintWords Go.Proofs.YtfangodjmppooaaW.PrintLast Go.Proofs.YtfangodjmppooaaW.PrintMore
attribute [local go_sem] max2_int min2_int max_two min_two max_three min_three max_four min_four   -- for this text's walks alone
set_option linter.unusedVariables false
set_option linter.unusedSimpArgs false

/-! ### zelligeref03_Add: function 46 -/
mutual
def zelligeref03_Add.l0 : Nat → List Int → List Int → List Int → Int → Int → Option (List Int)
  | 0, _, _, _, _, _ => none
  | k + 1, x0, x1, x5, x6, x7 => if x7 < (x0.length : Int) then (zelligeref03_Add.j1 k x0 x1 x5 x6 x7 true) else (zelligeref03_Add.j1 k x0 x1 x5 x6 x7 (decide (x7 < (x1.length : Int))))
def zelligeref03_Add.j1 : Nat → List Int → List Int → List Int → Int → Int → Bool → Option (List Int)
  | 0, _, _, _, _, _, _ => none
  | k + 1, x0, x1, x5, x6, x7, x18 => if x18 = true then (if x7 < (x0.length : Int) then (if 0 ≤ x7 then (if x7 < (x1.length : Int) then (if x5.length < 17592186044416 then (zelligeref03_Add.l0 k x0 x1 (x5 ++ [Int.tmod (wrap64 ((wrap64 (x6 + (rd x0 x7))) + (rd x1 x7))) 65536]) (wrap64 (Int.tdiv (wrap64 ((wrap64 (x6 + (rd x0 x7))) + (rd x1 x7))) 65536)) (wrap64 (x7 + 1))) else (none)) else (if x5.length < 17592186044416 then (zelligeref03_Add.l0 k x0 x1 (x5 ++ [Int.tmod (wrap64 (x6 + (rd x0 x7))) 65536]) (wrap64 (Int.tdiv (wrap64 (x6 + (rd x0 x7))) 65536)) (wrap64 (x7 + 1))) else (none))) else (none)) else (if x7 < (x1.length : Int) then (if 0 ≤ x7 then (if x5.length < 17592186044416 then (zelligeref03_Add.l0 k x0 x1 (x5 ++ [Int.tmod (wrap64 (x6 + (rd x1 x7))) 65536]) (wrap64 (Int.tdiv (wrap64 (x6 + (rd x1 x7))) 65536)) (wrap64 (x7 + 1))) else (none)) else (none)) else (if x5.length < 17592186044416 then (zelligeref03_Add.l0 k x0 x1 (x5 ++ [Int.tmod x6 65536]) (wrap64 (Int.tdiv x6 65536)) (wrap64 (x7 + 1))) else (none)))) else (if x5.length < 17592186044416 then ((zelligeref03_Trim.f k (x5 ++ [x6])).bind fun t163 => (some t163)) else (none))
end
def zelligeref03_Add.f (k : Nat) (l0 : List Int) (l1 : List Int) : Option (List Int) := zelligeref03_Add.l0 k l0 l1 (([] : List Int)) 0 0
theorem zelligeref03_Add.mono_l : ∀ k, (∀ y0 y1 y2 y3 y4, LeO (zelligeref03_Add.l0 k y0 y1 y2 y3 y4) (zelligeref03_Add.l0 (k + 1) y0 y1 y2 y3 y4)) ∧ (∀ y0 y1 y2 y3 y4 y5, LeO (zelligeref03_Add.j1 k y0 y1 y2 y3 y4 y5) (zelligeref03_Add.j1 (k + 1) y0 y1 y2 y3 y4 y5))
  | 0 => ⟨fun _ _ _ _ _ r h => by simp [zelligeref03_Add.l0] at h, fun _ _ _ _ _ _ r h => by simp [zelligeref03_Add.j1] at h⟩
  | k + 1 => by
    obtain ⟨ih0, ih1⟩ := zelligeref03_Add.mono_l k
    refine ⟨?_, ?_⟩
    · intro y0 y1 y2 y3 y4
      unfold zelligeref03_Add.l0
      repeat' first
      | (with_reducible exact ih0 _ _ _ _ _)
      | (with_reducible exact ih1 _ _ _ _ _ _)
      | (with_reducible exact zelligeref03_Trim.mono _ _)
      | (with_reducible exact LeO.refl _)
      | (with_reducible exact LeO.none _)
      | (with_reducible refine LeO.ite ?_ ?_)
      | (with_reducible refine LeO.bind ?_ (fun _ => ?_))
      | exact ih0 _ _ _ _ _
      | exact ih1 _ _ _ _ _ _
      | exact zelligeref03_Trim.mono _ _
      | exact LeO.none _
      | refine LeO.ite ?_ ?_
      | refine LeO.bind ?_ (fun _ => ?_)
    · intro y0 y1 y2 y3 y4 y5
      unfold zelligeref03_Add.j1
      repeat' first
      | (with_reducible exact ih0 _ _ _ _ _)
      | (with_reducible exact ih1 _ _ _ _ _ _)
      | (with_reducible exact zelligeref03_Trim.mono _ _)
      | (with_reducible exact LeO.refl _)
      | (with_reducible exact LeO.none _)
      | (with_reducible refine LeO.ite ?_ ?_)
      | (with_reducible refine LeO.bind ?_ (fun _ => ?_))
      | exact ih0 _ _ _ _ _
      | exact ih1 _ _ _ _ _ _
      | exact zelligeref03_Trim.mono _ _
      | exact LeO.none _
      | refine LeO.ite ?_ ?_
      | refine LeO.bind ?_ (fun _ => ?_)
theorem zelligeref03_Add.mono : ∀ a0 a1 k, LeO (zelligeref03_Add.f k a0 a1) (zelligeref03_Add.f (k + 1) a0 a1) := by
  intro a0 a1 k
  obtain ⟨ih0, ih1⟩ := zelligeref03_Add.mono_l k
  unfold zelligeref03_Add.f
  repeat' first
      | (with_reducible exact ih0 _ _ _ _ _)
      | (with_reducible exact ih1 _ _ _ _ _ _)
      | (with_reducible exact zelligeref03_Trim.mono _ _)
      | (with_reducible exact LeO.refl _)
      | (with_reducible exact LeO.none _)
      | (with_reducible refine LeO.ite ?_ ?_)
      | (with_reducible refine LeO.bind ?_ (fun _ => ?_))
      | exact ih0 _ _ _ _ _
      | exact ih1 _ _ _ _ _ _
      | exact zelligeref03_Trim.mono _ _
      | exact LeO.none _
      | refine LeO.ite ?_ ?_
      | refine LeO.bind ?_ (fun _ => ?_)
set_option maxHeartbeats 8000000 in
set_option maxRecDepth 100000 in
theorem zelligeref03_Add.calls (k : Nat) (A0 : Option Addr) (c0 : Nat) (l0 : List Int) (A1 : Option Addr) (c1 : Nat) (l1 : List Int) (r : List Int) (w : World) (hr0 : Kd.C (Kd.int .i64) w A0 l0.length l0) (hc0 : l0.length ≤ c0) (hr1 : Kd.C (Kd.int .i64) w A1 l1.length l1) (hc1 : l1.length ≤ c1) (h : zelligeref03_Add.f k l0 l1 = some r) :
    Calls Try.prog 46 #[.slice A0 l0.length c0, .slice A1 l1.length c1] w fun e w' => ∃ v0_ : Value, e = .returned (v0_) ∧ Kd.R (Kd.int .i64) 3 w' w.heap.size (fun _ => True) v0_ r ∧ Below w.heap.size w w' := by
  have HR0 := Aside0.mk hr0
  have HC0 := Aside0.mk hc0
  clear hr0 hc0
  have HR1 := Aside0.mk hr1
  have HC1 := Aside0.mk hc1
  clear hr1 hc1
  have HB := Aside0.mk (Below.refl w.heap.size w)
  have H : (zelligeref03_Add.l0 k l0 l1 (([] : List Int)) 0 0) = some r := h
  clear h
  obtain ⟨y157, hy157⟩ : ∃ y_ : List Int, y_ = (([] : List Int)) := ⟨_, rfl⟩
  replace H : (zelligeref03_Add.l0 k l0 l1 y157 0 0) = some r := by first | (rw [hy157]; with_reducible exact H) | (have H2_ := (Option.bind_some _ _).symm.trans H; rw [hy157]; with_reducible exact H2_) | (have H2_ := (Option.bind_some _ _).symm.trans H; with_reducible exact H2_) | with_reducible exact H | (rw [hy157]; exact H) | exact H
  have Ny157 := Aside0.mk hy157
  clear hy157
  have H' := Aside0.mk H
  clear H
  go_enter Try.func46, Try.ntmps46
  go_wp2_with (first | ((with_reducible refine gate_dst (N := 8) rfl ?_); (try (refine gate_guard (by rfl) ?_; dsimp only)); refine Kd.R_lit (Kd.int .i64) _ 3 ?hg (N := 8) ?hd (xs := ([] : List Int)) (inner := []) (ok := fun _ => True) (okp := fun _ => True) ?hr ?hp (fun _ hk => hk) trivial (Below.refl _ _) (Nat.le_refl _) (by simp) ?_; (case hd => rfl); (case hg => rfl); (case hr => first | (go_simp; done) | (go_simp; rfl)); (case hp => exact (Reps.none _ _)); intro v158 w3 ho4 hb hg_ hnew_; clear hg_ hnew_; (first | rw [← Ny157.out] at ho4 | (simp only [Int.reduceToNat] at ho4; rw [← Ny157.out] at ho4)); have n0_ := Aside0.mk (Kd.R_lower ho4 (below_size (by repeat (first | (with_reducible first | exact HB.out | apply below_alloc | apply pw_below_drewN | apply below_drew1) | exact HB.out)))); have n1_ := Aside0.mk (below_step (by repeat (first | (with_reducible first | exact HB.out | apply below_alloc | apply pw_below_drewN | apply below_drew1) | exact HB.out)) hb); clear HB; have HO159 := n0_; have HB := n1_; clear n0_ n1_; clear hb ho4))
  go_loopg [5, 6, 7] k (fun kq v5 v6 v7 w' => ∃ (x5_1 : List Int) (x6_1 : Int) (x7_1 : Int), v6 = .int .i64 x6_1 ∧ v7 = .int .i64 x7_1 ∧ Aside0 (zelligeref03_Add.l0 kq l0 l1 x5_1 x6_1 x7_1 = some r) ∧ Aside0 (kq ≤ k) ∧ Aside0 (Kd.R (Kd.int .i64) 3 w' w.heap.size (fun _ => True) v5 x5_1) ∧ Aside0 (Below w.heap.size w w'))
  case atStart => exact ⟨(y157), (0), (0), (by first | rfl | (simp; done) | (simp [*]; done)), (by first | rfl | (simp; done) | (simp [*]; done)), H', ⟨Nat.le_refl _⟩, ⟨by (with_reducible repeat (first | apply Kd.R_alloc | apply Kd.R_drewN | apply Kd.R_drew)); exact HO159.out⟩, ⟨by repeat (first | (with_reducible first | exact HB.out | apply below_alloc | apply pw_below_drewN | apply below_drew1) | exact HB.out)⟩⟩
  case round =>
    clear H'
    try clear c1
    try clear p2
    try clear c4
    obtain ⟨x5_1, x6_1, x7_1, rfl, rfl, HA, HK1, HO_5, HB⟩ := hrel
    cases gk with
    | zero => exact absurd HA.out (by simp [zelligeref03_Add.l0])
    | succ k1 =>
      have H := HA.out
      clear HA
      simp only [zelligeref03_Add.l0] at H
      have HC5 := Aside0.mk H
      clear H
      go_upto_region 3 with (fail)
      go_cut [18] (fun v18 wc => ∃ (kq : Nat) (x18_4 : Bool), v18 = .bool x18_4 ∧ Aside0 (zelligeref03_Add.j1 kq l0 l1 x5_1 x6_1 x7_1 x18_4 = some r) ∧ Aside0 (kq ≤ k1) ∧ Aside0 (Kd.R (Kd.int .i64) 3 wc w.heap.size (fun _ => True) u5 x5_1) ∧ Aside0 (Below w.heap.size w wc))
      case first =>
        have H := HC5.out
        clear HC5
        by_cases c6 : x7_1 < (l0.length : Int)
        · rw [if_pos c6] at H
          have c6b0 : decide (x7_1 < (l0.length : Int)) = true := decide_eq_true c6
          clear c6
          (first | rw [c6b0] | (simp only [i64_w, i32_w]; rw [c6b0]) | skip)
          have H' := Aside0.mk H
          clear H
          go_wp2
          go_meet
          case rel => exact ⟨_, (true), (by first | rfl | (simp; done) | (simp [*]; done)), H', ⟨by have := HK1.out; first | omega | exact Nat.le_refl _⟩, ⟨by (with_reducible repeat (first | apply Kd.R_alloc | apply Kd.R_drewN | apply Kd.R_drew)); exact HO_5.out⟩, ⟨by repeat (first | (with_reducible first | exact HB.out | apply below_alloc | apply pw_below_drewN | apply below_drew1) | exact HB.out)⟩⟩
        · rw [if_neg c6] at H
          have c6b0 : decide (x7_1 < (l0.length : Int)) = false := decide_eq_false c6
          clear c6
          (first | rw [c6b0] | (simp only [i64_w, i32_w]; rw [c6b0]) | skip)
          have H' := Aside0.mk H
          clear H
          go_wp2
          go_meet
          case rel => exact ⟨_, (decide (x7_1 < (l1.length : Int))), (by first | rfl | (simp; done) | (simp [*]; done)), H', ⟨by have := HK1.out; first | omega | exact Nat.le_refl _⟩, ⟨by (with_reducible repeat (first | apply Kd.R_alloc | apply Kd.R_drewN | apply Kd.R_drew)); exact HO_5.out⟩, ⟨by repeat (first | (with_reducible first | exact HB.out | apply below_alloc | apply pw_below_drewN | apply below_drew1) | exact HB.out)⟩⟩
      case rest =>
        clear HC5
        try clear c1
        try clear p2
        try clear c4
        try clear c6
        try clear c6b0
        try clear p2
        obtain ⟨kq, x18_4, rfl, HA, HJ4, HO_5, HB⟩ := hcut
        cases kq with
        | zero => exact absurd HA.out (by simp [zelligeref03_Add.j1])
        | succ kj4 =>
          have H := HA.out
          clear HA
          simp only [zelligeref03_Add.j1] at H
          by_cases c7 : x18_4 = true
          · subst c7
            have H1 : (if x7_1 < (l0.length : Int) then (if 0 ≤ x7_1 then (if x7_1 < (l1.length : Int) then (if x5_1.length < 17592186044416 then (zelligeref03_Add.l0 kj4 l0 l1 (x5_1 ++ [Int.tmod (wrap64 ((wrap64 (x6_1 + (rd l0 x7_1))) + (rd l1 x7_1))) 65536]) (wrap64 (Int.tdiv (wrap64 ((wrap64 (x6_1 + (rd l0 x7_1))) + (rd l1 x7_1))) 65536)) (wrap64 (x7_1 + 1))) else (none)) else (if x5_1.length < 17592186044416 then (zelligeref03_Add.l0 kj4 l0 l1 (x5_1 ++ [Int.tmod (wrap64 (x6_1 + (rd l0 x7_1))) 65536]) (wrap64 (Int.tdiv (wrap64 (x6_1 + (rd l0 x7_1))) 65536)) (wrap64 (x7_1 + 1))) else (none))) else (none)) else (if x7_1 < (l1.length : Int) then (if 0 ≤ x7_1 then (if x5_1.length < 17592186044416 then (zelligeref03_Add.l0 kj4 l0 l1 (x5_1 ++ [Int.tmod (wrap64 (x6_1 + (rd l1 x7_1))) 65536]) (wrap64 (Int.tdiv (wrap64 (x6_1 + (rd l1 x7_1))) 65536)) (wrap64 (x7_1 + 1))) else (none)) else (none)) else (if x5_1.length < 17592186044416 then (zelligeref03_Add.l0 kj4 l0 l1 (x5_1 ++ [Int.tmod x6_1 65536]) (wrap64 (Int.tdiv x6_1 65536)) (wrap64 (x7_1 + 1))) else (none)))) = some r := by rw [if_pos rfl] at H; exact H
            clear H
            have H := H1
            clear H1
            by_cases c8 : x7_1 < (l0.length : Int)
            · rw [if_pos c8] at H
              have c8b0 : decide (x7_1 < (l0.length : Int)) = true := decide_eq_true c8
              clear c8
              by_cases c9 : 0 ≤ x7_1
              · rw [if_pos c9] at H
                have c9b0 : decide (0 ≤ x7_1) = true := decide_eq_true c9
                clear c9
                by_cases c10 : x7_1 < (l1.length : Int)
                · rw [if_pos c10] at H
                  have c10b0 : decide (x7_1 < (l1.length : Int)) = true := decide_eq_true c10
                  clear c10
                  by_cases c11 : x5_1.length < 17592186044416
                  · rw [if_pos c11] at H
                    have LMc11 := Aside0.mk c11
                    clear c11
                    obtain ⟨y168, hy168⟩ : ∃ y_ : List Int, y_ = (x5_1 ++ [Int.tmod (wrap64 ((wrap64 (x6_1 + (rd l0 x7_1))) + (rd l1 x7_1))) 65536]) := ⟨_, rfl⟩
                    replace H : (zelligeref03_Add.l0 kj4 l0 l1 y168 (wrap64 (Int.tdiv (wrap64 ((wrap64 (x6_1 + (rd l0 x7_1))) + (rd l1 x7_1))) 65536)) (wrap64 (x7_1 + 1))) = some r := by first | (rw [hy168]; with_reducible exact H) | (have H2_ := (Option.bind_some _ _).symm.trans H; rw [hy168]; with_reducible exact H2_) | (have H2_ := (Option.bind_some _ _).symm.trans H; with_reducible exact H2_) | with_reducible exact H | (rw [hy168]; exact H) | exact H
                    have Ny168 := Aside0.mk hy168
                    clear hy168
                    have H' := Aside0.mk H
                    clear H
                    have p166 : 0 ≤ (x7_1 : Int) := of_decide_eq_true (by first | (with_reducible assumption) | assumption)
                    have q166 : x7_1 < (l0.length : Int) := of_decide_eq_true (by first | (with_reducible assumption) | assumption)
                    obtain ⟨ad166, e166, hx166_0⟩ := Kd.at_int HR0.out x7_1 p166 q166
                    cases e166
                    replace hx166_0 := (HB.out.cell (World.block_lt_of_cell? w _ hx166_0)).trans hx166_0
                    replace p166 := eq_true p166
                    replace q166 := eq_true q166
                    have p167 : 0 ≤ (x7_1 : Int) := of_decide_eq_true (by first | (with_reducible assumption) | assumption)
                    have q167 : x7_1 < (l1.length : Int) := of_decide_eq_true (by first | (with_reducible assumption) | assumption)
                    obtain ⟨ad167, e167, hx167_0⟩ := Kd.at_int HR1.out x7_1 p167 q167
                    cases e167
                    replace hx167_0 := (HB.out.cell (World.block_lt_of_cell? w _ hx167_0)).trans hx167_0
                    replace p167 := eq_true p167
                    replace q167 := eq_true q167
                    go_wp2_with (first | ((with_reducible refine gate_builtin (b := .append) (xs := #[.tmp 41, .tmp 44]) rfl ?_); (try (refine gate_guard (by rfl) ?_; dsimp only)); at_builtin; refine Kd.R_append (Kd.int .i64) (w0 := w) w.heap.size rfl (.tmp 41) (.tmp 44) 57 3 (.int .i64 0) 8 rfl Try.underlying57 info3 rfl (by decide) (by omega) u5 x5_1 (Int.tmod (wrap64 ((wrap64 (x6_1 + (rd l0 x7_1))) + (rd l1 x7_1))) 65536) [.int .i64 (Int.tmod (wrap64 ((wrap64 (x6_1 + (rd l0 x7_1))) + (rd l1 x7_1))) 65536)] (fun _ => True) (fun _ => False) rfl rfl ?aP (fun _ hk => hk.elim) ?aF ?aO ?aB ?aS ?aL ?_; (case aP => exact rfl); (case aB => exact (by repeat (first | (with_reducible first | exact HB.out | apply below_alloc | apply pw_below_drewN | apply below_drew1) | exact HB.out))); (case aF => exact (fun _ _ => trivial)); (case aO => exact (by (with_reducible repeat (first | apply Kd.R_alloc | apply Kd.R_drewN | apply Kd.R_drew)); exact HO_5.out)); (case aS => exact (below_size (by repeat (first | (with_reducible first | exact HB.out | apply below_alloc | apply pw_below_drewN | apply below_drew1) | exact HB.out)))); (case aL => have := LMc11.out; omega); intro v169 w12 ho hb hg hat; rw [← Ny168.out] at ho; have n0_ := Aside0.mk (hb); have n1_ := Aside0.mk (ho); clear HB; clear HO_5; have HB := n0_; have HO170 := n1_; clear n0_ n1_; clear ho hb hg hat))
                    go_roundg kj4
                    case measure => have := HK1.out; have := HJ4.out; omega
                    case rel => exact ⟨(y168), (wrap64 (Int.tdiv (wrap64 ((wrap64 (x6_1 + (rd l0 x7_1))) + (rd l1 x7_1))) 65536)), (wrap64 (x7_1 + 1)), (by first | rfl | (simp; done) | (simp [*]; done)), (by first | rfl | (simp; done) | (simp [*]; done)), H', ⟨by have := HK1.out; have := HJ4.out; omega⟩, ⟨by (with_reducible repeat (first | apply Kd.R_alloc | apply Kd.R_drewN | apply Kd.R_drew)); exact HO170.out⟩, ⟨by repeat (first | (with_reducible first | exact HB.out | apply below_alloc | apply pw_below_drewN | apply below_drew1) | exact HB.out)⟩⟩
                  · rw [if_neg c11] at H
                    exact absurd H (by simp)
                · rw [if_neg c10] at H
                  have c10b0 : decide (x7_1 < (l1.length : Int)) = false := decide_eq_false c10
                  clear c10
                  by_cases c13 : x5_1.length < 17592186044416
                  · rw [if_pos c13] at H
                    have LMc13 := Aside0.mk c13
                    clear c13
                    obtain ⟨y171, hy171⟩ : ∃ y_ : List Int, y_ = (x5_1 ++ [Int.tmod (wrap64 (x6_1 + (rd l0 x7_1))) 65536]) := ⟨_, rfl⟩
                    replace H : (zelligeref03_Add.l0 kj4 l0 l1 y171 (wrap64 (Int.tdiv (wrap64 (x6_1 + (rd l0 x7_1))) 65536)) (wrap64 (x7_1 + 1))) = some r := by first | (rw [hy171]; with_reducible exact H) | (have H2_ := (Option.bind_some _ _).symm.trans H; rw [hy171]; with_reducible exact H2_) | (have H2_ := (Option.bind_some _ _).symm.trans H; with_reducible exact H2_) | with_reducible exact H | (rw [hy171]; exact H) | exact H
                    have Ny171 := Aside0.mk hy171
                    clear hy171
                    have H' := Aside0.mk H
                    clear H
                    have p166 : 0 ≤ (x7_1 : Int) := of_decide_eq_true (by first | (with_reducible assumption) | assumption)
                    have q166 : x7_1 < (l0.length : Int) := of_decide_eq_true (by first | (with_reducible assumption) | assumption)
                    obtain ⟨ad166, e166, hx166_0⟩ := Kd.at_int HR0.out x7_1 p166 q166
                    cases e166
                    replace hx166_0 := (HB.out.cell (World.block_lt_of_cell? w _ hx166_0)).trans hx166_0
                    replace p166 := eq_true p166
                    replace q166 := eq_true q166
                    go_wp2_with (first | ((with_reducible refine gate_builtin (b := .append) (xs := #[.tmp 41, .tmp 44]) rfl ?_); (try (refine gate_guard (by rfl) ?_; dsimp only)); at_builtin; refine Kd.R_append (Kd.int .i64) (w0 := w) w.heap.size rfl (.tmp 41) (.tmp 44) 57 3 (.int .i64 0) 8 rfl Try.underlying57 info3 rfl (by decide) (by omega) u5 x5_1 (Int.tmod (wrap64 (x6_1 + (rd l0 x7_1))) 65536) [.int .i64 (Int.tmod (wrap64 (x6_1 + (rd l0 x7_1))) 65536)] (fun _ => True) (fun _ => False) rfl rfl ?aP (fun _ hk => hk.elim) ?aF ?aO ?aB ?aS ?aL ?_; (case aP => exact rfl); (case aB => exact (by repeat (first | (with_reducible first | exact HB.out | apply below_alloc | apply pw_below_drewN | apply below_drew1) | exact HB.out))); (case aF => exact (fun _ _ => trivial)); (case aO => exact (by (with_reducible repeat (first | apply Kd.R_alloc | apply Kd.R_drewN | apply Kd.R_drew)); exact HO_5.out)); (case aS => exact (below_size (by repeat (first | (with_reducible first | exact HB.out | apply below_alloc | apply pw_below_drewN | apply below_drew1) | exact HB.out)))); (case aL => have := LMc13.out; omega); intro v172 w14 ho hb hg hat; rw [← Ny171.out] at ho; have n0_ := Aside0.mk (hb); have n1_ := Aside0.mk (ho); clear HB; clear HO_5; have HB := n0_; have HO173 := n1_; clear n0_ n1_; clear ho hb hg hat))
                    go_roundg kj4
                    case measure => have := HK1.out; have := HJ4.out; omega
                    case rel => exact ⟨(y171), (wrap64 (Int.tdiv (wrap64 (x6_1 + (rd l0 x7_1))) 65536)), (wrap64 (x7_1 + 1)), (by first | rfl | (simp; done) | (simp [*]; done)), (by first | rfl | (simp; done) | (simp [*]; done)), H', ⟨by have := HK1.out; have := HJ4.out; omega⟩, ⟨by (with_reducible repeat (first | apply Kd.R_alloc | apply Kd.R_drewN | apply Kd.R_drew)); exact HO173.out⟩, ⟨by repeat (first | (with_reducible first | exact HB.out | apply below_alloc | apply pw_below_drewN | apply below_drew1) | exact HB.out)⟩⟩
                  · rw [if_neg c13] at H
                    exact absurd H (by simp)
              · rw [if_neg c9] at H
                exact absurd H (by simp)
            · rw [if_neg c8] at H
              have c8b0 : decide (x7_1 < (l0.length : Int)) = false := decide_eq_false c8
              clear c8
              by_cases c15 : x7_1 < (l1.length : Int)
              · rw [if_pos c15] at H
                have c15b0 : decide (x7_1 < (l1.length : Int)) = true := decide_eq_true c15
                clear c15
                by_cases c16 : 0 ≤ x7_1
                · rw [if_pos c16] at H
                  have c16b0 : decide (0 ≤ x7_1) = true := decide_eq_true c16
                  clear c16
                  by_cases c17 : x5_1.length < 17592186044416
                  · rw [if_pos c17] at H
                    have LMc17 := Aside0.mk c17
                    clear c17
                    obtain ⟨y175, hy175⟩ : ∃ y_ : List Int, y_ = (x5_1 ++ [Int.tmod (wrap64 (x6_1 + (rd l1 x7_1))) 65536]) := ⟨_, rfl⟩
                    replace H : (zelligeref03_Add.l0 kj4 l0 l1 y175 (wrap64 (Int.tdiv (wrap64 (x6_1 + (rd l1 x7_1))) 65536)) (wrap64 (x7_1 + 1))) = some r := by first | (rw [hy175]; with_reducible exact H) | (have H2_ := (Option.bind_some _ _).symm.trans H; rw [hy175]; with_reducible exact H2_) | (have H2_ := (Option.bind_some _ _).symm.trans H; with_reducible exact H2_) | with_reducible exact H | (rw [hy175]; exact H) | exact H
                    have Ny175 := Aside0.mk hy175
                    clear hy175
                    have H' := Aside0.mk H
                    clear H
                    have p174 : 0 ≤ (x7_1 : Int) := of_decide_eq_true (by first | (with_reducible assumption) | assumption)
                    have q174 : x7_1 < (l1.length : Int) := of_decide_eq_true (by first | (with_reducible assumption) | assumption)
                    obtain ⟨ad174, e174, hx174_0⟩ := Kd.at_int HR1.out x7_1 p174 q174
                    cases e174
                    replace hx174_0 := (HB.out.cell (World.block_lt_of_cell? w _ hx174_0)).trans hx174_0
                    replace p174 := eq_true p174
                    replace q174 := eq_true q174
                    go_wp2_with (first | ((with_reducible refine gate_builtin (b := .append) (xs := #[.tmp 41, .tmp 44]) rfl ?_); (try (refine gate_guard (by rfl) ?_; dsimp only)); at_builtin; refine Kd.R_append (Kd.int .i64) (w0 := w) w.heap.size rfl (.tmp 41) (.tmp 44) 57 3 (.int .i64 0) 8 rfl Try.underlying57 info3 rfl (by decide) (by omega) u5 x5_1 (Int.tmod (wrap64 (x6_1 + (rd l1 x7_1))) 65536) [.int .i64 (Int.tmod (wrap64 (x6_1 + (rd l1 x7_1))) 65536)] (fun _ => True) (fun _ => False) rfl rfl ?aP (fun _ hk => hk.elim) ?aF ?aO ?aB ?aS ?aL ?_; (case aP => exact rfl); (case aB => exact (by repeat (first | (with_reducible first | exact HB.out | apply below_alloc | apply pw_below_drewN | apply below_drew1) | exact HB.out))); (case aF => exact (fun _ _ => trivial)); (case aO => exact (by (with_reducible repeat (first | apply Kd.R_alloc | apply Kd.R_drewN | apply Kd.R_drew)); exact HO_5.out)); (case aS => exact (below_size (by repeat (first | (with_reducible first | exact HB.out | apply below_alloc | apply pw_below_drewN | apply below_drew1) | exact HB.out)))); (case aL => have := LMc17.out; omega); intro v176 w18 ho hb hg hat; rw [← Ny175.out] at ho; have n0_ := Aside0.mk (hb); have n1_ := Aside0.mk (ho); clear HB; clear HO_5; have HB := n0_; have HO177 := n1_; clear n0_ n1_; clear ho hb hg hat))
                    go_roundg kj4
                    case measure => have := HK1.out; have := HJ4.out; omega
                    case rel => exact ⟨(y175), (wrap64 (Int.tdiv (wrap64 (x6_1 + (rd l1 x7_1))) 65536)), (wrap64 (x7_1 + 1)), (by first | rfl | (simp; done) | (simp [*]; done)), (by first | rfl | (simp; done) | (simp [*]; done)), H', ⟨by have := HK1.out; have := HJ4.out; omega⟩, ⟨by (with_reducible repeat (first | apply Kd.R_alloc | apply Kd.R_drewN | apply Kd.R_drew)); exact HO177.out⟩, ⟨by repeat (first | (with_reducible first | exact HB.out | apply below_alloc | apply pw_below_drewN | apply below_drew1) | exact HB.out)⟩⟩
                  · rw [if_neg c17] at H
                    exact absurd H (by simp)
                · rw [if_neg c16] at H
                  exact absurd H (by simp)
              · rw [if_neg c15] at H
                have c15b0 : decide (x7_1 < (l1.length : Int)) = false := decide_eq_false c15
                clear c15
                by_cases c19 : x5_1.length < 17592186044416
                · rw [if_pos c19] at H
                  have LMc19 := Aside0.mk c19
                  clear c19
                  obtain ⟨y178, hy178⟩ : ∃ y_ : List Int, y_ = (x5_1 ++ [Int.tmod x6_1 65536]) := ⟨_, rfl⟩
                  replace H : (zelligeref03_Add.l0 kj4 l0 l1 y178 (wrap64 (Int.tdiv x6_1 65536)) (wrap64 (x7_1 + 1))) = some r := by first | (rw [hy178]; with_reducible exact H) | (have H2_ := (Option.bind_some _ _).symm.trans H; rw [hy178]; with_reducible exact H2_) | (have H2_ := (Option.bind_some _ _).symm.trans H; with_reducible exact H2_) | with_reducible exact H | (rw [hy178]; exact H) | exact H
                  have Ny178 := Aside0.mk hy178
                  clear hy178
                  have H' := Aside0.mk H
                  clear H
                  go_wp2_with (first | ((with_reducible refine gate_builtin (b := .append) (xs := #[.tmp 41, .tmp 44]) rfl ?_); (try (refine gate_guard (by rfl) ?_; dsimp only)); at_builtin; refine Kd.R_append (Kd.int .i64) (w0 := w) w.heap.size rfl (.tmp 41) (.tmp 44) 57 3 (.int .i64 0) 8 rfl Try.underlying57 info3 rfl (by decide) (by omega) u5 x5_1 (Int.tmod x6_1 65536) [.int .i64 (Int.tmod x6_1 65536)] (fun _ => True) (fun _ => False) rfl rfl ?aP (fun _ hk => hk.elim) ?aF ?aO ?aB ?aS ?aL ?_; (case aP => exact rfl); (case aB => exact (by repeat (first | (with_reducible first | exact HB.out | apply below_alloc | apply pw_below_drewN | apply below_drew1) | exact HB.out))); (case aF => exact (fun _ _ => trivial)); (case aO => exact (by (with_reducible repeat (first | apply Kd.R_alloc | apply Kd.R_drewN | apply Kd.R_drew)); exact HO_5.out)); (case aS => exact (below_size (by repeat (first | (with_reducible first | exact HB.out | apply below_alloc | apply pw_below_drewN | apply below_drew1) | exact HB.out)))); (case aL => have := LMc19.out; omega); intro v179 w20 ho hb hg hat; rw [← Ny178.out] at ho; have n0_ := Aside0.mk (hb); have n1_ := Aside0.mk (ho); clear HB; clear HO_5; have HB := n0_; have HO180 := n1_; clear n0_ n1_; clear ho hb hg hat))
                  go_roundg kj4
                  case measure => have := HK1.out; have := HJ4.out; omega
                  case rel => exact ⟨(y178), (wrap64 (Int.tdiv x6_1 65536)), (wrap64 (x7_1 + 1)), (by first | rfl | (simp; done) | (simp [*]; done)), (by first | rfl | (simp; done) | (simp [*]; done)), H', ⟨by have := HK1.out; have := HJ4.out; omega⟩, ⟨by (with_reducible repeat (first | apply Kd.R_alloc | apply Kd.R_drewN | apply Kd.R_drew)); exact HO180.out⟩, ⟨by repeat (first | (with_reducible first | exact HB.out | apply below_alloc | apply pw_below_drewN | apply below_drew1) | exact HB.out)⟩⟩
                · rw [if_neg c19] at H
                  exact absurd H (by simp)
          · replace c7 := Bool.eq_false_iff.mpr c7
            subst c7
            have H1 : (if x5_1.length < 17592186044416 then ((zelligeref03_Trim.f kj4 (x5_1 ++ [x6_1])).bind fun t163 => (some t163)) else (none)) = some r := by rw [if_neg (show ¬ (false = true) by decide)] at H; exact H
            clear H
            have H := H1
            clear H1
            by_cases c21 : x5_1.length < 17592186044416
            · rw [if_pos c21] at H
              have LMc21 := Aside0.mk c21
              clear c21
              obtain ⟨y160, hy160⟩ : ∃ y_ : List Int, y_ = (x5_1 ++ [x6_1]) := ⟨_, rfl⟩
              replace H : ((zelligeref03_Trim.f kj4 y160).bind fun t163 => (some t163)) = some r := by first | (rw [hy160]; with_reducible exact H) | (have H2_ := (Option.bind_some _ _).symm.trans H; rw [hy160]; with_reducible exact H2_) | (have H2_ := (Option.bind_some _ _).symm.trans H; with_reducible exact H2_) | with_reducible exact H | (rw [hy160]; exact H) | exact H
              have Ny160 := Aside0.mk hy160
              clear hy160
              replace H := Option.bind_eq_some_iff.mp H
              obtain ⟨t163, A220, H⟩ := H
              replace H : (some t163) = some r := H
              have A22 := Aside0.mk A220
              clear A220
              obtain rfl := Option.some.inj H
              go_wp2_with (first | ((with_reducible refine gate_builtin (b := .append) (xs := #[.tmp 48, .tmp 50]) rfl ?_); (try (refine gate_guard (by rfl) ?_; dsimp only)); at_builtin; refine Kd.R_append (Kd.int .i64) (w0 := w) w.heap.size rfl (.tmp 48) (.tmp 50) 57 3 (.int .i64 0) 8 rfl Try.underlying57 info3 rfl (by decide) (by omega) u5 x5_1 x6_1 [.int .i64 x6_1] (fun _ => True) (fun _ => False) rfl rfl ?aP (fun _ hk => hk.elim) ?aF ?aO ?aB ?aS ?aL ?_; (case aP => exact rfl); (case aB => exact (by repeat (first | (with_reducible first | exact HB.out | apply below_alloc | apply pw_below_drewN | apply below_drew1) | exact HB.out))); (case aF => exact (fun _ _ => trivial)); (case aO => exact (by (with_reducible repeat (first | apply Kd.R_alloc | apply Kd.R_drewN | apply Kd.R_drew)); exact HO_5.out)); (case aS => exact (below_size (by repeat (first | (with_reducible first | exact HB.out | apply below_alloc | apply pw_below_drewN | apply below_drew1) | exact HB.out)))); (case aL => have := LMc21.out; omega); intro v161 w23 ho hb hg hat; rw [← Ny160.out] at ho; have n0_ := Aside0.mk (hb); have n1_ := Aside0.mk (ho); clear HB; clear HO_5; have HB := n0_; have HO162 := n1_; clear n0_ n1_; clear ho hb hg hat; obtain ⟨Ao24, co24, eo24⟩ := Kd.R_slice HO162.out; subst eo24) | ((with_reducible refine gate_callee (f := 49) rfl ?_); refine goesL_ (some 52) rfl rfl Try.func49 (by kernel_rfl) rfl #[.slice Ao24 y160.length co24] rfl (by (try simp only [List.map_toArray, List.map_cons, List.map_nil]); first | done | rfl | (simp only [List.length_drop, List.length_take]; rfl)) ?_; (with_reducible refine (zelligeref03_Trim.calls kj4 (fun k_ => some k_ = (.slice Ao24 y160.length co24 : Value).ownBlock) (.slice Ao24 y160.length co24) y160 t163 w _ ?side1 ?side2 A22.out).mono ?_); (case side1 => repeat (first | (with_reducible first | exact HB.out | apply below_alloc | apply pw_below_drewN | apply below_drew1) | exact HB.out)); (case side2 => exact Kd.R_tight rfl HO162.out); rintro e w25 ⟨v164, rfl, ho0, hb, hkp⟩; refine ⟨_, rfl, ?_⟩; have n0_ := Aside0.mk (Kd.R_mono (ok' := fun k_ => True) ho0 (fun k_ hk_ => trivial)); have n1_ := Aside0.mk (hb); clear HB; clear HO162; have HO165 := n0_; have HB := n1_; clear n0_ n1_; (try clear hb); (try clear hkp); (try clear ho0)))
              go_ret
              exact ⟨_, by first | rfl | (simp [errW_none, errW_some] <;> rfl) | (simp [*, errW_none, errW_some] <;> rfl), by (with_reducible repeat (first | apply Kd.R_alloc | apply Kd.R_drewN | apply Kd.R_drew)); exact HO165.out, by repeat (first | (with_reducible first | exact HB.out | apply below_alloc | apply pw_below_drewN | apply below_drew1) | exact HB.out)⟩
            · rw [if_neg c21] at H
              exact absurd H (by simp)

end Go.Proofs.Ytfangodjmppooaa.F
end
