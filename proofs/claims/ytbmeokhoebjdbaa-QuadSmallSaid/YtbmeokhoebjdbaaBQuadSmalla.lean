/- QuadSmall: own texts in one (part 1 of 3): contracts of the functions that the law reaches. -/
import Derived.WalkKit
import Derived.ProofKit
import Derived.OpenShut
import Derived.ShutString
import Derived.ChangeOld
import Derived.Below
import Derived.SizedLaws
import Derived.Carry
import Derived.Lib.SmallJoins
import Derived.Test.YtbmeokhoebjdbaaWMore
import Derived.Test.YtbmeokhoebjdbaaProg
import Derived.Deep.Draws
import Derived.Deep.AppendLies
import Derived.Maps.AppendAt
import Derived.OwnWalk
import Derived.Laws.BytesArg
import Derived.Laws.MakeOwn
import Derived.Laws.OwnMore
import Derived.Deep.OwnRows
import Derived.Tactics
import Derived.Lib.ConvBytes
import Derived.Laws.Slices
import Derived.KernelRfl
import Derived.RowKit3
import Derived.Deep.LoopGhost
import Derived.Deep.QuietTactic
import Derived.BigQuiet
import Derived.WideLaws
import Derived.Deep.DeepCutAuto
import Derived.Deep.CutBlock
import Derived.Deep.RegionHeld3
import Derived.Laws.Rows
import Derived.Lib.AppendStr
import Derived.ArgAppend
import Derived.Laws.IdiomCopy
import Derived.OrdersHeld
import Derived.Laws.BitsLemmas
import Derived.RowKit
import Derived.Test.YtbmeokhoebjdbaaWWords
import Derived.Test.YtbmeokhoebjdbaaWLast
import Derived.Test.YtbmeokhoebjdbaaWTab
import Derived.Test.YtbmeokhoebjdbaaWFour
import Derived.Test.YtbmeokhoebjdbaaWQPut
import Derived.Test.YtbmeokhoebjdbaaWApart
import Derived.Test.YtbmeokhoebjdbaaWArr
import Derived.Test.YtbmeokhoebjdbaaWZeros
import Derived.Test.YtbmeokhoebjdbaaWFoot
import Derived.Test.YtbmeokhoebjdbaaWKept
import Derived.Test.YtbmeokhoebjdbaaWShare
import Derived.Test.YtbmeokhoebjdbaaWN
import Derived.Test.YtbmeokhoebjdbaaWFootNe
import Derived.Test.YtbmeokhoebjdbaaWAt
import Derived.Test.YtbmeokhoebjdbaaWEqStruct
import Derived.Test.YtbmeokhoebjdbaaWRepsOne
import Derived.Test.YtbmeokhoebjdbaaWInv
import Derived.Test.YtbmeokhoebjdbaaWInvWords
import Derived.Test.YtbmeokhoebjdbaaWGuard
import Derived.Test.YtbmeokhoebjdbaaWNEv
import Derived.Laws.Externs
import Derived.LoopTactic
import Derived.LoopN
import Derived.RegionTactic
import Derived.ChangeAlike
import Derived.ChangeKeysEq
import Derived.Lib.Mul64

section
/- A law's row out of its contract: whatever the parameters' types, a law that answers true and leaves all elder memory as it was meets its given statement. -/
namespace Go.Proofs.Ytbmeokhoebjdbaa.RK
open Go Go.ChangeShapes Go.WideShapes Go.ChangeAt Go.RowKit Go.WideElems Go.Maps Go.Deep
variable {H : Type} {enc : TypeId × Value → H} {P : Program}

/-- All arguments read behind the call as they read before. -/
theorem all_below (hl : laidOutB P = true) {W W' : World} (hb : Below W.heap.size W W') : ∀ (ts : List TypeId) (vs : List Value) (ds : List (DataW H)) (ps : List MemPlace),
    (ts.all fun t => P.readableRec t && decide (t < P.types.size)) = true → DataW.TrodAll enc P W 0 (fun _ => true) true ts vs ds ps → (∀ x ∈ ps, x.block < W.heap.size) →
    DataW.TrodAll enc P W' 0 (fun b => decide (b < W.heap.size)) true ts vs ds ps
  | [], vs, ds, ps, _, h, _ => by
    obtain ⟨rfl, rfl, rfl⟩ := trodAll_nil h
    exact trodAll_mk0
  | t :: ts, vs, ds, ps, hr, h, hp => by
    obtain ⟨v, vs', d, ds', p, q, rfl, rfl, rfl, h1, h2⟩ := trodAll_cons h
    rw [List.all_cons, Bool.and_eq_true, Bool.and_eq_true] at hr
    exact trodAll_cons_mk (Below.trod hl hr.1.1 (of_decide_eq_true hr.1.2) h1 hb (fun x hx => hp x (List.mem_append_left _ hx)))
      (all_below hl hb ts vs' ds' q hr.2 h2 (fun x hx => hp x (List.mem_append_right _ hx)))

/-- The law's end: it answered true, elder memory is as it was. -/
theorem post_true {W W' : World} {f : Func} {s : ChangeSpec} {args : Array Value} {ds : List (DataW H)} {ps : List MemPlace} {tb : TypeId} (hl : laidOutB P = true)
    (hr : (f.params.toList.all fun t => P.readableRec t && decide (t < P.types.size)) = true) (ht : f.resultTypes = #[tb]) (hu : P.underlying tb = some .bool) (hv : s.vars = [])
    (hfn : s.fn H (ds ++ []) = { results := [.lit (.bool true)], args := ds })
    (hA : DataW.TrodAll enc P W 0 (fun _ => true) true f.params.toList args.toList ds ps)
    (hW : DataW.Whole enc P f.params.toList s.vars false W args.toList ds [] ps) (hb : Below W.heap.size W W') :
    s.post enc P f false true false false W args (.bool true) W' := by
  refine ⟨ds, [], ps, [], ps, [], hW, ?_, ?_, ?_, hb.frame _, fun h => by cases h⟩
  · rw [hfn, ht]
    exact trodAll_mk1 (shut_bool hu _)
  · rw [hfn]
    exact all_below hl hb _ _ _ _ hr hA hW.lt
  · rw [hfn, hv]
    rfl

/-- A struct of two whole numbers, by value. -/
theorem open_two {w : World} {sp : Nat → Bool} {held : Bool} {r : Reach} {b0 base : Nat} {t : TypeId} {f0 f1 : Field} {k0 k1 : IntKind} {v : Value} {d : DataW H} {p : List MemPlace}
    (hs : P.underlying t = some (.struct #[f0, f1])) (hone : oneCellFields P #[f0, f1] = true) (hC : P.cellsOf t = 2) (h0 : P.underlying f0.type = some (.int k0)) (h1 : P.underlying f1.type = some (.int k1))
    (hv : Value.okWide P w r b0 t v) (h : DataW.Trod enc P w base sp held t v d p) :
    ∃ a b : Int, v = .agg #[.int k0 a, .int k1 b] ∧ (Lit.int k0 a).wf = true ∧ (Lit.int k1 b).wf = true := by
  obtain ⟨c0, c1, y0, y1, m, rfl, rfl, rfl, hy0, hy1⟩ := Joins.open_agg2 hs hone hC hv h
  obtain ⟨a, e0, _, wa⟩ := DataW.trod_int h0 hy0
  obtain ⟨b, e1, _, wb⟩ := DataW.trod_int h1 hy1
  simp at e0 e1
  subst e0 e1
  exact ⟨a, b, rfl, wa, wb⟩
end Go.Proofs.Ytbmeokhoebjdbaa.RK
end

section
/- Numbers as digits to the base 256, the lowest first: their values, their one form. Plain lists and whole numbers. -/
namespace Go.Proofs.Ytbmeokhoebjdbaa.D8
open Go Go.RowKit Go.Proofs.YtbmeokhoebjdbaaW.PrintWords

theorem w64 {x : Int} (h : -9223372036854775808 ≤ x) (h' : x ≤ 9223372036854775807) : wrap64 x = x := by unfold wrap64; omega

/-- The value of digits. -/
def val : List Int → Int
  | [] => 0
  | d :: l => d + 256 * val l
/-- All are digits. -/
def Dg (l : List Int) : Prop := ∀ d, d ∈ l → 0 ≤ d ∧ d < 256
/-- In the one form: the last one is not nought. -/
def Cn (l : List Int) : Prop := Dg l ∧ (l = [] ∨ l.getD (l.length - 1) 0 ≠ 0)
def P : Nat → Int
  | 0 => 1
  | k + 1 => 256 * P k

theorem P_pos (k : Nat) : 1 ≤ P k := by
  induction k with
  | zero => simp [P]
  | succ k ih => simp only [P]; omega
theorem P_add (a b : Nat) : P (a + b) = P a * P b := by
  induction b with
  | zero => simp [P]
  | succ b ih => rw [show a + (b + 1) = (a + b) + 1 from rfl, P, ih, P]; grind
theorem P_mono {a b : Nat} (h : a ≤ b) : P a ≤ P b := by
  obtain ⟨c, rfl⟩ : ∃ c, b = a + c := ⟨b - a, by omega⟩
  rw [P_add]
  have h1 := P_pos a
  have h2 := P_pos c
  have : P a * 1 ≤ P a * P c := Int.mul_le_mul_of_nonneg_left h2 (by omega)
  omega

theorem Dg_nil : Dg [] := fun d h => by cases h
theorem Dg_cons {d : Int} {l : List Int} : Dg (d :: l) ↔ (0 ≤ d ∧ d < 256) ∧ Dg l := by simp [Dg]
theorem Dg_app {a b : List Int} : Dg (a ++ b) ↔ Dg a ∧ Dg b := by
  constructor
  · intro h
    exact ⟨fun d hd => h d (List.mem_append_left _ hd), fun d hd => h d (List.mem_append_right _ hd)⟩
  · rintro ⟨h1, h2⟩ d hd
    rcases List.mem_append.1 hd with hd | hd
    · exact h1 d hd
    · exact h2 d hd
theorem Dg_one {d : Int} (h : 0 ≤ d) (h' : d < 256) : Dg [d] := fun x hx => by
  rw [List.mem_singleton.1 hx]; exact ⟨h, h'⟩
theorem Dg_take {l : List Int} (h : Dg l) (n : Nat) : Dg (l.take n) := fun d hd => h d (List.mem_of_mem_take hd)
theorem Dg_drop {l : List Int} (h : Dg l) (n : Nat) : Dg (l.drop n) := fun d hd => h d (List.mem_of_mem_drop hd)
theorem Dg_get {l : List Int} (h : Dg l) (n : Nat) : 0 ≤ l.getD n 0 ∧ l.getD n 0 < 256 := by
  rw [List.getD_eq_getElem?_getD]
  cases e : l[n]? with
  | none => simp
  | some x => simpa using h x (List.mem_of_getElem? e)
theorem Dg_rd {l : List Int} (h : Dg l) (i : Int) : 0 ≤ rd l i ∧ rd l i < 256 := Dg_get h _

theorem val_app (a b : List Int) : val (a ++ b) = val a + P a.length * val b := by
  induction a with
  | nil => simp [val, P]
  | cons d a ih => simp only [List.cons_append, val, ih, List.length_cons, P]; grind
theorem val_snoc (a : List Int) (d : Int) : val (a ++ [d]) = val a + P a.length * d := by
  rw [val_app]; simp [val]
theorem val_nonneg {l : List Int} (h : Dg l) : 0 ≤ val l := by
  induction l with
  | nil => simp [val]
  | cons d l ih =>
    have := (Dg_cons.1 h)
    have := ih this.2
    simp only [val]; omega
theorem val_lt {l : List Int} (h : Dg l) : val l < P l.length := by
  induction l with
  | nil => simp [val, P]
  | cons d l ih =>
    have := (Dg_cons.1 h)
    have := ih this.2
    simp only [val, List.length_cons, P]; omega
theorem val_zero_of {l : List Int} (h : ∀ d, d ∈ l → d = 0) : val l = 0 := by
  induction l with
  | nil => rfl
  | cons d l ih =>
    simp only [val]
    rw [ih (fun x hx => h x (List.mem_cons_of_mem _ hx)), h d List.mem_cons_self]; rfl
/-- The rest from a place on. -/
theorem val_drop {l : List Int} {i : Nat} (h : i < l.length) : val (l.drop i) = l.getD i 0 + 256 * val (l.drop (i + 1)) := by
  rw [List.drop_eq_getElem_cons h, val]
  simp [List.getD_eq_getElem?_getD, List.getElem?_eq_getElem h]
theorem val_drop_all {l : List Int} {i : Nat} (h : l.length ≤ i) : val (l.drop i) = 0 := by
  rw [List.drop_eq_nil_of_le h]; rfl
theorem val_take_drop (l : List Int) (i : Nat) (h : i ≤ l.length) : val l = val (l.take i) + P i * val (l.drop i) := by
  have := val_app (l.take i) (l.drop i)
  rw [List.take_append_drop, List.length_take, Nat.min_eq_left h] at this
  exact this
theorem take_succ' {l : List Int} {i : Nat} (h : i < l.length) : l.take (i + 1) = l.take i ++ [l.getD i 0] := by
  rw [List.take_succ_eq_append_getElem h]
  simp [List.getD_eq_getElem?_getD, List.getElem?_eq_getElem h]

theorem Cn_nil : Cn [] := ⟨Dg_nil, .inl rfl⟩
/-- The last digit counts. -/
theorem Cn_low {l : List Int} (h : Cn l) (hn : l ≠ []) : P (l.length - 1) ≤ val l := by
  obtain ⟨h1, h2 | h2⟩ := h
  · exact absurd h2 hn
  · have hl : 0 < l.length := List.length_pos_iff.2 hn
    have e := val_take_drop l (l.length - 1) (by omega)
    have e2 := val_drop (l := l) (i := l.length - 1) (by omega)
    rw [val_drop_all (i := l.length - 1 + 1) (by omega)] at e2
    have hg := Dg_get h1 (l.length - 1)
    have h0 := val_nonneg (Dg_take h1 (l.length - 1))
    have hp := P_pos (l.length - 1)
    have : P (l.length - 1) * 1 ≤ P (l.length - 1) * val (l.drop (l.length - 1)) := Int.mul_le_mul_of_nonneg_left (by omega) (by omega)
    omega
theorem Cn_zero {l : List Int} (h : Cn l) (h0 : val l = 0) : l = [] := by
  by_cases hn : l = []
  · exact hn
  · have := Cn_low h hn
    have := P_pos (l.length - 1)
    omega
theorem Cn_tail {d : Int} {l : List Int} (h : Cn (d :: l)) : Cn l := by
  refine ⟨(Dg_cons.1 h.1).2, ?_⟩
  rcases l with _ | ⟨e, l⟩
  · exact .inl rfl
  · refine .inr ?_
    rcases h.2 with h2 | h2
    · cases h2
    · simpa using h2
/-- One value, one form. -/
theorem Cn_one {a b : List Int} (ha : Cn a) (hb : Cn b) (h : val a = val b) : a = b := by
  induction a generalizing b with
  | nil => exact (Cn_zero hb (by rw [← h]; rfl)).symm
  | cons d a ih =>
    rcases b with _ | ⟨e, b⟩
    · exact Cn_zero ha (by rw [h]; rfl)
    · simp only [val] at h
      have h1 := (Dg_cons.1 ha.1).1
      have h2 := (Dg_cons.1 hb.1).1
      have hd : d = e := by omega
      subst hd
      rw [ih (Cn_tail ha) (Cn_tail hb) (by omega)]
theorem Cn_longer {a b : List Int} (ha : Dg a) (hb : Cn b) (h : a.length < b.length) : val a < val b := by
  have h1 := val_lt ha
  have h2 := Cn_low hb (by intro e; rw [e] at h; simp at h)
  have h3 := P_mono (a := a.length) (b := b.length - 1) (by omega)
  omega
end Go.Proofs.Ytbmeokhoebjdbaa.D8
end

section
namespace Go.Proofs.Ytbmeokhoebjdbaa.F
open Go.RowKit Go.Proofs.YtbmeokhoebjdbaaW.PrintWords Go.Proofs.YtbmeokhoebjdbaaW.PrintLast Go.Proofs.YtbmeokhoebjdbaaW.PrintMore
attribute [local go_sem] max2_int min2_int max_two min_two max_three min_three max_four min_four   -- for this text's walks alone
set_option linter.unusedVariables false
set_option linter.unusedSimpArgs false



def errW : Option Int → Value
  | none => .nilIface
  | some c => .iface 0 (.int .i64 c)
theorem errW_none : errW none = .nilIface := rfl
theorem errW_some (c : Int) : errW (some c) = .iface 0 (.int .i64 c) := rfl

theorem info3 : (Try.prog.info? 3).map (fun i => (i.zero, i.size, i.bytes)) = some (some (.int .i64 0), 1, 8) := by kernel_rfl
-- the values' own types

end Go.Proofs.Ytbmeokhoebjdbaa.F
end

section
namespace Go.Proofs.Ytbmeokhoebjdbaa.F
open Go.RowKit Go.Proofs.YtbmeokhoebjdbaaW.PrintWords Go.Proofs.YtbmeokhoebjdbaaW.PrintLast Go.Proofs.YtbmeokhoebjdbaaW.PrintMore
attribute [local go_sem] max2_int min2_int max_two min_two max_three min_three max_four min_four   -- for this text's walks alone
set_option linter.unusedVariables false
set_option linter.unusedSimpArgs false

/-! ### zelligeref01_Add: function 19 -/
def zelligeref01_Add.l0 : Nat → List Int → List Int → List Int → Int → Int → Option (List Int)
  | 0, _, _, _, _, _ => none
  | k + 1, x0, x1, x5, x6, x7 => if x7 < (x0.length : Int) then (if 0 ≤ x7 then (if x7 < (x1.length : Int) then (if x7 < (x5.length : Int) then (zelligeref01_Add.l0 k x0 x1 (x5.set (x7 : Int).toNat (Int.tmod (wrap64 ((wrap64 (x6 + (rd x0 x7))) + (rd x1 x7))) 256)) (wrap64 (Int.tdiv (wrap64 ((wrap64 (x6 + (rd x0 x7))) + (rd x1 x7))) 256)) (wrap64 (x7 + 1))) else (none)) else (none)) else (none)) else (some x5)
def zelligeref01_Add.f (k : Nat) (l0 : List Int) (l1 : List Int) : Option (List Int) := if 0 ≤ (l0.length : Int) then (if ((l0.length : Int) : Int).toNat ≤ 35184372088832 then (zelligeref01_Add.l0 k l0 l1 (List.replicate ((l0.length : Int) : Int).toNat 0) 0 0) else (none)) else (none)
theorem zelligeref01_Add.mono_l : ∀ k, (∀ y0 y1 y2 y3 y4, LeO (zelligeref01_Add.l0 k y0 y1 y2 y3 y4) (zelligeref01_Add.l0 (k + 1) y0 y1 y2 y3 y4))
  | 0 => fun _ _ _ _ _ r h => by simp [zelligeref01_Add.l0] at h
  | k + 1 => by
    have ih0 := zelligeref01_Add.mono_l k
    · intro y0 y1 y2 y3 y4
      unfold zelligeref01_Add.l0
      repeat' first
      | (with_reducible exact ih0 _ _ _ _ _)
      | (with_reducible exact LeO.refl _)
      | (with_reducible exact LeO.none _)
      | (with_reducible refine LeO.ite ?_ ?_)
      | (with_reducible refine LeO.bind ?_ (fun _ => ?_))
      | exact ih0 _ _ _ _ _
      | exact LeO.none _
      | refine LeO.ite ?_ ?_
      | refine LeO.bind ?_ (fun _ => ?_)
theorem zelligeref01_Add.mono : ∀ a0 a1 k, LeO (zelligeref01_Add.f k a0 a1) (zelligeref01_Add.f (k + 1) a0 a1) := by
  intro a0 a1 k
  have ih0 := zelligeref01_Add.mono_l k
  unfold zelligeref01_Add.f
  repeat' first
      | (with_reducible exact ih0 _ _ _ _ _)
      | (with_reducible exact LeO.refl _)
      | (with_reducible exact LeO.none _)
      | (with_reducible refine LeO.ite ?_ ?_)
      | (with_reducible refine LeO.bind ?_ (fun _ => ?_))
      | exact ih0 _ _ _ _ _
      | exact LeO.none _
      | refine LeO.ite ?_ ?_
      | refine LeO.bind ?_ (fun _ => ?_)
set_option maxHeartbeats 8000000 in
set_option maxRecDepth 100000 in
theorem zelligeref01_Add.calls (k : Nat) (A0 : Option Addr) (c0 : Nat) (l0 : List Int) (A1 : Option Addr) (c1 : Nat) (l1 : List Int) (r : List Int) (w : World) (hr0 : Kd.C (Kd.int .i64) w A0 l0.length l0) (hc0 : l0.length ≤ c0) (hr1 : Kd.C (Kd.int .i64) w A1 l1.length l1) (hc1 : l1.length ≤ c1) (h : zelligeref01_Add.f k l0 l1 = some r) :
    Calls Try.prog 19 #[.slice A0 l0.length c0, .slice A1 l1.length c1] w fun e w' => ∃ v0_ : Value, e = .returned (v0_) ∧ Kd.R (Kd.int .i64) 3 w' w.heap.size (fun _ => True) v0_ r ∧ Below w.heap.size w w' := by
  have HR0 := Aside0.mk hr0
  have HC0 := Aside0.mk hc0
  clear hr0 hc0
  have HR1 := Aside0.mk hr1
  have HC1 := Aside0.mk hc1
  clear hr1 hc1
  have HB := Aside0.mk (Below.refl w.heap.size w)
  have H : (if 0 ≤ (l0.length : Int) then (if ((l0.length : Int) : Int).toNat ≤ 35184372088832 then (zelligeref01_Add.l0 k l0 l1 (List.replicate ((l0.length : Int) : Int).toNat 0) 0 0) else (none)) else (none)) = some r := h
  clear h
  by_cases c3 : 0 ≤ (l0.length : Int)
  · rw [if_pos c3] at H
    have c3b0 := eq_true c3
    have c3b1 : decide (0 ≤ (l0.length : Int)) = true := decide_eq_true c3
    clear c3
    by_cases c4 : ((l0.length : Int) : Int).toNat ≤ 35184372088832
    · rw [if_pos c4] at H
      have c4b0 := eq_true c4
      have c4b1 : decide (((l0.length : Int) : Int).toNat ≤ 35184372088832) = true := decide_eq_true c4
      clear c4
      obtain ⟨y105, hy105⟩ : ∃ y_ : List Int, y_ = (List.replicate ((l0.length : Int) : Int).toNat 0) := ⟨_, rfl⟩
      replace H : (zelligeref01_Add.l0 k l0 l1 y105 0 0) = some r := by first | (rw [hy105]; with_reducible exact H) | (have H2_ := (Option.bind_some _ _).symm.trans H; rw [hy105]; with_reducible exact H2_) | (have H2_ := (Option.bind_some _ _).symm.trans H; with_reducible exact H2_) | with_reducible exact H | (rw [hy105]; exact H) | exact H
      have Ny105 := Aside0.mk hy105
      clear hy105
      have H' := Aside0.mk H
      clear H
      go_enter Try.func19, Try.ntmps19
      go_wp2_with (first | ((with_reducible refine gate_dst (N := 10) rfl ?_); refine Kd.R_make (Kd.int .i64) _ 3 rfl (N := 10) rfl 27 _ _ rfl (l0.length : Int) rfl rfl Try.underlying27 (.int .i64 0) 8 info3 rfl (by decide) (by omega) 0 (ok := fun _ => True) (okp := fun _ => True) rfl (fun _ hk => hk) trivial (of_decide_eq_true (by first | (with_reducible assumption) | assumption)) (Nat.le_trans (Nat.mul_le_mul_right _ (of_decide_eq_true (by first | (with_reducible assumption) | assumption) : (l0.length : Int).toNat ≤ 35184372088832)) (by omega)) (Below.refl _ _) (Nat.le_refl _) ?_; intro v106 w5 ho6 hb hg_ hnew_; clear hg_ hnew_; (first | rw [← Ny105.out] at ho6 | (simp only [Int.reduceToNat] at ho6; rw [← Ny105.out] at ho6)); have n0_ := Aside0.mk (Kd.R_lower ho6 (below_size (by repeat (first | (with_reducible first | exact HB.out | apply below_alloc | apply pw_below_drewN | apply below_drew1) | exact HB.out)))); have n1_ := Aside0.mk (below_step (by repeat (first | (with_reducible first | exact HB.out | apply below_alloc | apply pw_below_drewN | apply below_drew1) | exact HB.out)) hb); clear HB; have HO107 := n0_; have HB := n1_; clear n0_ n1_; clear hb ho6))
      repeat (go_quiet (first | ((with_reducible refine gate_dst (N := 10) rfl ?_); refine Kd.R_make (Kd.int .i64) _ 3 rfl (N := 10) rfl 27 _ _ rfl (l0.length : Int) rfl rfl Try.underlying27 (.int .i64 0) 8 info3 rfl (by decide) (by omega) 0 (ok := fun _ => True) (okp := fun _ => True) rfl (fun _ hk => hk) trivial (of_decide_eq_true (by first | (with_reducible assumption) | assumption)) (Nat.le_trans (Nat.mul_le_mul_right _ (of_decide_eq_true (by first | (with_reducible assumption) | assumption) : (l0.length : Int).toNat ≤ 35184372088832)) (by omega)) (Below.refl _ _) (Nat.le_refl _) ?_; intro v106 w5 ho6 hb hg_ hnew_; clear hg_ hnew_; (first | rw [← Ny105.out] at ho6 | (simp only [Int.reduceToNat] at ho6; rw [← Ny105.out] at ho6)); have n0_ := Aside0.mk (Kd.R_lower ho6 (below_size (by repeat (first | (with_reducible first | exact HB.out | apply below_alloc | apply pw_below_drewN | apply below_drew1) | exact HB.out)))); have n1_ := Aside0.mk (below_step (by repeat (first | (with_reducible first | exact HB.out | apply below_alloc | apply pw_below_drewN | apply below_drew1) | exact HB.out)) hb); clear HB; have HO107 := n0_; have HB := n1_; clear n0_ n1_; clear hb ho6)); try go_wp2_with (first | ((with_reducible refine gate_dst (N := 10) rfl ?_); refine Kd.R_make (Kd.int .i64) _ 3 rfl (N := 10) rfl 27 _ _ rfl (l0.length : Int) rfl rfl Try.underlying27 (.int .i64 0) 8 info3 rfl (by decide) (by omega) 0 (ok := fun _ => True) (okp := fun _ => True) rfl (fun _ hk => hk) trivial (of_decide_eq_true (by first | (with_reducible assumption) | assumption)) (Nat.le_trans (Nat.mul_le_mul_right _ (of_decide_eq_true (by first | (with_reducible assumption) | assumption) : (l0.length : Int).toNat ≤ 35184372088832)) (by omega)) (Below.refl _ _) (Nat.le_refl _) ?_; intro v106 w5 ho6 hb hg_ hnew_; clear hg_ hnew_; (first | rw [← Ny105.out] at ho6 | (simp only [Int.reduceToNat] at ho6; rw [← Ny105.out] at ho6)); have n0_ := Aside0.mk (Kd.R_lower ho6 (below_size (by repeat (first | (with_reducible first | exact HB.out | apply below_alloc | apply pw_below_drewN | apply below_drew1) | exact HB.out)))); have n1_ := Aside0.mk (below_step (by repeat (first | (with_reducible first | exact HB.out | apply below_alloc | apply pw_below_drewN | apply below_drew1) | exact HB.out)) hb); clear HB; have HO107 := n0_; have HB := n1_; clear n0_ n1_; clear hb ho6)))
      go_loopg [6, 7] k (fun kq v6 v7 w' => ∃ (x5_1 : List Int) (x6_1 : Int) (x7_1 : Int), v6 = .int .i64 x6_1 ∧ v7 = .int .i64 x7_1 ∧ Aside0 (zelligeref01_Add.l0 kq l0 l1 x5_1 x6_1 x7_1 = some r) ∧ Aside0 (kq ≤ k) ∧ Aside0 (Kd.R (Kd.int .i64) 3 w' w.heap.size (fun _ => True) v106 x5_1) ∧ Aside0 (Below w.heap.size w w'))
      case atStart => exact ⟨(y105), (0), (0), (by first | rfl | (simp; done) | (simp [*]; done)), (by first | rfl | (simp; done) | (simp [*]; done)), H', ⟨Nat.le_refl _⟩, ⟨by (with_reducible repeat (first | apply Kd.R_alloc | apply Kd.R_drewN | apply Kd.R_drew)); exact HO107.out⟩, ⟨by repeat (first | (with_reducible first | exact HB.out | apply below_alloc | apply pw_below_drewN | apply below_drew1) | exact HB.out)⟩⟩
      case round =>
        clear H'
        try clear c1
        try clear p2
        try clear c3
        try clear c3b0
        try clear c3b1
        try clear c4
        try clear c4b0
        try clear c4b1
        obtain ⟨x5_1, x6_1, x7_1, rfl, rfl, HA, HK1, HO_5, HB⟩ := hrel
        cases gk with
        | zero => exact absurd HA.out (by simp [zelligeref01_Add.l0])
        | succ k1 =>
          have H := HA.out
          clear HA
          simp only [zelligeref01_Add.l0] at H
          by_cases c7 : x7_1 < (l0.length : Int)
          · rw [if_pos c7] at H
            have c7b0 : decide (x7_1 < (l0.length : Int)) = true := decide_eq_true c7
            clear c7
            by_cases c8 : 0 ≤ x7_1
            · rw [if_pos c8] at H
              have c8b0 : decide (0 ≤ x7_1) = true := decide_eq_true c8
              clear c8
              by_cases c9 : x7_1 < (l1.length : Int)
              · rw [if_pos c9] at H
                have c9b0 : decide (x7_1 < (l1.length : Int)) = true := decide_eq_true c9
                clear c9
                by_cases c10 : x7_1 < (x5_1.length : Int)
                · rw [if_pos c10] at H
                  have c10b0 : decide (x7_1 < (x5_1.length : Int)) = true := decide_eq_true c10
                  clear c10
                  obtain ⟨y110, hy110⟩ : ∃ y_ : List Int, y_ = (x5_1.set (x7_1 : Int).toNat (Int.tmod (wrap64 ((wrap64 (x6_1 + (rd l0 x7_1))) + (rd l1 x7_1))) 256)) := ⟨_, rfl⟩
                  replace H : (zelligeref01_Add.l0 k1 l0 l1 y110 (wrap64 (Int.tdiv (wrap64 ((wrap64 (x6_1 + (rd l0 x7_1))) + (rd l1 x7_1))) 256)) (wrap64 (x7_1 + 1))) = some r := by first | (rw [hy110]; with_reducible exact H) | (have H2_ := (Option.bind_some _ _).symm.trans H; rw [hy110]; with_reducible exact H2_) | (have H2_ := (Option.bind_some _ _).symm.trans H; with_reducible exact H2_) | with_reducible exact H | (rw [hy110]; exact H) | exact H
                  have Ny110 := Aside0.mk hy110
                  clear hy110
                  have H' := Aside0.mk H
                  clear H
                  have p108 : 0 ≤ (x7_1 : Int) := of_decide_eq_true (by first | (with_reducible assumption) | assumption)
                  have q108 : x7_1 < (l0.length : Int) := of_decide_eq_true (by first | (with_reducible assumption) | assumption)
                  obtain ⟨ad108, e108, hx108_0⟩ := Kd.at_int HR0.out x7_1 p108 q108
                  cases e108
                  replace hx108_0 := (HB.out.cell (World.block_lt_of_cell? w _ hx108_0)).trans hx108_0
                  replace p108 := eq_true p108
                  replace q108 := eq_true q108
                  have p109 : 0 ≤ (x7_1 : Int) := of_decide_eq_true (by first | (with_reducible assumption) | assumption)
                  have q109 : x7_1 < (l1.length : Int) := of_decide_eq_true (by first | (with_reducible assumption) | assumption)
                  obtain ⟨ad109, e109, hx109_0⟩ := Kd.at_int HR1.out x7_1 p109 q109
                  cases e109
                  replace hx109_0 := (HB.out.cell (World.block_lt_of_cell? w _ hx109_0)).trans hx109_0
                  replace p109 := eq_true p109
                  replace q109 := eq_true q109
                  have p11 : 0 ≤ (x7_1 : Int) := of_decide_eq_true (by first | (with_reducible assumption) | assumption)
                  have q11 : (x7_1 : Int) < ((x5_1.length : Int) : Int) := of_decide_eq_true (by first | (with_reducible assumption) | assumption)
                  obtain ⟨go11, co11, eo11, gb11, gl11, cl11, HG11⟩ := Kd.R_form HO_5.out (by omega)
                  (first | cases eo11 | (injection eo11 with ea_ en_ ec_; (first | subst ea_ | (injection ea_ with ea_; subst ea_)); subst ec_; clear en_))
                  have GB11 := Aside0.mk gb11
                  have GG11 := Aside0.mk HG11
                  clear gb11 gl11 HG11
                  obtain ⟨hx11_0, hf11_0⟩ := Kd.R_celln 0 HO_5.out (x7_1 : Int) p11 q11
                  replace p11 := eq_true p11
                  replace q11 := eq_true q11
                  have HP12 := Kd.R_putg HO_5.out (x7_1 : Int) (Int.tmod (wrap64 ((wrap64 (x6_1 + (rd l0 x7_1))) + (rd l1 x7_1))) 256)
                  go_wp2_with (first | ((with_reducible refine gate_store (t := 3) (p := 32) rfl ?_); (try (rw [drewN_self wr]; generalize hq_ : World.drewN wr _ = wr; have n0_ := Aside0.mk (Kd.R_at hq_ HO_5.out); have n1_ := Aside0.mk (below_at hq_ HB.out); clear hq_ HO_5 HB; have HO_5 := n0_; have HB := n1_; clear n0_ n1_; (try (obtain ⟨hxHP12_, hfHP12_⟩ := Kd.R_celln 0 HO_5.out (x7_1 : Int) (of_eq_true (by assumption)) (of_eq_true (by assumption)))); (try (have HP12 := Kd.R_putg HO_5.out (x7_1 : Int) (Int.tmod (wrap64 ((wrap64 (x6_1 + (rd l0 x7_1))) + (rd l1 x7_1))) 256))))); refine store_event (t := 3) (p := 32) (v := ?vo_w13) (w1 := (wr.setCell ⟨go11, (x7_1 : Int).toNat, none⟩ (.int .i64 (Int.tmod (wrap64 ((wrap64 (x6_1 + (rd l0 x7_1))) + (rd l1 x7_1))) 256)))) ?hg ?ho ?hn ?hr ?_; (case ho => rfl); (case hg => rfl); (case hn => rfl); (case hr => first | (go_simp; done) | (go_simp; rfl)); intro w13 hw; have hg : wr.grownBy w13 (some go11) := (by rw [hw]; exact HP12.2); have hp_ : Kd.R (Kd.int .i64) 3 w13 w.heap.size (fun _ => True) (.slice (some ⟨go11, 0, none⟩) x5_1.length co11) y110 := (by rw [hw, Ny110.out]; exact HP12.1); clear HP12; have n0_ := Aside0.mk (hp_); have n1_ := Aside0.mk ((by rw [hw]; exact below_set (HB.out) GB11.out : Below w.heap.size w w13)); clear HO_5; clear HB; have HO_5 := n0_; have HB := n1_; clear n0_ n1_; clear hg hw hp_))
                  repeat (go_quiet (first | ((with_reducible refine gate_store (t := 3) (p := 32) rfl ?_); (try (rw [drewN_self wr]; generalize hq_ : World.drewN wr _ = wr; have n0_ := Aside0.mk (Kd.R_at hq_ HO_5.out); have n1_ := Aside0.mk (below_at hq_ HB.out); clear hq_ HO_5 HB; have HO_5 := n0_; have HB := n1_; clear n0_ n1_; (try (obtain ⟨hxHP12_, hfHP12_⟩ := Kd.R_celln 0 HO_5.out (x7_1 : Int) (of_eq_true (by assumption)) (of_eq_true (by assumption)))); (try (have HP12 := Kd.R_putg HO_5.out (x7_1 : Int) (Int.tmod (wrap64 ((wrap64 (x6_1 + (rd l0 x7_1))) + (rd l1 x7_1))) 256))))); refine store_event (t := 3) (p := 32) (v := ?vo_w13) (w1 := (wr.setCell ⟨go11, (x7_1 : Int).toNat, none⟩ (.int .i64 (Int.tmod (wrap64 ((wrap64 (x6_1 + (rd l0 x7_1))) + (rd l1 x7_1))) 256)))) ?hg ?ho ?hn ?hr ?_; (case ho => rfl); (case hg => rfl); (case hn => rfl); (case hr => first | (go_simp; done) | (go_simp; rfl)); intro w13 hw; have hg : wr.grownBy w13 (some go11) := (by rw [hw]; exact HP12.2); have hp_ : Kd.R (Kd.int .i64) 3 w13 w.heap.size (fun _ => True) (.slice (some ⟨go11, 0, none⟩) x5_1.length co11) y110 := (by rw [hw, Ny110.out]; exact HP12.1); clear HP12; have n0_ := Aside0.mk (hp_); have n1_ := Aside0.mk ((by rw [hw]; exact below_set (HB.out) GB11.out : Below w.heap.size w w13)); clear HO_5; clear HB; have HO_5 := n0_; have HB := n1_; clear n0_ n1_; clear hg hw hp_)); try go_wp2_with (first | ((with_reducible refine gate_store (t := 3) (p := 32) rfl ?_); (try (rw [drewN_self wr]; generalize hq_ : World.drewN wr _ = wr; have n0_ := Aside0.mk (Kd.R_at hq_ HO_5.out); have n1_ := Aside0.mk (below_at hq_ HB.out); clear hq_ HO_5 HB; have HO_5 := n0_; have HB := n1_; clear n0_ n1_; (try (obtain ⟨hxHP12_, hfHP12_⟩ := Kd.R_celln 0 HO_5.out (x7_1 : Int) (of_eq_true (by assumption)) (of_eq_true (by assumption)))); (try (have HP12 := Kd.R_putg HO_5.out (x7_1 : Int) (Int.tmod (wrap64 ((wrap64 (x6_1 + (rd l0 x7_1))) + (rd l1 x7_1))) 256))))); refine store_event (t := 3) (p := 32) (v := ?vo_w13) (w1 := (wr.setCell ⟨go11, (x7_1 : Int).toNat, none⟩ (.int .i64 (Int.tmod (wrap64 ((wrap64 (x6_1 + (rd l0 x7_1))) + (rd l1 x7_1))) 256)))) ?hg ?ho ?hn ?hr ?_; (case ho => rfl); (case hg => rfl); (case hn => rfl); (case hr => first | (go_simp; done) | (go_simp; rfl)); intro w13 hw; have hg : wr.grownBy w13 (some go11) := (by rw [hw]; exact HP12.2); have hp_ : Kd.R (Kd.int .i64) 3 w13 w.heap.size (fun _ => True) (.slice (some ⟨go11, 0, none⟩) x5_1.length co11) y110 := (by rw [hw, Ny110.out]; exact HP12.1); clear HP12; have n0_ := Aside0.mk (hp_); have n1_ := Aside0.mk ((by rw [hw]; exact below_set (HB.out) GB11.out : Below w.heap.size w w13)); clear HO_5; clear HB; have HO_5 := n0_; have HB := n1_; clear n0_ n1_; clear hg hw hp_)))
                  go_roundg k1
                  case measure => have := HK1.out; omega
                  case rel => exact ⟨(y110), (wrap64 (Int.tdiv (wrap64 ((wrap64 (x6_1 + (rd l0 x7_1))) + (rd l1 x7_1))) 256)), (wrap64 (x7_1 + 1)), (by first | rfl | (simp; done) | (simp [*]; done)), (by first | rfl | (simp; done) | (simp [*]; done)), H', ⟨by have := HK1.out; omega⟩, ⟨by (with_reducible repeat (first | apply Kd.R_alloc | apply Kd.R_drewN | apply Kd.R_drew)); exact HO_5.out⟩, ⟨by repeat (first | (with_reducible first | exact HB.out | apply below_alloc | apply pw_below_drewN | apply below_drew1) | exact HB.out)⟩⟩
                · rw [if_neg c10] at H
                  exact absurd H (by simp)
              · rw [if_neg c9] at H
                exact absurd H (by simp)
            · rw [if_neg c8] at H
              exact absurd H (by simp)
          · rw [if_neg c7] at H
            have c7b0 : decide (x7_1 < (l0.length : Int)) = false := decide_eq_false c7
            clear c7
            obtain rfl := Option.some.inj H
            go_wp2
            repeat (go_quiet (fail); try go_wp2)
            go_ret
            exact ⟨_, by first | rfl | (simp [errW_none, errW_some] <;> rfl) | (simp [*, errW_none, errW_some] <;> rfl), by (with_reducible repeat (first | apply Kd.R_alloc | apply Kd.R_drewN | apply Kd.R_drew)); exact HO_5.out, by repeat (first | (with_reducible first | exact HB.out | apply below_alloc | apply pw_below_drewN | apply below_drew1) | exact HB.out)⟩
    · rw [if_neg c4] at H
      exact absurd H (by simp)
  · rw [if_neg c3] at H
    exact absurd H (by simp)

end Go.Proofs.Ytbmeokhoebjdbaa.F
end

section
namespace Go.Proofs.Ytbmeokhoebjdbaa.F
open Go.RowKit Go.Proofs.YtbmeokhoebjdbaaW.PrintWords Go.Proofs.YtbmeokhoebjdbaaW.PrintLast Go.Proofs.YtbmeokhoebjdbaaW.PrintMore
attribute [local go_sem] max2_int min2_int max_two min_two max_three min_three max_four min_four   -- for this text's walks alone
set_option linter.unusedVariables false
set_option linter.unusedSimpArgs false

/-! ### zelligeref01_Neg: function 21 -/
def zelligeref01_Neg.l0 : Nat → List Int → List Int → List Int → Int → Option (List Int)
  | 0, _, _, _, _ => none
  | k + 1, x0, x3, x4, x5 => if x5 < (x0.length : Int) then (if 0 ≤ x5 then (if x5 < (x3.length : Int) then (zelligeref01_Neg.l0 k x0 (x3.set (x5 : Int).toNat (wrap64 (255 - (rd x0 x5)))) x4 (wrap64 (x5 + 1))) else (none)) else (none)) else (if 0 < (x4.length : Int) then ((zelligeref01_Add.f k x3 (x4.set (0 : Int).toNat 1)).bind fun t120 => (some t120)) else (none))
def zelligeref01_Neg.f (k : Nat) (l0 : List Int) : Option (List Int) := if 0 ≤ (l0.length : Int) then (if ((l0.length : Int) : Int).toNat ≤ 35184372088832 then (zelligeref01_Neg.l0 k l0 (List.replicate ((l0.length : Int) : Int).toNat 0) (List.replicate ((l0.length : Int) : Int).toNat 0) 0) else (none)) else (none)
theorem zelligeref01_Neg.mono_l : ∀ k, (∀ y0 y1 y2 y3, LeO (zelligeref01_Neg.l0 k y0 y1 y2 y3) (zelligeref01_Neg.l0 (k + 1) y0 y1 y2 y3))
  | 0 => fun _ _ _ _ r h => by simp [zelligeref01_Neg.l0] at h
  | k + 1 => by
    have ih0 := zelligeref01_Neg.mono_l k
    · intro y0 y1 y2 y3
      unfold zelligeref01_Neg.l0
      repeat' first
      | (with_reducible exact ih0 _ _ _ _)
      | (with_reducible exact zelligeref01_Add.mono _ _ _)
      | (with_reducible exact LeO.refl _)
      | (with_reducible exact LeO.none _)
      | (with_reducible refine LeO.ite ?_ ?_)
      | (with_reducible refine LeO.bind ?_ (fun _ => ?_))
      | exact ih0 _ _ _ _
      | exact zelligeref01_Add.mono _ _ _
      | exact LeO.none _
      | refine LeO.ite ?_ ?_
      | refine LeO.bind ?_ (fun _ => ?_)
theorem zelligeref01_Neg.mono : ∀ a0 k, LeO (zelligeref01_Neg.f k a0) (zelligeref01_Neg.f (k + 1) a0) := by
  intro a0 k
  have ih0 := zelligeref01_Neg.mono_l k
  unfold zelligeref01_Neg.f
  repeat' first
      | (with_reducible exact ih0 _ _ _ _)
      | (with_reducible exact zelligeref01_Add.mono _ _ _)
      | (with_reducible exact LeO.refl _)
      | (with_reducible exact LeO.none _)
      | (with_reducible refine LeO.ite ?_ ?_)
      | (with_reducible refine LeO.bind ?_ (fun _ => ?_))
      | exact ih0 _ _ _ _
      | exact zelligeref01_Add.mono _ _ _
      | exact LeO.none _
      | refine LeO.ite ?_ ?_
      | refine LeO.bind ?_ (fun _ => ?_)
def zelligeref01_Neg.T1 : Bool × List (List Nat × List Nat) := (true, [([], []), ([0], [0]), ([1, 1], [1]), ([], []), ([3], [3]), ([4, 4], [4]), ([2, 0, 1, 2], [2]), ([5, 6, 0, 1, 2, 3, 4, 5, 6], [5])])
def zelligeref01_Neg.B1 : List Nat := [0, 1, 3, 0, 8, 24, 7, 127]
theorem zelligeref01_Neg.tab1 : rtab .any (opsOf Try.f21 1) = zelligeref01_Neg.T1 := by kernel_rfl
theorem zelligeref01_Neg.bits1 : waitsOk zelligeref01_Neg.T1.2 zelligeref01_Neg.B1 = true := by kernel_rfl
set_option maxHeartbeats 8000000 in
set_option maxRecDepth 100000 in
theorem zelligeref01_Neg.calls (k : Nat) (A0 : Option Addr) (c0 : Nat) (l0 : List Int) (r : List Int) (w : World) (hr0 : Kd.C (Kd.int .i64) w A0 l0.length l0) (hc0 : l0.length ≤ c0) (h : zelligeref01_Neg.f k l0 = some r) :
    Calls Try.prog 21 #[.slice A0 l0.length c0] w fun e w' => ∃ v0_ : Value, e = .returned (v0_) ∧ Kd.R (Kd.int .i64) 3 w' w.heap.size (fun _ => True) v0_ r ∧ Below w.heap.size w w' := by
  have HR0 := Aside0.mk hr0
  have HC0 := Aside0.mk hc0
  clear hr0 hc0
  have HB := Aside0.mk (Below.refl w.heap.size w)
  have H : (if 0 ≤ (l0.length : Int) then (if ((l0.length : Int) : Int).toNat ≤ 35184372088832 then (zelligeref01_Neg.l0 k l0 (List.replicate ((l0.length : Int) : Int).toNat 0) (List.replicate ((l0.length : Int) : Int).toNat 0) 0) else (none)) else (none)) = some r := h
  clear h
  by_cases c2 : 0 ≤ (l0.length : Int)
  · rw [if_pos c2] at H
    have c2b0 := eq_true c2
    have c2b1 : decide (0 ≤ (l0.length : Int)) = true := decide_eq_true c2
    clear c2
    by_cases c3 : ((l0.length : Int) : Int).toNat ≤ 35184372088832
    · rw [if_pos c3] at H
      have c3b0 := eq_true c3
      have c3b1 : decide (((l0.length : Int) : Int).toNat ≤ 35184372088832) = true := decide_eq_true c3
      clear c3
      obtain ⟨y111, hy111⟩ : ∃ y_ : List Int, y_ = (List.replicate ((l0.length : Int) : Int).toNat 0) := ⟨_, rfl⟩
      replace H : (zelligeref01_Neg.l0 k l0 y111 (List.replicate ((l0.length : Int) : Int).toNat 0) 0) = some r := by first | (rw [hy111]; with_reducible exact H) | (have H2_ := (Option.bind_some _ _).symm.trans H; rw [hy111]; with_reducible exact H2_) | (have H2_ := (Option.bind_some _ _).symm.trans H; with_reducible exact H2_) | with_reducible exact H | (rw [hy111]; exact H) | exact H
      have Ny111 := Aside0.mk hy111
      clear hy111
      obtain ⟨y114, hy114⟩ : ∃ y_ : List Int, y_ = (List.replicate ((l0.length : Int) : Int).toNat 0) := ⟨_, rfl⟩
      replace H : (zelligeref01_Neg.l0 k l0 y111 y114 0) = some r := by first | (rw [hy114]; with_reducible exact H) | (have H2_ := (Option.bind_some _ _).symm.trans H; rw [hy114]; with_reducible exact H2_) | (have H2_ := (Option.bind_some _ _).symm.trans H; with_reducible exact H2_) | with_reducible exact H | (rw [hy114]; exact H) | exact H
      have Ny114 := Aside0.mk hy114
      clear hy114
      have H' := Aside0.mk H
      clear H
      go_enter Try.func21, Try.ntmps21
      try go_wp2
      have n0_ := Aside0.mk (below_drew1 HB.out)
      clear HB
      have HB := n0_
      clear n0_
      refine start_ (n := 8) (S := fun w' => True) (ds := []) #[false, false, false, false, false, false, false, false] (by kernel_rfl) rfl rfl trivial (fun hHeld => ?_); refine with_tabW zelligeref01_Neg.tab1 zelligeref01_Neg.bits1 (fun HT_ HW_ => ?_)
      generalize w.drew = w4 at HB hHeld ⊢
      refine pure_ (i := 0) (N := some 6) (v := ?_) (a' := ?_) #[true, false, false, false, false, false, false, false] rfl rfl (any_of HT_.out (by kernel_rfl)) (fun _ _ _ h => h) (Or.inl ⟨by rfl, ?_⟩) ?_ ?_
      rotate_left
      · intro w'
        go_simp
        with_reducible rfl
      rotate_left
      · simp only [Act.put, List.setIfInBounds_toArray, List.set_cons_zero, List.set_cons_succ, i64_w, i32_w]
        rfl
      refine pure_ (i := 1) (N := some 7) (v := ?_) (a' := ?_) #[true, true, false, false, false, false, false, false] rfl rfl (any_of HT_.out (by kernel_rfl)) (fun _ _ _ h => h) (Or.inl ⟨by rfl, ?_⟩) ?_ ?_
      rotate_left
      · intro w'
        go_simp
        with_reducible rfl
      rotate_left
      · simp only [Act.put, List.setIfInBounds_toArray, List.set_cons_zero, List.set_cons_succ, i64_w, i32_w]
        rfl
      refine pure_ (i := 3) (N := some 9) (v := ?_) (a' := ?_) #[true, true, false, true, false, false, false, false] rfl rfl (any_of HT_.out (by kernel_rfl)) (fun _ _ _ h => h) (Or.inl ⟨by rfl, ?_⟩) ?_ ?_
      rotate_left
      · intro w'
        go_simp
        with_reducible rfl
      rotate_left
      · simp only [Act.put, List.setIfInBounds_toArray, List.set_cons_zero, List.set_cons_succ, i64_w, i32_w]
        rfl
      refine pure_ (i := 4) (N := some 10) (v := ?_) (a' := ?_) #[true, true, false, true, true, false, false, false] rfl rfl (any_of HT_.out (by kernel_rfl)) (fun _ _ _ h => h) (Or.inl ⟨by rfl, ?_⟩) ?_ ?_
      rotate_left
      · intro w'
        go_simp
        with_reducible rfl
      rotate_left
      · simp only [Act.put, List.setIfInBounds_toArray, List.set_cons_zero, List.set_cons_succ, i64_w, i32_w]
        rfl
      refine join_ (σ := Value × Value) 1 #[true, true, true, true, true, true, true, false] (fun s_ => [(8, s_.1), (11, s_.2), (3, s_.1)]) (fun s_ w' => (Kd.R (Kd.int .i64) 3 w' w.heap.size (fun k_ => some k_ ≠ (s_.2 : Value).ownBlock) s_.1 y111) ∧ (Kd.R (Kd.int .i64) 3 w' w.heap.size (fun k_ => some k_ ≠ (s_.1 : Value).ownBlock) s_.2 y114) ∧ (Below w.heap.size w w')) ?_ ?_
      rotate_left
      · intro hCont
        refine two_ (i := 2) (j := 5) (Ni := some 8) (Nj := some 11) #[true, true, true, true, true, false, false, false] #[true, true, false, true, true, true, false, false] rfl rfl rfl rfl (two_of HT_.out (by kernel_rfl)) (by decide) (by decide) (fun K hK => ?_) (fun K hK => ?_)
        · skip
          refine Kd.R_make_step (Kd.int .i64) _ 3 (by rfl) (N := 8) rfl 27 _ _ rfl (l0.length : Int) rfl rfl Try.underlying27 (.int .i64 0) 8 info3 rfl (by decide) (by omega) 0 (ok := fun _ => True) (okp := fun _ => True) rfl (fun _ hk => hk) trivial (of_decide_eq_true (by first | (with_reducible assumption) | assumption)) (Nat.le_trans (Nat.mul_le_mul_right _ (of_decide_eq_true (by first | (with_reducible assumption) | assumption) : (l0.length : Int).toNat ≤ 35184372088832)) (by omega)) (Below.refl _ _) (Nat.le_refl _) ?_
          intro v112 w5 ho6 hb hg_ hnew_
          clear hg_ hnew_
          (first | rw [← Ny111.out] at ho6 | (simp only [Int.reduceToNat] at ho6; rw [← Ny111.out] at ho6))
          have n0_ := Aside0.mk (Kd.R_lower ho6 (below_size (by repeat (first | (with_reducible first | exact HB.out | apply below_alloc | apply pw_below_drewN | apply below_drew1) | exact HB.out))))
          have n1_ := Aside0.mk (below_step (by repeat (first | (with_reducible first | exact HB.out | apply below_alloc | apply pw_below_drewN | apply below_drew1) | exact HB.out)) hb)
          clear HB
          have HO113 := n0_
          have HB := n1_
          clear n0_ n1_
          clear hb ho6
          refine hK.out _ _ trivial (fun hHeld => ?_)
          clear hK K
          refine norm_ (a' := ?_) ?_ ?_
          rotate_left
          · show Act.put _ (some 8) _ = _
            simp only [Act.put, List.setIfInBounds_toArray, List.set_cons_zero, List.set_cons_succ, i64_w, i32_w]
            rfl
          refine pure_ (i := 6) (N := some 3) (v := ?_) (a' := ?_) #[true, true, true, true, true, false, true, false] rfl rfl (any_of HT_.out (by kernel_rfl)) (fun _ _ _ h => h) (Or.inl ⟨by rfl, ?_⟩) ?_ ?_
          rotate_left
          · intro w'
            go_simp
            with_reducible rfl
          rotate_left
          · simp only [Act.put, List.setIfInBounds_toArray, List.set_cons_zero, List.set_cons_succ, i64_w, i32_w]
            rfl
          refine one_ (i := 5) (N := some 11) #[true, true, true, true, true, true, true, false] rfl rfl (one_of HT_.out (by kernel_rfl)) (by decide) (fun K hK => ?_)
          refine Kd.R_make_step (Kd.int .i64) _ 3 (by rfl) (N := 11) rfl 27 _ _ rfl (l0.length : Int) rfl rfl Try.underlying27 (.int .i64 0) 8 info3 rfl (by decide) (by omega) 0 (ok := fun _ => True) (okp := fun _ => True) rfl (fun _ hk => hk) trivial (of_decide_eq_true (by first | (with_reducible assumption) | assumption)) (Nat.le_trans (Nat.mul_le_mul_right _ (of_decide_eq_true (by first | (with_reducible assumption) | assumption) : (l0.length : Int).toNat ≤ 35184372088832)) (by omega)) (Below.refl _ _) (Nat.le_refl _) ?_
          intro v115 w7 ho8 hb hg_ hnew_
          clear hg_ hnew_
          (first | rw [← Ny114.out] at ho8 | (simp only [Int.reduceToNat] at ho8; rw [← Ny114.out] at ho8))
          have n0_ := Aside0.mk (Kd.R_elder' (by (with_reducible repeat (first | apply Kd.R_alloc | apply Kd.R_drewN | apply Kd.R_drew)); exact HO113.out) (Kd.R_base ho8) hb)
          have n1_ := Aside0.mk (Kd.R_lower (Kd.R_new' ho8 (Kd.R_lt (by (with_reducible repeat (first | apply Kd.R_alloc | apply Kd.R_drewN | apply Kd.R_drew)); exact HO113.out))) (below_size (by repeat (first | (with_reducible first | exact HB.out | apply below_alloc | apply pw_below_drewN | apply below_drew1) | exact HB.out))))
          have n2_ := Aside0.mk (below_step (by repeat (first | (with_reducible first | exact HB.out | apply below_alloc | apply pw_below_drewN | apply below_drew1) | exact HB.out)) hb)
          clear HO113
          clear HB
          have HO113 := n0_
          have HO116 := n1_
          have HB := n2_
          clear n0_ n1_ n2_
          clear hb ho8
          refine hK.out _ _ trivial (fun hHeld => ?_)
          clear hK K
          refine norm_ (a' := ?_) ?_ ?_
          rotate_left
          · show Act.put _ (some 11) _ = _
            simp only [Act.put, List.setIfInBounds_toArray, List.set_cons_zero, List.set_cons_succ, i64_w, i32_w]
            rfl
          exact norm_ (by simp only [putAll, Act.put, List.setIfInBounds_toArray, List.set_cons_zero, List.set_cons_succ]) (hCont (v112, v115) _ ⟨(by (with_reducible repeat (first | apply Kd.R_alloc | apply Kd.R_drewN | apply Kd.R_drew)); exact Kd.R_mono HO113.out (fun _ hk => hk.2)), (by (with_reducible repeat (first | apply Kd.R_alloc | apply Kd.R_drewN | apply Kd.R_drew)); exact Kd.R_mono HO116.out (fun _ hk => hk.2)), (by repeat (first | (with_reducible first | exact HB.out | apply below_alloc | apply pw_below_drewN | apply below_drew1) | exact HB.out))⟩)
        · skip
          refine Kd.R_make_step (Kd.int .i64) _ 3 (by rfl) (N := 11) rfl 27 _ _ rfl (l0.length : Int) rfl rfl Try.underlying27 (.int .i64 0) 8 info3 rfl (by decide) (by omega) 0 (ok := fun _ => True) (okp := fun _ => True) rfl (fun _ hk => hk) trivial (of_decide_eq_true (by first | (with_reducible assumption) | assumption)) (Nat.le_trans (Nat.mul_le_mul_right _ (of_decide_eq_true (by first | (with_reducible assumption) | assumption) : (l0.length : Int).toNat ≤ 35184372088832)) (by omega)) (Below.refl _ _) (Nat.le_refl _) ?_
          intro v115 w5 ho6 hb hg_ hnew_
          clear hg_ hnew_
          (first | rw [← Ny114.out] at ho6 | (simp only [Int.reduceToNat] at ho6; rw [← Ny114.out] at ho6))
          have n0_ := Aside0.mk (Kd.R_lower ho6 (below_size (by repeat (first | (with_reducible first | exact HB.out | apply below_alloc | apply pw_below_drewN | apply below_drew1) | exact HB.out))))
          have n1_ := Aside0.mk (below_step (by repeat (first | (with_reducible first | exact HB.out | apply below_alloc | apply pw_below_drewN | apply below_drew1) | exact HB.out)) hb)
          clear HB
          have HO116 := n0_
          have HB := n1_
          clear n0_ n1_
          clear hb ho6
          refine hK.out _ _ trivial (fun hHeld => ?_)
          clear hK K
          refine norm_ (a' := ?_) ?_ ?_
          rotate_left
          · show Act.put _ (some 11) _ = _
            simp only [Act.put, List.setIfInBounds_toArray, List.set_cons_zero, List.set_cons_succ, i64_w, i32_w]
            rfl
          refine one_ (i := 2) (N := some 8) #[true, true, true, true, true, true, false, false] rfl rfl (one_of HT_.out (by kernel_rfl)) (by decide) (fun K hK => ?_)
          refine Kd.R_make_step (Kd.int .i64) _ 3 (by rfl) (N := 8) rfl 27 _ _ rfl (l0.length : Int) rfl rfl Try.underlying27 (.int .i64 0) 8 info3 rfl (by decide) (by omega) 0 (ok := fun _ => True) (okp := fun _ => True) rfl (fun _ hk => hk) trivial (of_decide_eq_true (by first | (with_reducible assumption) | assumption)) (Nat.le_trans (Nat.mul_le_mul_right _ (of_decide_eq_true (by first | (with_reducible assumption) | assumption) : (l0.length : Int).toNat ≤ 35184372088832)) (by omega)) (Below.refl _ _) (Nat.le_refl _) ?_
          intro v112 w7 ho8 hb hg_ hnew_
          clear hg_ hnew_
          (first | rw [← Ny111.out] at ho8 | (simp only [Int.reduceToNat] at ho8; rw [← Ny111.out] at ho8))
          have n0_ := Aside0.mk (Kd.R_elder' (by (with_reducible repeat (first | apply Kd.R_alloc | apply Kd.R_drewN | apply Kd.R_drew)); exact HO116.out) (Kd.R_base ho8) hb)
          have n1_ := Aside0.mk (Kd.R_lower (Kd.R_new' ho8 (Kd.R_lt (by (with_reducible repeat (first | apply Kd.R_alloc | apply Kd.R_drewN | apply Kd.R_drew)); exact HO116.out))) (below_size (by repeat (first | (with_reducible first | exact HB.out | apply below_alloc | apply pw_below_drewN | apply below_drew1) | exact HB.out))))
          have n2_ := Aside0.mk (below_step (by repeat (first | (with_reducible first | exact HB.out | apply below_alloc | apply pw_below_drewN | apply below_drew1) | exact HB.out)) hb)
          clear HO116
          clear HB
          have HO116 := n0_
          have HO113 := n1_
          have HB := n2_
          clear n0_ n1_ n2_
          clear hb ho8
          refine hK.out _ _ trivial (fun hHeld => ?_)
          clear hK K
          refine norm_ (a' := ?_) ?_ ?_
          rotate_left
          · show Act.put _ (some 8) _ = _
            simp only [Act.put, List.setIfInBounds_toArray, List.set_cons_zero, List.set_cons_succ, i64_w, i32_w]
            rfl
          refine pure_ (i := 6) (N := some 3) (v := ?_) (a' := ?_) #[true, true, true, true, true, true, true, false] rfl rfl (any_of HT_.out (by kernel_rfl)) (fun _ _ _ h => h) (Or.inl ⟨by rfl, ?_⟩) ?_ ?_
          rotate_left
          · intro w'
            go_simp
            with_reducible rfl
          rotate_left
          · simp only [Act.put, List.setIfInBounds_toArray, List.set_cons_zero, List.set_cons_succ, i64_w, i32_w]
            rfl
          exact norm_ (by simp only [putAll, Act.put, List.setIfInBounds_toArray, List.set_cons_zero, List.set_cons_succ]) (hCont (v112, v115) _ ⟨(by (with_reducible repeat (first | apply Kd.R_alloc | apply Kd.R_drewN | apply Kd.R_drew)); exact Kd.R_mono HO113.out (fun _ hk => hk.2)), (by (with_reducible repeat (first | apply Kd.R_alloc | apply Kd.R_drewN | apply Kd.R_drew)); exact Kd.R_mono HO116.out (fun _ hk => hk.2)), (by repeat (first | (with_reducible first | exact HB.out | apply below_alloc | apply pw_below_drewN | apply below_drew1) | exact HB.out))⟩)
      rintro ⟨v112, v115⟩ w9 ⟨h0_, h1_, h2_⟩
      have n0_ : Aside0 (Kd.R (Kd.int .i64) 3 w9 w.heap.size (fun k_ => some k_ ≠ (v115 : Value).ownBlock) v112 y111) := ⟨h0_⟩
      have n1_ : Aside0 (Kd.R (Kd.int .i64) 3 w9 w.heap.size (fun k_ => some k_ ≠ (v112 : Value).ownBlock) v115 y114) := ⟨h1_⟩
      have n2_ : Aside0 (Below w.heap.size w w9) := ⟨h2_⟩
      clear HB
      clear h0_ h1_ h2_
      have HO113 := n0_
      have HO116 := n1_
      have HB := n2_
      clear n0_ n1_ n2_
      have hHeld := trivial
      refine norm_ (a' := ?_) ?_ ?_
      rotate_left
      · simp only [putAll, Act.put, List.setIfInBounds_toArray, List.set_cons_zero, List.set_cons_succ]
        rfl
      refine pure_ (i := 7) (N := some 4) (v := ?_) (a' := ?_) #[true, true, true, true, true, true, true, true] rfl rfl (any_of HT_.out (by kernel_rfl)) (fun _ _ _ h => h) (Or.inl ⟨by rfl, ?_⟩) ?_ ?_
      rotate_left
      · intro w'
        go_simp
        with_reducible rfl
      rotate_left
      · simp only [Act.put, List.setIfInBounds_toArray, List.set_cons_zero, List.set_cons_succ, i64_w, i32_w]
        rfl
      refine done_ (done_of HT_.out (by kernel_rfl)) ?_
      try go_wp2
      go_loopg [5] k (fun kq v5 w' => ∃ (x3_1 : List Int) (x5_1 : Int), v5 = .int .i64 x5_1 ∧ Aside0 (zelligeref01_Neg.l0 kq l0 x3_1 y114 x5_1 = some r) ∧ Aside0 (kq ≤ k) ∧ Aside0 (Kd.R (Kd.int .i64) 3 w' w.heap.size (fun k_ => some k_ ≠ (v115 : Value).ownBlock) v112 x3_1) ∧ Aside0 (Kd.R (Kd.int .i64) 3 w' w.heap.size (fun k_ => some k_ ≠ (v112 : Value).ownBlock) v115 y114) ∧ Aside0 (Below w.heap.size w w'))
      case atStart => exact ⟨(y111), (0), (by first | rfl | (simp; done) | (simp [*]; done)), H', ⟨Nat.le_refl _⟩, ⟨by (with_reducible repeat (first | apply Kd.R_alloc | apply Kd.R_drewN | apply Kd.R_drew)); exact HO113.out⟩, ⟨by (with_reducible repeat (first | apply Kd.R_alloc | apply Kd.R_drewN | apply Kd.R_drew)); exact HO116.out⟩, ⟨by repeat (first | (with_reducible first | exact HB.out | apply below_alloc | apply pw_below_drewN | apply below_drew1) | exact HB.out)⟩⟩
      case round =>
        clear H'
        try clear c2
        try clear c2b0
        try clear c2b1
        try clear p2
        try clear c3
        try clear c3b0
        try clear c3b1
        obtain ⟨x3_1, x5_1, rfl, HA, HK1, HO_3, HO_4, HB⟩ := hrel
        cases gk with
        | zero => exact absurd HA.out (by simp [zelligeref01_Neg.l0])
        | succ k1 =>
          have H := HA.out
          clear HA
          simp only [zelligeref01_Neg.l0] at H
          by_cases c10 : x5_1 < (l0.length : Int)
          · rw [if_pos c10] at H
            have c10b0 : decide (x5_1 < (l0.length : Int)) = true := decide_eq_true c10
            clear c10
            by_cases c11 : 0 ≤ x5_1
            · rw [if_pos c11] at H
              have c11b0 : decide (0 ≤ x5_1) = true := decide_eq_true c11
              clear c11
              by_cases c12 : x5_1 < (x3_1.length : Int)
              · rw [if_pos c12] at H
                have c12b0 : decide (x5_1 < (x3_1.length : Int)) = true := decide_eq_true c12
                clear c12
                obtain ⟨y118, hy118⟩ : ∃ y_ : List Int, y_ = (x3_1.set (x5_1 : Int).toNat (wrap64 (255 - (rd l0 x5_1)))) := ⟨_, rfl⟩
                replace H : (zelligeref01_Neg.l0 k1 l0 y118 y114 (wrap64 (x5_1 + 1))) = some r := by first | (rw [hy118]; with_reducible exact H) | (have H2_ := (Option.bind_some _ _).symm.trans H; rw [hy118]; with_reducible exact H2_) | (have H2_ := (Option.bind_some _ _).symm.trans H; with_reducible exact H2_) | with_reducible exact H | (rw [hy118]; exact H) | exact H
                have Ny118 := Aside0.mk hy118
                clear hy118
                have H' := Aside0.mk H
                clear H
                have p117 : 0 ≤ (x5_1 : Int) := of_decide_eq_true (by first | (with_reducible assumption) | assumption)
                have q117 : x5_1 < (l0.length : Int) := of_decide_eq_true (by first | (with_reducible assumption) | assumption)
                obtain ⟨ad117, e117, hx117_0⟩ := Kd.at_int HR0.out x5_1 p117 q117
                cases e117
                replace hx117_0 := (HB.out.cell (World.block_lt_of_cell? w _ hx117_0)).trans hx117_0
                replace p117 := eq_true p117
                replace q117 := eq_true q117
                have p13 : 0 ≤ (x5_1 : Int) := of_decide_eq_true (by first | (with_reducible assumption) | assumption)
                have q13 : (x5_1 : Int) < ((x3_1.length : Int) : Int) := of_decide_eq_true (by first | (with_reducible assumption) | assumption)
                obtain ⟨go13, co13, eo13, gb13, gl13, cl13, HG13⟩ := Kd.R_form HO_3.out (by omega)
                (first | cases eo13 | (injection eo13 with ea_ en_ ec_; (first | subst ea_ | (injection ea_ with ea_; subst ea_)); subst ec_; clear en_))
                have GB13 := Aside0.mk gb13
                have GG13 := Aside0.mk HG13
                clear gb13 gl13 HG13
                obtain ⟨hx13_0, hf13_0⟩ := Kd.R_celln 0 HO_3.out (x5_1 : Int) p13 q13
                replace p13 := eq_true p13
                replace q13 := eq_true q13
                have HP14 := Kd.R_putg HO_3.out (x5_1 : Int) (wrap64 (255 - (rd l0 x5_1)))
                go_wp2_with (first | ((with_reducible refine gate_store (t := 3) (p := 25) rfl ?_); refine store_event (t := 3) (p := 25) (v := ?vo_w15) (w1 := (wr.setCell ⟨go13, (x5_1 : Int).toNat, none⟩ (.int .i64 (wrap64 (255 - (rd l0 x5_1)))))) ?hg ?ho ?hn ?hr ?_; (case ho => rfl); (case hg => rfl); (case hn => rfl); (case hr => first | (go_simp; done) | (go_simp; rfl)); intro w15 hw; have hg : wr.grownBy w15 (some go13) := (by rw [hw]; exact HP14.2); have hp_ : Kd.R (Kd.int .i64) 3 w15 w.heap.size (fun k_ => some k_ ≠ (v115 : Value).ownBlock) (.slice (some ⟨go13, 0, none⟩) x3_1.length co13) y118 := (by rw [hw, Ny118.out]; exact HP14.1); clear HP14; have n0_ := Aside0.mk (hp_); have n1_ := Aside0.mk (Kd.R_after (v := (.slice (some ⟨go13, 0, none⟩) x3_1.length co13)) (v1 := (.slice (some ⟨go13, 0, none⟩) x3_1.length co13)) (ok := (fun _ => True)) (by (with_reducible repeat (first | apply Kd.R_alloc | apply Kd.R_drewN | apply Kd.R_drew)); exact Kd.R_mono HO_4.out (fun _ hk => ⟨trivial, hk⟩)) hg (.inl rfl)); have n2_ := Aside0.mk ((by rw [hw]; exact below_set (HB.out) GB13.out : Below w.heap.size w w15)); clear HO_3; clear HO_4; clear HB; have HO_3 := n0_; have HO_4 := n1_; have HB := n2_; clear n0_ n1_ n2_; clear hg hw hp_))
                go_roundg k1
                case measure => have := HK1.out; omega
                case rel => exact ⟨(y118), (wrap64 (x5_1 + 1)), (by first | rfl | (simp; done) | (simp [*]; done)), H', ⟨by have := HK1.out; omega⟩, ⟨by (with_reducible repeat (first | apply Kd.R_alloc | apply Kd.R_drewN | apply Kd.R_drew)); exact HO_3.out⟩, ⟨by (with_reducible repeat (first | apply Kd.R_alloc | apply Kd.R_drewN | apply Kd.R_drew)); exact Kd.R_mono HO_4.out (fun _ hk => hk.2)⟩, ⟨by repeat (first | (with_reducible first | exact HB.out | apply below_alloc | apply pw_below_drewN | apply below_drew1) | exact HB.out)⟩⟩
              · rw [if_neg c12] at H
                exact absurd H (by simp)
            · rw [if_neg c11] at H
              exact absurd H (by simp)
          · rw [if_neg c10] at H
            have c10b0 : decide (x5_1 < (l0.length : Int)) = false := decide_eq_false c10
            clear c10
            by_cases c16 : 0 < (y114.length : Int)
            · rw [if_pos c16] at H
              have c16b0 : decide (0 < (y114.length : Int)) = true := decide_eq_true c16
              have c16b1 : decide (0 < y114.length) = true := decide_eq_true (by omega)
              clear c16
              obtain ⟨y119, hy119⟩ : ∃ y_ : List Int, y_ = (y114.set (0 : Int).toNat 1) := ⟨_, rfl⟩
              replace H : ((zelligeref01_Add.f k1 x3_1 y119).bind fun t120 => (some t120)) = some r := by first | (rw [hy119]; with_reducible exact H) | (have H2_ := (Option.bind_some _ _).symm.trans H; rw [hy119]; with_reducible exact H2_) | (have H2_ := (Option.bind_some _ _).symm.trans H; with_reducible exact H2_) | with_reducible exact H | (rw [hy119]; exact H) | exact H
              have Ny119 := Aside0.mk hy119
              clear hy119
              replace H := Option.bind_eq_some_iff.mp H
              obtain ⟨t120, A180, H⟩ := H
              replace H : (some t120) = some r := H
              have A18 := Aside0.mk A180
              clear A180
              obtain rfl := Option.some.inj H
              have p17 : 0 ≤ (0 : Int) := (by omega)
              have q17 : (0 : Int) < ((y114.length : Int) : Int) := of_decide_eq_true (by first | (with_reducible assumption) | assumption)
              have qi17 : (0 < y114.length) = True := eq_true (by omega)
              obtain ⟨go17, co17, eo17, gb17, gl17, cl17, HG17⟩ := Kd.R_form HO_4.out (by omega)
              (first | cases eo17 | (injection eo17 with ea_ en_ ec_; (first | subst ea_ | (injection ea_ with ea_; subst ea_)); subst ec_; clear en_))
              have GB17 := Aside0.mk gb17
              have GG17 := Aside0.mk HG17
              clear gb17 gl17 HG17
              obtain ⟨hx17_0, hf17_0⟩ := Kd.R_celln 0 HO_4.out (0 : Int) p17 q17
              (try rw [show ((0 : Int)).toNat = 0 from rfl] at hx17_0)
              (try simp only [Nat.reduceMul, Nat.zero_mul, Nat.zero_add, Nat.reduceAdd] at hx17_0)
              (try rw [show ((0 : Int)).toNat = 0 from rfl] at hf17_0)
              (try simp only [Nat.reduceMul, Nat.zero_mul, Nat.zero_add, Nat.reduceAdd] at hf17_0)
              replace p17 := eq_true p17
              replace q17 := eq_true q17
              have HP19 := Kd.R_putg HO_4.out (0 : Int) 1
              go_wp2_with (first | ((with_reducible refine gate_store (t := 3) (p := 27) rfl ?_); refine store_event (t := 3) (p := 27) (v := ?vo_w20) (w1 := (wr.setCell ⟨go17, (0 : Int).toNat, none⟩ (.int .i64 1))) ?hg ?ho ?hn ?hr ?_; (case ho => rfl); (case hg => rfl); (case hn => rfl); (case hr => first | (go_simp; done) | (go_simp; rfl)); intro w20 hw; have hg : wr.grownBy w20 (some go17) := (by rw [hw]; exact HP19.2); have hp_ : Kd.R (Kd.int .i64) 3 w20 w.heap.size (fun k_ => some k_ ≠ (v112 : Value).ownBlock) (.slice (some ⟨go17, 0, none⟩) y114.length co17) y119 := (by rw [hw, Ny119.out]; exact HP19.1); clear HP19; have n0_ := Aside0.mk (Kd.R_after (v := (.slice (some ⟨go17, 0, none⟩) y114.length co17)) (v1 := (.slice (some ⟨go17, 0, none⟩) y114.length co17)) (ok := (fun _ => True)) (by (with_reducible repeat (first | apply Kd.R_alloc | apply Kd.R_drewN | apply Kd.R_drew)); exact Kd.R_mono HO_3.out (fun _ hk => ⟨trivial, hk⟩)) hg (.inl rfl)); have n1_ := Aside0.mk (hp_); have n2_ := Aside0.mk ((by rw [hw]; exact below_set (HB.out) GB17.out : Below w.heap.size w w20)); clear HO_3; clear HO_4; clear HB; have HO_3 := n0_; have HO_4 := n1_; have HB := n2_; clear n0_ n1_ n2_; clear hg hw hp_; obtain ⟨Ao21, co21, eo21⟩ := Kd.R_slice HO_3.out; subst eo21) | ((with_reducible refine gate_callee (f := 19) rfl ?_); refine goesL_ (some 30) rfl rfl Try.func19 (by kernel_rfl) rfl #[.slice Ao21 x3_1.length co21, .slice (some ⟨go17, 0, none⟩) y119.length co17] rfl (by (try simp only [List.map_toArray, List.map_cons, List.map_nil]); first | done | (rw [show y119.length = y114.length from (Kd.R_reads' HO_4.out).1.symm] <;> rfl) | rfl | (simp only [List.length_drop, List.length_take]; rfl)) ?_; (with_reducible refine (zelligeref01_Add.calls k1 _ _ x3_1 _ _ y119 t120 _ ?side1 ?side2 ?side3 ?side4 A18.out).mono ?_); (case side1 => repeat (first | exact (Kd.R_reads' HO_3.out).2.2 | (with_reducible refine Kd.C_alloc ?_ _) | (with_reducible refine Kd.C_drewN ?_ _) | (with_reducible refine Kd.C_drew ?_))); (case side2 => exact (Kd.R_reads' HO_3.out).2.1); (case side3 => repeat (first | exact (Kd.R_reads' HO_4.out).2.2 | (with_reducible refine Kd.C_alloc ?_ _) | (with_reducible refine Kd.C_drewN ?_ _) | (with_reducible refine Kd.C_drew ?_))); (case side4 => rw [show y119.length = y114.length from (Kd.R_reads' HO_4.out).1.symm]; exact (Kd.R_reads' HO_4.out).2.1); rintro e w22 ⟨v121, rfl, ho0, hb⟩; refine ⟨_, rfl, ?_⟩; have n0_ := Aside0.mk (Kd.R_elder' (by (with_reducible repeat (first | apply Kd.R_alloc | apply Kd.R_drewN | apply Kd.R_drew)); exact HO_3.out) (Kd.R_base ho0) hb); have n1_ := Aside0.mk (Kd.R_elder' (by (with_reducible repeat (first | apply Kd.R_alloc | apply Kd.R_drewN | apply Kd.R_drew)); exact HO_4.out) (Kd.R_base ho0) hb); have n2_ := Aside0.mk (Kd.R_lower (Kd.R_new' (Kd.R_new' ho0 (Kd.R_lt (by (with_reducible repeat (first | apply Kd.R_alloc | apply Kd.R_drewN | apply Kd.R_drew)); exact HO_3.out))) (Kd.R_lt (by (with_reducible repeat (first | apply Kd.R_alloc | apply Kd.R_drewN | apply Kd.R_drew)); exact HO_4.out))) (below_size (by repeat (first | (with_reducible first | exact HB.out | apply below_alloc | apply pw_below_drewN | apply below_drew1) | exact HB.out)))); have n3_ := Aside0.mk (below_step (by repeat (first | (with_reducible first | exact HB.out | apply below_alloc | apply pw_below_drewN | apply below_drew1) | exact HB.out)) hb); clear HO_3; clear HO_4; clear HB; have HO_3 := n0_; have HO_4 := n1_; have HO122 := n2_; have HB := n3_; clear n0_ n1_ n2_ n3_; (try clear hb); (try clear hb2); (try clear hk); (try clear hi); (try clear ho0)))
              go_ret
              exact ⟨_, by first | rfl | (simp [errW_none, errW_some] <;> rfl) | (simp [*, errW_none, errW_some] <;> rfl), by (with_reducible repeat (first | apply Kd.R_alloc | apply Kd.R_drewN | apply Kd.R_drew)); exact Kd.R_mono HO122.out (fun _ hk => trivial), by repeat (first | (with_reducible first | exact HB.out | apply below_alloc | apply pw_below_drewN | apply below_drew1) | exact HB.out)⟩
            · rw [if_neg c16] at H
              exact absurd H (by simp)
    · rw [if_neg c3] at H
      exact absurd H (by simp)
  · rw [if_neg c2] at H
    exact absurd H (by simp)

end Go.Proofs.Ytbmeokhoebjdbaa.F
end

section
namespace Go.Proofs.Ytbmeokhoebjdbaa.F
open Go.RowKit Go.Proofs.YtbmeokhoebjdbaaW.PrintWords Go.Proofs.YtbmeokhoebjdbaaW.PrintLast Go.Proofs.YtbmeokhoebjdbaaW.PrintMore
attribute [local go_sem] max2_int min2_int max_two min_two max_three min_three max_four min_four   -- for this text's walks alone
set_option linter.unusedVariables false
set_option linter.unusedSimpArgs false

/-! ### zelligeref01_Mul: function 17 -/
mutual
def zelligeref01_Mul.l0 : Nat → List Int → List Int → List Int → Int → Option (List Int)
  | 0, _, _, _, _ => none
  | k + 1, x0, x1, x5, x6 => if x6 < (x0.length : Int) then (zelligeref01_Mul.l1 k x0 x1 x5 x6 0 0) else (some x5)
def zelligeref01_Mul.l1 : Nat → List Int → List Int → List Int → Int → Int → Int → Option (List Int)
  | 0, _, _, _, _, _, _ => none
  | k + 1, x0, x1, x5, x6, x7, x8 => if (wrap64 (x6 + x8)) < (x0.length : Int) then (if 0 ≤ (wrap64 (x6 + x8)) then (if (wrap64 (x6 + x8)) < (x5.length : Int) then (if 0 ≤ x6 then (if x6 < (x0.length : Int) then (if 0 ≤ x8 then (if x8 < (x1.length : Int) then (zelligeref01_Mul.l1 k x0 x1 (x5.set ((wrap64 (x6 + x8)) : Int).toNat (Int.tmod (wrap64 ((wrap64 (x7 + (rd x5 (wrap64 (x6 + x8))))) + (wrap64 ((rd x0 x6) * (rd x1 x8))))) 256)) x6 (wrap64 (Int.tdiv (wrap64 ((wrap64 (x7 + (rd x5 (wrap64 (x6 + x8))))) + (wrap64 ((rd x0 x6) * (rd x1 x8))))) 256)) (wrap64 (x8 + 1))) else (none)) else (none)) else (none)) else (none)) else (none)) else (none)) else (zelligeref01_Mul.l0 k x0 x1 x5 (wrap64 (x6 + 1)))
end
def zelligeref01_Mul.f (k : Nat) (l0 : List Int) (l1 : List Int) : Option (List Int) := if 0 ≤ (l0.length : Int) then (if ((l0.length : Int) : Int).toNat ≤ 35184372088832 then (zelligeref01_Mul.l0 k l0 l1 (List.replicate ((l0.length : Int) : Int).toNat 0) 0) else (none)) else (none)
theorem zelligeref01_Mul.mono_l : ∀ k, (∀ y0 y1 y2 y3, LeO (zelligeref01_Mul.l0 k y0 y1 y2 y3) (zelligeref01_Mul.l0 (k + 1) y0 y1 y2 y3)) ∧ (∀ y0 y1 y2 y3 y4 y5, LeO (zelligeref01_Mul.l1 k y0 y1 y2 y3 y4 y5) (zelligeref01_Mul.l1 (k + 1) y0 y1 y2 y3 y4 y5))
  | 0 => ⟨fun _ _ _ _ r h => by simp [zelligeref01_Mul.l0] at h, fun _ _ _ _ _ _ r h => by simp [zelligeref01_Mul.l1] at h⟩
  | k + 1 => by
    obtain ⟨ih0, ih1⟩ := zelligeref01_Mul.mono_l k
    refine ⟨?_, ?_⟩
    · intro y0 y1 y2 y3
      unfold zelligeref01_Mul.l0
      repeat' first
      | (with_reducible exact ih0 _ _ _ _)
      | (with_reducible exact ih1 _ _ _ _ _ _)
      | (with_reducible exact LeO.refl _)
      | (with_reducible exact LeO.none _)
      | (with_reducible refine LeO.ite ?_ ?_)
      | (with_reducible refine LeO.bind ?_ (fun _ => ?_))
      | exact ih0 _ _ _ _
      | exact ih1 _ _ _ _ _ _
      | exact LeO.none _
      | refine LeO.ite ?_ ?_
      | refine LeO.bind ?_ (fun _ => ?_)
    · intro y0 y1 y2 y3 y4 y5
      unfold zelligeref01_Mul.l1
      repeat' first
      | (with_reducible exact ih0 _ _ _ _)
      | (with_reducible exact ih1 _ _ _ _ _ _)
      | (with_reducible exact LeO.refl _)
      | (with_reducible exact LeO.none _)
      | (with_reducible refine LeO.ite ?_ ?_)
      | (with_reducible refine LeO.bind ?_ (fun _ => ?_))
      | exact ih0 _ _ _ _
      | exact ih1 _ _ _ _ _ _
      | exact LeO.none _
      | refine LeO.ite ?_ ?_
      | refine LeO.bind ?_ (fun _ => ?_)
theorem zelligeref01_Mul.mono : ∀ a0 a1 k, LeO (zelligeref01_Mul.f k a0 a1) (zelligeref01_Mul.f (k + 1) a0 a1) := by
  intro a0 a1 k
  obtain ⟨ih0, ih1⟩ := zelligeref01_Mul.mono_l k
  unfold zelligeref01_Mul.f
  repeat' first
      | (with_reducible exact ih0 _ _ _ _)
      | (with_reducible exact ih1 _ _ _ _ _ _)
      | (with_reducible exact LeO.refl _)
      | (with_reducible exact LeO.none _)
      | (with_reducible refine LeO.ite ?_ ?_)
      | (with_reducible refine LeO.bind ?_ (fun _ => ?_))
      | exact ih0 _ _ _ _
      | exact ih1 _ _ _ _ _ _
      | exact LeO.none _
      | refine LeO.ite ?_ ?_
      | refine LeO.bind ?_ (fun _ => ?_)
set_option maxHeartbeats 8000000 in
set_option maxRecDepth 100000 in
theorem zelligeref01_Mul.calls (k : Nat) (A0 : Option Addr) (c0 : Nat) (l0 : List Int) (A1 : Option Addr) (c1 : Nat) (l1 : List Int) (r : List Int) (w : World) (hr0 : Kd.C (Kd.int .i64) w A0 l0.length l0) (hc0 : l0.length ≤ c0) (hr1 : Kd.C (Kd.int .i64) w A1 l1.length l1) (hc1 : l1.length ≤ c1) (h : zelligeref01_Mul.f k l0 l1 = some r) :
    Calls Try.prog 17 #[.slice A0 l0.length c0, .slice A1 l1.length c1] w fun e w' => ∃ v0_ : Value, e = .returned (v0_) ∧ Kd.R (Kd.int .i64) 3 w' w.heap.size (fun _ => True) v0_ r ∧ Below w.heap.size w w' := by
  have HR0 := Aside0.mk hr0
  have HC0 := Aside0.mk hc0
  clear hr0 hc0
  have HR1 := Aside0.mk hr1
  have HC1 := Aside0.mk hc1
  clear hr1 hc1
  have HB := Aside0.mk (Below.refl w.heap.size w)
  have H : (if 0 ≤ (l0.length : Int) then (if ((l0.length : Int) : Int).toNat ≤ 35184372088832 then (zelligeref01_Mul.l0 k l0 l1 (List.replicate ((l0.length : Int) : Int).toNat 0) 0) else (none)) else (none)) = some r := h
  clear h
  by_cases c3 : 0 ≤ (l0.length : Int)
  · rw [if_pos c3] at H
    have c3b0 := eq_true c3
    have c3b1 : decide (0 ≤ (l0.length : Int)) = true := decide_eq_true c3
    clear c3
    by_cases c4 : ((l0.length : Int) : Int).toNat ≤ 35184372088832
    · rw [if_pos c4] at H
      have c4b0 := eq_true c4
      have c4b1 : decide (((l0.length : Int) : Int).toNat ≤ 35184372088832) = true := decide_eq_true c4
      clear c4
      obtain ⟨y159, hy159⟩ : ∃ y_ : List Int, y_ = (List.replicate ((l0.length : Int) : Int).toNat 0) := ⟨_, rfl⟩
      replace H : (zelligeref01_Mul.l0 k l0 l1 y159 0) = some r := by first | (rw [hy159]; with_reducible exact H) | (have H2_ := (Option.bind_some _ _).symm.trans H; rw [hy159]; with_reducible exact H2_) | (have H2_ := (Option.bind_some _ _).symm.trans H; with_reducible exact H2_) | with_reducible exact H | (rw [hy159]; exact H) | exact H
      have Ny159 := Aside0.mk hy159
      clear hy159
      have H' := Aside0.mk H
      clear H
      go_enter Try.func17, Try.ntmps17
      go_wp2_with (first | ((with_reducible refine gate_dst (N := 11) rfl ?_); refine Kd.R_make (Kd.int .i64) _ 3 rfl (N := 11) rfl 27 _ _ rfl (l0.length : Int) rfl rfl Try.underlying27 (.int .i64 0) 8 info3 rfl (by decide) (by omega) 0 (ok := fun _ => True) (okp := fun _ => True) rfl (fun _ hk => hk) trivial (of_decide_eq_true (by first | (with_reducible assumption) | assumption)) (Nat.le_trans (Nat.mul_le_mul_right _ (of_decide_eq_true (by first | (with_reducible assumption) | assumption) : (l0.length : Int).toNat ≤ 35184372088832)) (by omega)) (Below.refl _ _) (Nat.le_refl _) ?_; intro v160 w5 ho6 hb hg_ hnew_; clear hg_ hnew_; (first | rw [← Ny159.out] at ho6 | (simp only [Int.reduceToNat] at ho6; rw [← Ny159.out] at ho6)); have n0_ := Aside0.mk (Kd.R_lower ho6 (below_size (by repeat (first | (with_reducible first | exact HB.out | apply below_alloc | apply pw_below_drewN | apply below_drew1) | exact HB.out)))); have n1_ := Aside0.mk (below_step (by repeat (first | (with_reducible first | exact HB.out | apply below_alloc | apply pw_below_drewN | apply below_drew1) | exact HB.out)) hb); clear HB; have HO161 := n0_; have HB := n1_; clear n0_ n1_; clear hb ho6))
      repeat (go_quiet (first | ((with_reducible refine gate_dst (N := 11) rfl ?_); refine Kd.R_make (Kd.int .i64) _ 3 rfl (N := 11) rfl 27 _ _ rfl (l0.length : Int) rfl rfl Try.underlying27 (.int .i64 0) 8 info3 rfl (by decide) (by omega) 0 (ok := fun _ => True) (okp := fun _ => True) rfl (fun _ hk => hk) trivial (of_decide_eq_true (by first | (with_reducible assumption) | assumption)) (Nat.le_trans (Nat.mul_le_mul_right _ (of_decide_eq_true (by first | (with_reducible assumption) | assumption) : (l0.length : Int).toNat ≤ 35184372088832)) (by omega)) (Below.refl _ _) (Nat.le_refl _) ?_; intro v160 w5 ho6 hb hg_ hnew_; clear hg_ hnew_; (first | rw [← Ny159.out] at ho6 | (simp only [Int.reduceToNat] at ho6; rw [← Ny159.out] at ho6)); have n0_ := Aside0.mk (Kd.R_lower ho6 (below_size (by repeat (first | (with_reducible first | exact HB.out | apply below_alloc | apply pw_below_drewN | apply below_drew1) | exact HB.out)))); have n1_ := Aside0.mk (below_step (by repeat (first | (with_reducible first | exact HB.out | apply below_alloc | apply pw_below_drewN | apply below_drew1) | exact HB.out)) hb); clear HB; have HO161 := n0_; have HB := n1_; clear n0_ n1_; clear hb ho6)); try go_wp2_with (first | ((with_reducible refine gate_dst (N := 11) rfl ?_); refine Kd.R_make (Kd.int .i64) _ 3 rfl (N := 11) rfl 27 _ _ rfl (l0.length : Int) rfl rfl Try.underlying27 (.int .i64 0) 8 info3 rfl (by decide) (by omega) 0 (ok := fun _ => True) (okp := fun _ => True) rfl (fun _ hk => hk) trivial (of_decide_eq_true (by first | (with_reducible assumption) | assumption)) (Nat.le_trans (Nat.mul_le_mul_right _ (of_decide_eq_true (by first | (with_reducible assumption) | assumption) : (l0.length : Int).toNat ≤ 35184372088832)) (by omega)) (Below.refl _ _) (Nat.le_refl _) ?_; intro v160 w5 ho6 hb hg_ hnew_; clear hg_ hnew_; (first | rw [← Ny159.out] at ho6 | (simp only [Int.reduceToNat] at ho6; rw [← Ny159.out] at ho6)); have n0_ := Aside0.mk (Kd.R_lower ho6 (below_size (by repeat (first | (with_reducible first | exact HB.out | apply below_alloc | apply pw_below_drewN | apply below_drew1) | exact HB.out)))); have n1_ := Aside0.mk (below_step (by repeat (first | (with_reducible first | exact HB.out | apply below_alloc | apply pw_below_drewN | apply below_drew1) | exact HB.out)) hb); clear HB; have HO161 := n0_; have HB := n1_; clear n0_ n1_; clear hb ho6)))
      go_loopg [6] k (fun kq v6 w' => ∃ (x5_1 : List Int) (x6_1 : Int), v6 = .int .i64 x6_1 ∧ Aside0 (zelligeref01_Mul.l0 kq l0 l1 x5_1 x6_1 = some r) ∧ Aside0 (kq ≤ k) ∧ Aside0 (Kd.R (Kd.int .i64) 3 w' w.heap.size (fun _ => True) v160 x5_1) ∧ Aside0 (Below w.heap.size w w'))
      case atStart => exact ⟨(y159), (0), (by first | rfl | (simp; done) | (simp [*]; done)), H', ⟨Nat.le_refl _⟩, ⟨by (with_reducible repeat (first | apply Kd.R_alloc | apply Kd.R_drewN | apply Kd.R_drew)); exact HO161.out⟩, ⟨by repeat (first | (with_reducible first | exact HB.out | apply below_alloc | apply pw_below_drewN | apply below_drew1) | exact HB.out)⟩⟩
      case round =>
        clear H'
        try clear c1
        try clear p2
        try clear c3
        try clear c3b0
        try clear c3b1
        try clear c4
        try clear c4b0
        try clear c4b1
        obtain ⟨x5_1, x6_1, rfl, HA, HK1, HO_5, HB⟩ := hrel
        cases gk with
        | zero => exact absurd HA.out (by simp [zelligeref01_Mul.l0])
        | succ k1 =>
          have H := HA.out
          clear HA
          simp only [zelligeref01_Mul.l0] at H
          by_cases c7 : x6_1 < (l0.length : Int)
          · rw [if_pos c7] at H
            have c7b0 : decide (x6_1 < (l0.length : Int)) = true := decide_eq_true c7
            clear c7
            have H' := Aside0.mk H
            clear H
            go_wp2
            repeat (go_quiet (fail); try go_wp2)
            go_loopg [7, 8] k1 (fun kq v7 v8 w' => ∃ (x5_2 : List Int) (x7_2 : Int) (x8_2 : Int), v7 = .int .i64 x7_2 ∧ v8 = .int .i64 x8_2 ∧ Aside0 (zelligeref01_Mul.l1 kq l0 l1 x5_2 x6_1 x7_2 x8_2 = some r) ∧ Aside0 (kq ≤ k1) ∧ Aside0 (Kd.R (Kd.int .i64) 3 w' w.heap.size (fun _ => True) v160 x5_2) ∧ Aside0 (Below w.heap.size w w'))
            case atStart => exact ⟨(x5_1), (0), (0), (by first | rfl | (simp; done) | (simp [*]; done)), (by first | rfl | (simp; done) | (simp [*]; done)), H', ⟨Nat.le_refl _⟩, ⟨by (with_reducible repeat (first | apply Kd.R_alloc | apply Kd.R_drewN | apply Kd.R_drew)); exact HO_5.out⟩, ⟨by repeat (first | (with_reducible first | exact HB.out | apply below_alloc | apply pw_below_drewN | apply below_drew1) | exact HB.out)⟩⟩
            case round =>
              clear H'
              try clear c1
              try clear p2
              try clear c3
              try clear c3b0
              try clear c3b1
              try clear c4
              try clear c4b0
              try clear c4b1
              try clear c7
              try clear c7b0
              try clear p2
              obtain ⟨x5_2, x7_2, x8_2, rfl, rfl, HA, HK2, HO_5, HB⟩ := hrel
              cases gk with
              | zero => exact absurd HA.out (by simp [zelligeref01_Mul.l1])
              | succ k2 =>
                have H := HA.out
                clear HA
                simp only [zelligeref01_Mul.l1] at H
                by_cases c8 : (wrap64 (x6_1 + x8_2)) < (l0.length : Int)
                · rw [if_pos c8] at H
                  have c8b0 : decide ((wrap64 (x6_1 + x8_2)) < (l0.length : Int)) = true := decide_eq_true c8
                  clear c8
                  obtain ⟨ji9, hji9⟩ : ∃ j_ : Int, (wrap64 (x6_1 + x8_2)) = j_ := ⟨_, rfl⟩
                  replace H : (if 0 ≤ (ji9) then (if (ji9) < (x5_2.length : Int) then (if 0 ≤ x6_1 then (if x6_1 < (l0.length : Int) then (if 0 ≤ x8_2 then (if x8_2 < (l1.length : Int) then (zelligeref01_Mul.l1 k2 l0 l1 (x5_2.set ((ji9) : Int).toNat (Int.tmod (wrap64 ((wrap64 (x7_2 + (rd x5_2 (ji9)))) + (wrap64 ((rd l0 x6_1) * (rd l1 x8_2))))) 256)) x6_1 (wrap64 (Int.tdiv (wrap64 ((wrap64 (x7_2 + (rd x5_2 (ji9)))) + (wrap64 ((rd l0 x6_1) * (rd l1 x8_2))))) 256)) (wrap64 (x8_2 + 1))) else (none)) else (none)) else (none)) else (none)) else (none)) else (none)) = some r := by first | (rw [hji9] at H; exact H) | (simp only [hji9] at H ⊢; exact H)
                  (try rw [hji9] at c8b0)
                  have hji9w : (IntKind.i64.wrap (x6_1 + x8_2)) = ji9 := (i64_w _).trans hji9
                  by_cases c10 : 0 ≤ (ji9)
                  · rw [if_pos c10] at H
                    have c10b0 : decide (0 ≤ (ji9)) = true := decide_eq_true c10
                    clear c10
                    by_cases c11 : (ji9) < (x5_2.length : Int)
                    · rw [if_pos c11] at H
                      have c11b0 : decide ((ji9) < (x5_2.length : Int)) = true := decide_eq_true c11
                      clear c11
                      by_cases c12 : 0 ≤ x6_1
                      · rw [if_pos c12] at H
                        have c12b0 : decide (0 ≤ x6_1) = true := decide_eq_true c12
                        clear c12
                        by_cases c13 : x6_1 < (l0.length : Int)
                        · rw [if_pos c13] at H
                          have c13b0 : decide (x6_1 < (l0.length : Int)) = true := decide_eq_true c13
                          clear c13
                          by_cases c14 : 0 ≤ x8_2
                          · rw [if_pos c14] at H
                            have c14b0 : decide (0 ≤ x8_2) = true := decide_eq_true c14
                            clear c14
                            by_cases c15 : x8_2 < (l1.length : Int)
                            · rw [if_pos c15] at H
                              have c15b0 : decide (x8_2 < (l1.length : Int)) = true := decide_eq_true c15
                              clear c15
                              obtain ⟨y165, hy165⟩ : ∃ y_ : List Int, y_ = (x5_2.set ((ji9) : Int).toNat (Int.tmod (wrap64 ((wrap64 (x7_2 + (rd x5_2 (ji9)))) + (wrap64 ((rd l0 x6_1) * (rd l1 x8_2))))) 256)) := ⟨_, rfl⟩
                              replace H : (zelligeref01_Mul.l1 k2 l0 l1 y165 x6_1 (wrap64 (Int.tdiv (wrap64 ((wrap64 (x7_2 + (rd x5_2 (ji9)))) + (wrap64 ((rd l0 x6_1) * (rd l1 x8_2))))) 256)) (wrap64 (x8_2 + 1))) = some r := by first | (rw [hy165]; with_reducible exact H) | (have H2_ := (Option.bind_some _ _).symm.trans H; rw [hy165]; with_reducible exact H2_) | (have H2_ := (Option.bind_some _ _).symm.trans H; with_reducible exact H2_) | with_reducible exact H | (rw [hy165]; exact H) | exact H
                              have Ny165 := Aside0.mk hy165
                              clear hy165
                              have H' := Aside0.mk H
                              clear H
                              obtain ⟨Ao17, co17, eo17⟩ := Kd.R_slice HO_5.out
                              subst eo17
                              have p162 : 0 ≤ ((ji9) : Int) := of_decide_eq_true (by first | (with_reducible assumption) | assumption)
                              have q162 : (ji9) < (x5_2.length : Int) := of_decide_eq_true (by first | (with_reducible assumption) | assumption)
                              obtain ⟨ad162, e162, hx162_0⟩ := Kd.at_int (Kd.R_reads' HO_5.out).2.2 (ji9) p162 q162
                              cases e162
                              replace p162 := eq_true p162
                              replace q162 := eq_true q162
                              have p163 : 0 ≤ (x6_1 : Int) := of_decide_eq_true (by first | (with_reducible assumption) | assumption)
                              have q163 : x6_1 < (l0.length : Int) := of_decide_eq_true (by first | (with_reducible assumption) | assumption)
                              obtain ⟨ad163, e163, hx163_0⟩ := Kd.at_int HR0.out x6_1 p163 q163
                              cases e163
                              replace hx163_0 := (HB.out.cell (World.block_lt_of_cell? w _ hx163_0)).trans hx163_0
                              replace p163 := eq_true p163
                              replace q163 := eq_true q163
                              have p164 : 0 ≤ (x8_2 : Int) := of_decide_eq_true (by first | (with_reducible assumption) | assumption)
                              have q164 : x8_2 < (l1.length : Int) := of_decide_eq_true (by first | (with_reducible assumption) | assumption)
                              obtain ⟨ad164, e164, hx164_0⟩ := Kd.at_int HR1.out x8_2 p164 q164
                              cases e164
                              replace hx164_0 := (HB.out.cell (World.block_lt_of_cell? w _ hx164_0)).trans hx164_0
                              replace p164 := eq_true p164
                              replace q164 := eq_true q164
                              have p16 : 0 ≤ ((ji9) : Int) := of_decide_eq_true (by first | (with_reducible assumption) | assumption)
                              have q16 : ((ji9) : Int) < ((x5_2.length : Int) : Int) := of_decide_eq_true (by first | (with_reducible assumption) | assumption)
                              obtain ⟨go16, co16, eo16, gb16, gl16, cl16, HG16⟩ := Kd.R_form HO_5.out (by omega)
                              (first | cases eo16 | (injection eo16 with ea_ en_ ec_; (first | subst ea_ | (injection ea_ with ea_; subst ea_)); subst ec_; clear en_))
                              have GB16 := Aside0.mk gb16
                              have GG16 := Aside0.mk HG16
                              clear gb16 gl16 HG16
                              (first | simp only [add_plain] at hx162_0 | skip)
                              obtain ⟨hx16_0, hf16_0⟩ := Kd.R_celln 0 HO_5.out ((ji9) : Int) p16 q16
                              replace p16 := eq_true p16
                              replace q16 := eq_true q16
                              have HP18 := Kd.R_putg HO_5.out ((ji9) : Int) (Int.tmod (wrap64 ((wrap64 (x7_2 + (rd x5_2 (ji9)))) + (wrap64 ((rd l0 x6_1) * (rd l1 x8_2))))) 256)
                              go_wp2_with (first | ((with_reducible refine gate_store (t := 3) (p := 50) rfl ?_); (try (rw [drewN_self wr]; generalize hq_ : World.drewN wr _ = wr; have n0_ := Aside0.mk (Kd.R_at hq_ HO_5.out); have n1_ := Aside0.mk (below_at hq_ HB.out); clear hq_ HO_5 HB; have HO_5 := n0_; have HB := n1_; clear n0_ n1_; (try (obtain ⟨hxHP18_, hfHP18_⟩ := Kd.R_celln 0 HO_5.out ((ji9) : Int) (of_eq_true (by assumption)) (of_eq_true (by assumption)))); (try (have HP18 := Kd.R_putg HO_5.out ((ji9) : Int) (Int.tmod (wrap64 ((wrap64 (x7_2 + (rd x5_2 (ji9)))) + (wrap64 ((rd l0 x6_1) * (rd l1 x8_2))))) 256))))); refine store_event (t := 3) (p := 50) (v := ?vo_w19) (w1 := (wr.setCell ⟨go16, ((ji9) : Int).toNat, none⟩ (.int .i64 (Int.tmod (wrap64 ((wrap64 (x7_2 + (rd x5_2 (ji9)))) + (wrap64 ((rd l0 x6_1) * (rd l1 x8_2))))) 256)))) ?hg ?ho ?hn ?hr ?_; (case ho => rfl); (case hg => rfl); (case hn => rfl); (case hr => first | (go_simp; done) | (go_simp; rfl)); intro w19 hw; have hg : wr.grownBy w19 (some go16) := (by rw [hw]; exact HP18.2); have hp_ : Kd.R (Kd.int .i64) 3 w19 w.heap.size (fun _ => True) (.slice (some ⟨go16, 0, none⟩) x5_2.length co17) y165 := (by rw [hw, Ny165.out]; exact HP18.1); clear HP18; have n0_ := Aside0.mk (hp_); have n1_ := Aside0.mk ((by rw [hw]; exact below_set (HB.out) GB16.out : Below w.heap.size w w19)); clear HO_5; clear HB; have HO_5 := n0_; have HB := n1_; clear n0_ n1_; clear hg hw hp_))
                              repeat (go_quiet (first | ((with_reducible refine gate_store (t := 3) (p := 50) rfl ?_); (try (rw [drewN_self wr]; generalize hq_ : World.drewN wr _ = wr; have n0_ := Aside0.mk (Kd.R_at hq_ HO_5.out); have n1_ := Aside0.mk (below_at hq_ HB.out); clear hq_ HO_5 HB; have HO_5 := n0_; have HB := n1_; clear n0_ n1_; (try (obtain ⟨hxHP18_, hfHP18_⟩ := Kd.R_celln 0 HO_5.out ((ji9) : Int) (of_eq_true (by assumption)) (of_eq_true (by assumption)))); (try (have HP18 := Kd.R_putg HO_5.out ((ji9) : Int) (Int.tmod (wrap64 ((wrap64 (x7_2 + (rd x5_2 (ji9)))) + (wrap64 ((rd l0 x6_1) * (rd l1 x8_2))))) 256))))); refine store_event (t := 3) (p := 50) (v := ?vo_w19) (w1 := (wr.setCell ⟨go16, ((ji9) : Int).toNat, none⟩ (.int .i64 (Int.tmod (wrap64 ((wrap64 (x7_2 + (rd x5_2 (ji9)))) + (wrap64 ((rd l0 x6_1) * (rd l1 x8_2))))) 256)))) ?hg ?ho ?hn ?hr ?_; (case ho => rfl); (case hg => rfl); (case hn => rfl); (case hr => first | (go_simp; done) | (go_simp; rfl)); intro w19 hw; have hg : wr.grownBy w19 (some go16) := (by rw [hw]; exact HP18.2); have hp_ : Kd.R (Kd.int .i64) 3 w19 w.heap.size (fun _ => True) (.slice (some ⟨go16, 0, none⟩) x5_2.length co17) y165 := (by rw [hw, Ny165.out]; exact HP18.1); clear HP18; have n0_ := Aside0.mk (hp_); have n1_ := Aside0.mk ((by rw [hw]; exact below_set (HB.out) GB16.out : Below w.heap.size w w19)); clear HO_5; clear HB; have HO_5 := n0_; have HB := n1_; clear n0_ n1_; clear hg hw hp_)); try go_wp2_with (first | ((with_reducible refine gate_store (t := 3) (p := 50) rfl ?_); (try (rw [drewN_self wr]; generalize hq_ : World.drewN wr _ = wr; have n0_ := Aside0.mk (Kd.R_at hq_ HO_5.out); have n1_ := Aside0.mk (below_at hq_ HB.out); clear hq_ HO_5 HB; have HO_5 := n0_; have HB := n1_; clear n0_ n1_; (try (obtain ⟨hxHP18_, hfHP18_⟩ := Kd.R_celln 0 HO_5.out ((ji9) : Int) (of_eq_true (by assumption)) (of_eq_true (by assumption)))); (try (have HP18 := Kd.R_putg HO_5.out ((ji9) : Int) (Int.tmod (wrap64 ((wrap64 (x7_2 + (rd x5_2 (ji9)))) + (wrap64 ((rd l0 x6_1) * (rd l1 x8_2))))) 256))))); refine store_event (t := 3) (p := 50) (v := ?vo_w19) (w1 := (wr.setCell ⟨go16, ((ji9) : Int).toNat, none⟩ (.int .i64 (Int.tmod (wrap64 ((wrap64 (x7_2 + (rd x5_2 (ji9)))) + (wrap64 ((rd l0 x6_1) * (rd l1 x8_2))))) 256)))) ?hg ?ho ?hn ?hr ?_; (case ho => rfl); (case hg => rfl); (case hn => rfl); (case hr => first | (go_simp; done) | (go_simp; rfl)); intro w19 hw; have hg : wr.grownBy w19 (some go16) := (by rw [hw]; exact HP18.2); have hp_ : Kd.R (Kd.int .i64) 3 w19 w.heap.size (fun _ => True) (.slice (some ⟨go16, 0, none⟩) x5_2.length co17) y165 := (by rw [hw, Ny165.out]; exact HP18.1); clear HP18; have n0_ := Aside0.mk (hp_); have n1_ := Aside0.mk ((by rw [hw]; exact below_set (HB.out) GB16.out : Below w.heap.size w w19)); clear HO_5; clear HB; have HO_5 := n0_; have HB := n1_; clear n0_ n1_; clear hg hw hp_)))
                              go_roundg k2
                              case measure => have := HK1.out; have := HK2.out; omega
                              case rel => exact ⟨(y165), (wrap64 (Int.tdiv (wrap64 ((wrap64 (x7_2 + (rd x5_2 (ji9)))) + (wrap64 ((rd l0 x6_1) * (rd l1 x8_2))))) 256)), (wrap64 (x8_2 + 1)), (by first | rfl | (simp; done) | (simp only [← hji9] <;> (first | rfl | simp)) | (simp [*]; done)), (by first | rfl | (simp; done) | (simp [*]; done)), H', ⟨by have := HK1.out; have := HK2.out; omega⟩, ⟨by (with_reducible repeat (first | apply Kd.R_alloc | apply Kd.R_drewN | apply Kd.R_drew)); exact HO_5.out⟩, ⟨by repeat (first | (with_reducible first | exact HB.out | apply below_alloc | apply pw_below_drewN | apply below_drew1) | exact HB.out)⟩⟩
                            · rw [if_neg c15] at H
                              exact absurd H (by simp)
                          · rw [if_neg c14] at H
                            exact absurd H (by simp)
                        · rw [if_neg c13] at H
                          exact absurd H (by simp)
                      · rw [if_neg c12] at H
                        exact absurd H (by simp)
                    · rw [if_neg c11] at H
                      exact absurd H (by simp)
                  · rw [if_neg c10] at H
                    exact absurd H (by simp)
                · rw [if_neg c8] at H
                  have c8b0 : decide ((wrap64 (x6_1 + x8_2)) < (l0.length : Int)) = false := decide_eq_false c8
                  clear c8
                  have H' := Aside0.mk H
                  clear H
                  go_wp2
                  repeat (go_quiet (fail); try go_wp2)
                  go_roundg k2
                  case measure => have := HK1.out; have := HK2.out; omega
                  case rel => exact ⟨(x5_2), (wrap64 (x6_1 + 1)), (by first | rfl | (simp; done) | (simp [*]; done)), H', ⟨by have := HK1.out; have := HK2.out; omega⟩, ⟨by (with_reducible repeat (first | apply Kd.R_alloc | apply Kd.R_drewN | apply Kd.R_drew)); exact HO_5.out⟩, ⟨by repeat (first | (with_reducible first | exact HB.out | apply below_alloc | apply pw_below_drewN | apply below_drew1) | exact HB.out)⟩⟩
          · rw [if_neg c7] at H
            have c7b0 : decide (x6_1 < (l0.length : Int)) = false := decide_eq_false c7
            clear c7
            obtain rfl := Option.some.inj H
            go_wp2
            repeat (go_quiet (fail); try go_wp2)
            go_ret
            exact ⟨_, by first | rfl | (simp [errW_none, errW_some] <;> rfl) | (simp [*, errW_none, errW_some] <;> rfl), by (with_reducible repeat (first | apply Kd.R_alloc | apply Kd.R_drewN | apply Kd.R_drew)); exact HO_5.out, by repeat (first | (with_reducible first | exact HB.out | apply below_alloc | apply pw_below_drewN | apply below_drew1) | exact HB.out)⟩
    · rw [if_neg c4] at H
      exact absurd H (by simp)
  · rw [if_neg c3] at H
    exact absurd H (by simp)

end Go.Proofs.Ytbmeokhoebjdbaa.F
end

section
namespace Go.Proofs.Ytbmeokhoebjdbaa.F
open Go.RowKit Go.Proofs.YtbmeokhoebjdbaaW.PrintWords Go.Proofs.YtbmeokhoebjdbaaW.PrintLast Go.Proofs.YtbmeokhoebjdbaaW.PrintMore
attribute [local go_sem] max2_int min2_int max_two min_two max_three min_three max_four min_four   -- for this text's walks alone
set_option linter.unusedVariables false
set_option linter.unusedSimpArgs false

/-! ### zelligeref01_Below: function 31 -/
def zelligeref01_Below.f (l0 : List Int) : Option (Bool) := if 0 ≤ (wrap64 ((l0.length : Int) - 1)) then (if (wrap64 ((l0.length : Int) - 1)) < (l0.length : Int) then (some (decide ((rd l0 (wrap64 ((l0.length : Int) - 1))) ≥ 128))) else (none)) else (none)
set_option maxHeartbeats 8000000 in
set_option maxRecDepth 100000 in
theorem zelligeref01_Below.calls (A0 : Option Addr) (c0 : Nat) (l0 : List Int) (r : Bool) (w : World) (hr0 : Kd.C (Kd.int .i64) w A0 l0.length l0) (hc0 : l0.length ≤ c0) (h : zelligeref01_Below.f l0 = some r) :
    Calls Try.prog 31 #[.slice A0 l0.length c0] w fun e w' => e = .returned (.bool r) ∧ Drawn0 w w' := by
  have HR0 := Aside0.mk hr0
  have HC0 := Aside0.mk hc0
  clear hr0 hc0
  have H : (if 0 ≤ (wrap64 ((l0.length : Int) - 1)) then (if (wrap64 ((l0.length : Int) - 1)) < (l0.length : Int) then (some (decide ((rd l0 (wrap64 ((l0.length : Int) - 1))) ≥ 128))) else (none)) else (none)) = some r := h
  clear h
  obtain ⟨ji2, hji2⟩ : ∃ j_ : Int, (wrap64 ((l0.length : Int) - 1)) = j_ := ⟨_, rfl⟩
  replace H : (if 0 ≤ (ji2) then (if (ji2) < (l0.length : Int) then (some (decide ((rd l0 (ji2)) ≥ 128))) else (none)) else (none)) = some r := by first | (rw [hji2] at H; exact H) | (simp only [hji2] at H ⊢; exact H)
  have hji2w : (IntKind.i64.wrap ((l0.length : Int) - 1)) = ji2 := (i64_w _).trans hji2
  by_cases c3 : 0 ≤ (ji2)
  · rw [if_pos c3] at H
    have c3b0 : decide (0 ≤ (ji2)) = true := decide_eq_true c3
    clear c3
    by_cases c4 : (ji2) < (l0.length : Int)
    · rw [if_pos c4] at H
      have c4b0 : decide ((ji2) < (l0.length : Int)) = true := decide_eq_true c4
      clear c4
      obtain rfl := Option.some.inj H
      have p123 : 0 ≤ ((ji2) : Int) := of_decide_eq_true (by first | (with_reducible assumption) | assumption)
      have q123 : (ji2) < (l0.length : Int) := of_decide_eq_true (by first | (with_reducible assumption) | assumption)
      obtain ⟨ad123, e123, hx123_0⟩ := Kd.at_int HR0.out (ji2) p123 q123
      cases e123
      replace p123 := eq_true p123
      replace q123 := eq_true q123
      go_enter Try.func31, Try.ntmps31
      go_wp2
      go_ret
      exact ⟨by first | rfl | (simp; done) | (simp only [← hji2] <;> (first | rfl | simp)) | (simp [*]; done), by repeat (first | exact Drawn0.refl _ | apply Drawn0.step)⟩
    · rw [if_neg c4] at H
      exact absurd H (by simp)
  · rw [if_neg c3] at H
    exact absurd H (by simp)

end Go.Proofs.Ytbmeokhoebjdbaa.F
end

section
namespace Go.Proofs.Ytbmeokhoebjdbaa.F
open Go.RowKit Go.Proofs.YtbmeokhoebjdbaaW.PrintWords Go.Proofs.YtbmeokhoebjdbaaW.PrintLast Go.Proofs.YtbmeokhoebjdbaaW.PrintMore
attribute [local go_sem] max2_int min2_int max_two min_two max_three min_three max_four min_four   -- for this text's walks alone
set_option linter.unusedVariables false
set_option linter.unusedSimpArgs false

/-! ### zelligeref01_Sign: function 27 -/
def zelligeref01_Sign.l0 : Nat → List Int → Int → Option (Int)
  | 0, _, _ => none
  | k + 1, x0, x3 => if x3 < (x0.length : Int) then (if 0 ≤ x3 then (if (rd x0 x3) > 0 then (some 1) else (zelligeref01_Sign.l0 k x0 (wrap64 (x3 + 1)))) else (none)) else (some 0)
def zelligeref01_Sign.f (k : Nat) (l0 : List Int) : Option (Int) := (zelligeref01_Below.f l0).bind fun t314 => (if t314 = true then (some (-1)) else (zelligeref01_Sign.l0 k l0 0))
theorem zelligeref01_Sign.mono_l : ∀ k, (∀ y0 y1, LeO (zelligeref01_Sign.l0 k y0 y1) (zelligeref01_Sign.l0 (k + 1) y0 y1))
  | 0 => fun _ _ r h => by simp [zelligeref01_Sign.l0] at h
  | k + 1 => by
    have ih0 := zelligeref01_Sign.mono_l k
    · intro y0 y1
      unfold zelligeref01_Sign.l0
      repeat' first
      | (with_reducible exact ih0 _ _)
      | (with_reducible exact LeO.refl _)
      | (with_reducible exact LeO.none _)
      | (with_reducible refine LeO.ite ?_ ?_)
      | (with_reducible refine LeO.bind ?_ (fun _ => ?_))
      | exact ih0 _ _
      | exact LeO.none _
      | refine LeO.ite ?_ ?_
      | refine LeO.bind ?_ (fun _ => ?_)
theorem zelligeref01_Sign.mono : ∀ a0 k, LeO (zelligeref01_Sign.f k a0) (zelligeref01_Sign.f (k + 1) a0) := by
  intro a0 k
  have ih0 := zelligeref01_Sign.mono_l k
  unfold zelligeref01_Sign.f
  repeat' first
      | (with_reducible exact ih0 _ _)
      | (with_reducible exact LeO.refl _)
      | (with_reducible exact LeO.none _)
      | (with_reducible refine LeO.ite ?_ ?_)
      | (with_reducible refine LeO.bind ?_ (fun _ => ?_))
      | exact ih0 _ _
      | exact LeO.none _
      | refine LeO.ite ?_ ?_
      | refine LeO.bind ?_ (fun _ => ?_)
set_option maxHeartbeats 8000000 in
set_option maxRecDepth 100000 in
theorem zelligeref01_Sign.calls (k : Nat) (A0 : Option Addr) (c0 : Nat) (l0 : List Int) (r : Int) (w : World) (hr0 : Kd.C (Kd.int .i64) w A0 l0.length l0) (hc0 : l0.length ≤ c0) (h : zelligeref01_Sign.f k l0 = some r) :
    Calls Try.prog 27 #[.slice A0 l0.length c0] w fun e w' => e = .returned (.int .i64 r) ∧ Drawn0 w w' := by
  have HR0 := Aside0.mk hr0
  have HC0 := Aside0.mk hc0
  clear hr0 hc0
  have H : ((zelligeref01_Below.f l0).bind fun t314 => (if t314 = true then (some (-1)) else (zelligeref01_Sign.l0 k l0 0))) = some r := h
  clear h
  replace H := Option.bind_eq_some_iff.mp H
  obtain ⟨t314, A20, H⟩ := H
  replace H : (if t314 = true then (some (-1)) else (zelligeref01_Sign.l0 k l0 0)) = some r := H
  have A2 := Aside0.mk A20
  clear A20
  by_cases c3 : t314 = true
  · subst c3
    have H1 : (some (-1)) = some r := by rw [if_pos rfl] at H; exact H
    clear H
    have H := H1
    clear H1
    obtain rfl := Option.some.inj H
    go_enter Try.func27, Try.ntmps27
    go_wp2_with (first | ((with_reducible refine gate_callee (f := 31) rfl ?_); refine goesL_ (some 5) rfl rfl Try.func31 (by kernel_rfl) rfl #[.slice A0 l0.length c0] rfl (by (try simp only [List.map_toArray, List.map_cons, List.map_nil]); first | done | rfl | (simp only [List.length_drop, List.length_take]; rfl)) ?_; (with_reducible refine (zelligeref01_Below.calls _ _ l0 true _ ?side1 ?side2 A2.out).mono ?_); (case side1 => repeat (first | exact HR0.out | (with_reducible refine Kd.C_alloc ?_ _) | (with_reducible refine Kd.C_drewN ?_ _) | (with_reducible refine Kd.C_drew ?_))); (case side2 => exact HC0.out); rintro e w' ⟨rfl, ⟨nd, rfl⟩⟩; refine ⟨_, rfl, ?_⟩))
    go_ret
    exact ⟨by first | rfl | (simp; done) | (simp [*]; done), by repeat (first | exact Drawn0.refl _ | apply Drawn0.step)⟩
  · replace c3 := Bool.eq_false_iff.mpr c3
    subst c3
    have H1 : (zelligeref01_Sign.l0 k l0 0) = some r := by rw [if_neg (show ¬ (false = true) by decide)] at H; exact H
    clear H
    have H := H1
    clear H1
    have H' := Aside0.mk H
    clear H
    go_enter Try.func27, Try.ntmps27
    go_wp2_with (first | ((with_reducible refine gate_callee (f := 31) rfl ?_); refine goesL_ (some 5) rfl rfl Try.func31 (by kernel_rfl) rfl #[.slice A0 l0.length c0] rfl (by (try simp only [List.map_toArray, List.map_cons, List.map_nil]); first | done | rfl | (simp only [List.length_drop, List.length_take]; rfl)) ?_; (with_reducible refine (zelligeref01_Below.calls _ _ l0 false _ ?side1 ?side2 A2.out).mono ?_); (case side1 => repeat (first | exact HR0.out | (with_reducible refine Kd.C_alloc ?_ _) | (with_reducible refine Kd.C_drewN ?_ _) | (with_reducible refine Kd.C_drew ?_))); (case side2 => exact HC0.out); rintro e w' ⟨rfl, ⟨nd, rfl⟩⟩; refine ⟨_, rfl, ?_⟩))
    go_loopg [3] k (fun kq v3 w' => ∃ (x3_1 : Int), v3 = .int .i64 x3_1 ∧ Aside0 (zelligeref01_Sign.l0 kq l0 x3_1 = some r) ∧ Aside0 (kq ≤ k) ∧ Drawn0 w w')
    case atStart => exact ⟨(0), (by first | rfl | (simp; done) | (simp [*]; done)), H', ⟨Nat.le_refl _⟩, by repeat (first | exact Drawn0.refl _ | apply Drawn0.step)⟩
    case round =>
      clear H'
      try clear c2
      try clear p2
      try clear c3
      obtain ⟨x3_1, rfl, HA, HK1, ⟨m1, rfl⟩⟩ := hrel
      cases gk with
      | zero => exact absurd HA.out (by simp [zelligeref01_Sign.l0])
      | succ k1 =>
        have H := HA.out
        clear HA
        simp only [zelligeref01_Sign.l0] at H
        by_cases c4 : x3_1 < (l0.length : Int)
        · rw [if_pos c4] at H
          have c4b0 : decide (x3_1 < (l0.length : Int)) = true := decide_eq_true c4
          clear c4
          by_cases c5 : 0 ≤ x3_1
          · rw [if_pos c5] at H
            have c5b0 : decide (0 ≤ x3_1) = true := decide_eq_true c5
            clear c5
            by_cases c6 : (rd l0 x3_1) > 0
            · rw [if_pos c6] at H
              have c6b0 : decide (0 < (rd l0 x3_1)) = true := decide_eq_true c6
              clear c6
              obtain rfl := Option.some.inj H
              have p315 : 0 ≤ (x3_1 : Int) := of_decide_eq_true (by first | (with_reducible assumption) | assumption)
              have q315 : x3_1 < (l0.length : Int) := of_decide_eq_true (by first | (with_reducible assumption) | assumption)
              obtain ⟨ad315, e315, hx315_0⟩ := Kd.at_int HR0.out x3_1 p315 q315
              cases e315
              replace p315 := eq_true p315
              replace q315 := eq_true q315
              go_wp2
              go_ret
              exact ⟨by first | rfl | (simp; done) | (simp [*]; done), by repeat (first | exact Drawn0.refl _ | apply Drawn0.step)⟩
            · rw [if_neg c6] at H
              have c6b0 : decide (0 < (rd l0 x3_1)) = false := decide_eq_false c6
              clear c6
              have H' := Aside0.mk H
              clear H
              have p315 : 0 ≤ (x3_1 : Int) := of_decide_eq_true (by first | (with_reducible assumption) | assumption)
              have q315 : x3_1 < (l0.length : Int) := of_decide_eq_true (by first | (with_reducible assumption) | assumption)
              obtain ⟨ad315, e315, hx315_0⟩ := Kd.at_int HR0.out x3_1 p315 q315
              cases e315
              replace p315 := eq_true p315
              replace q315 := eq_true q315
              go_wp2
              go_roundg k1
              case measure => have := HK1.out; omega
              case rel => exact ⟨(wrap64 (x3_1 + 1)), (by first | rfl | (simp; done) | (simp [*]; done)), H', ⟨by have := HK1.out; omega⟩, by repeat (first | exact Drawn0.refl _ | apply Drawn0.step)⟩
          · rw [if_neg c5] at H
            exact absurd H (by simp)
        · rw [if_neg c4] at H
          have c4b0 : decide (x3_1 < (l0.length : Int)) = false := decide_eq_false c4
          clear c4
          obtain rfl := Option.some.inj H
          go_wp2
          go_ret
          exact ⟨by first | rfl | (simp; done) | (simp [*]; done), by repeat (first | exact Drawn0.refl _ | apply Drawn0.step)⟩

end Go.Proofs.Ytbmeokhoebjdbaa.F
end

section
namespace Go.Proofs.Ytbmeokhoebjdbaa.F
open Go.RowKit Go.Proofs.YtbmeokhoebjdbaaW.PrintWords Go.Proofs.YtbmeokhoebjdbaaW.PrintLast Go.Proofs.YtbmeokhoebjdbaaW.PrintMore
attribute [local go_sem] max2_int min2_int max_two min_two max_three min_three max_four min_four   -- for this text's walks alone
set_option linter.unusedVariables false
set_option linter.unusedSimpArgs false

/-! ### zelligeref01_Cmp: function 25 -/
mutual
def zelligeref01_Cmp.j0 : Nat → List Int → List Int → Bool → Option (Int)
  | 0, _, _, _ => none
  | k + 1, x0, x1, x12 => if x12 = true then (some (-1)) else ((zelligeref01_Below.f x1).bind fun t308 => (if t308 = true then ((zelligeref01_Below.f x0).bind fun t309 => (zelligeref01_Cmp.j1 k x0 x1 (!t309))) else (zelligeref01_Cmp.j1 k x0 x1 false)))
def zelligeref01_Cmp.j1 : Nat → List Int → List Int → Bool → Option (Int)
  | 0, _, _, _ => none
  | k + 1, x0, x1, x19 => if x19 = true then (some 1) else (zelligeref01_Cmp.l0 k x0 x1 (wrap64 ((x0.length : Int) - 1)))
def zelligeref01_Cmp.l0 : Nat → List Int → List Int → Int → Option (Int)
  | 0, _, _, _ => none
  | k + 1, x0, x1, x5 => if x5 ≥ 0 then (if 0 ≤ x5 then (if x5 < (x0.length : Int) then (if x5 < (x1.length : Int) then (if (rd x0 x5) < (rd x1 x5) then (some (-1)) else (if (rd x0 x5) > (rd x1 x5) then (some 1) else (zelligeref01_Cmp.l0 k x0 x1 (wrap64 (x5 - 1))))) else (none)) else (none)) else (none)) else (some 0)
end
def zelligeref01_Cmp.f (k : Nat) (l0 : List Int) (l1 : List Int) : Option (Int) := (zelligeref01_Below.f l0).bind fun t306 => (if t306 = true then ((zelligeref01_Below.f l1).bind fun t307 => (zelligeref01_Cmp.j0 k l0 l1 (!t307))) else (zelligeref01_Cmp.j0 k l0 l1 false))
theorem zelligeref01_Cmp.mono_l : ∀ k, (∀ y0 y1 y2, LeO (zelligeref01_Cmp.j0 k y0 y1 y2) (zelligeref01_Cmp.j0 (k + 1) y0 y1 y2)) ∧ (∀ y0 y1 y2, LeO (zelligeref01_Cmp.j1 k y0 y1 y2) (zelligeref01_Cmp.j1 (k + 1) y0 y1 y2)) ∧ (∀ y0 y1 y2, LeO (zelligeref01_Cmp.l0 k y0 y1 y2) (zelligeref01_Cmp.l0 (k + 1) y0 y1 y2))
  | 0 => ⟨fun _ _ _ r h => by simp [zelligeref01_Cmp.j0] at h, fun _ _ _ r h => by simp [zelligeref01_Cmp.j1] at h, fun _ _ _ r h => by simp [zelligeref01_Cmp.l0] at h⟩
  | k + 1 => by
    obtain ⟨ih0, ih1, ih2⟩ := zelligeref01_Cmp.mono_l k
    refine ⟨?_, ?_, ?_⟩
    · intro y0 y1 y2
      unfold zelligeref01_Cmp.j0
      repeat' first
      | (with_reducible exact ih0 _ _ _)
      | (with_reducible exact ih1 _ _ _)
      | (with_reducible exact ih2 _ _ _)
      | (with_reducible exact LeO.refl _)
      | (with_reducible exact LeO.none _)
      | (with_reducible refine LeO.ite ?_ ?_)
      | (with_reducible refine LeO.bind ?_ (fun _ => ?_))
      | exact ih0 _ _ _
      | exact ih1 _ _ _
      | exact ih2 _ _ _
      | exact LeO.none _
      | refine LeO.ite ?_ ?_
      | refine LeO.bind ?_ (fun _ => ?_)
    · intro y0 y1 y2
      unfold zelligeref01_Cmp.j1
      repeat' first
      | (with_reducible exact ih0 _ _ _)
      | (with_reducible exact ih1 _ _ _)
      | (with_reducible exact ih2 _ _ _)
      | (with_reducible exact LeO.refl _)
      | (with_reducible exact LeO.none _)
      | (with_reducible refine LeO.ite ?_ ?_)
      | (with_reducible refine LeO.bind ?_ (fun _ => ?_))
      | exact ih0 _ _ _
      | exact ih1 _ _ _
      | exact ih2 _ _ _
      | exact LeO.none _
      | refine LeO.ite ?_ ?_
      | refine LeO.bind ?_ (fun _ => ?_)
    · intro y0 y1 y2
      unfold zelligeref01_Cmp.l0
      repeat' first
      | (with_reducible exact ih0 _ _ _)
      | (with_reducible exact ih1 _ _ _)
      | (with_reducible exact ih2 _ _ _)
      | (with_reducible exact LeO.refl _)
      | (with_reducible exact LeO.none _)
      | (with_reducible refine LeO.ite ?_ ?_)
      | (with_reducible refine LeO.bind ?_ (fun _ => ?_))
      | exact ih0 _ _ _
      | exact ih1 _ _ _
      | exact ih2 _ _ _
      | exact LeO.none _
      | refine LeO.ite ?_ ?_
      | refine LeO.bind ?_ (fun _ => ?_)
theorem zelligeref01_Cmp.mono : ∀ a0 a1 k, LeO (zelligeref01_Cmp.f k a0 a1) (zelligeref01_Cmp.f (k + 1) a0 a1) := by
  intro a0 a1 k
  obtain ⟨ih0, ih1, ih2⟩ := zelligeref01_Cmp.mono_l k
  unfold zelligeref01_Cmp.f
  repeat' first
      | (with_reducible exact ih0 _ _ _)
      | (with_reducible exact ih1 _ _ _)
      | (with_reducible exact ih2 _ _ _)
      | (with_reducible exact LeO.refl _)
      | (with_reducible exact LeO.none _)
      | (with_reducible refine LeO.ite ?_ ?_)
      | (with_reducible refine LeO.bind ?_ (fun _ => ?_))
      | exact ih0 _ _ _
      | exact ih1 _ _ _
      | exact ih2 _ _ _
      | exact LeO.none _
      | refine LeO.ite ?_ ?_
      | refine LeO.bind ?_ (fun _ => ?_)
set_option maxHeartbeats 8000000 in
set_option maxRecDepth 100000 in
theorem zelligeref01_Cmp.calls (k : Nat) (A0 : Option Addr) (c0 : Nat) (l0 : List Int) (A1 : Option Addr) (c1 : Nat) (l1 : List Int) (r : Int) (w : World) (hr0 : Kd.C (Kd.int .i64) w A0 l0.length l0) (hc0 : l0.length ≤ c0) (hr1 : Kd.C (Kd.int .i64) w A1 l1.length l1) (hc1 : l1.length ≤ c1) (h : zelligeref01_Cmp.f k l0 l1 = some r) :
    Calls Try.prog 25 #[.slice A0 l0.length c0, .slice A1 l1.length c1] w fun e w' => e = .returned (.int .i64 r) ∧ Drawn0 w w' := by
  have HR0 := Aside0.mk hr0
  have HC0 := Aside0.mk hc0
  clear hr0 hc0
  have HR1 := Aside0.mk hr1
  have HC1 := Aside0.mk hc1
  clear hr1 hc1
  have H : ((zelligeref01_Below.f l0).bind fun t306 => (if t306 = true then ((zelligeref01_Below.f l1).bind fun t307 => (zelligeref01_Cmp.j0 k l0 l1 (!t307))) else (zelligeref01_Cmp.j0 k l0 l1 false))) = some r := h
  clear h
  have HC3 := Aside0.mk H
  clear H
  go_enter Try.func25, Try.ntmps25
  go_upto_region 1 with (fail)
  repeat (go_quiet (fail); go_upto_region 1 with (fail))
  go_cut [12] (fun v12 wc => ∃ (kq : Nat) (x12_2 : Bool), v12 = .bool x12_2 ∧ Aside0 (zelligeref01_Cmp.j0 kq l0 l1 x12_2 = some r) ∧ Aside0 (kq ≤ k) ∧ Drawn0 w wc)
  case first =>
    have H := HC3.out
    clear HC3
    replace H := Option.bind_eq_some_iff.mp H
    obtain ⟨t306, A40, H⟩ := H
    replace H : (if t306 = true then ((zelligeref01_Below.f l1).bind fun t307 => (zelligeref01_Cmp.j0 k l0 l1 (!t307))) else (zelligeref01_Cmp.j0 k l0 l1 false)) = some r := H
    have A4 := Aside0.mk A40
    clear A40
    by_cases c5 : t306 = true
    · subst c5
      have H1 : ((zelligeref01_Below.f l1).bind fun t307 => (zelligeref01_Cmp.j0 k l0 l1 (!t307))) = some r := by rw [if_pos rfl] at H; exact H
      clear H
      have H := H1
      clear H1
      replace H := Option.bind_eq_some_iff.mp H
      obtain ⟨t307, A60, H⟩ := H
      replace H : (zelligeref01_Cmp.j0 k l0 l1 (!t307)) = some r := H
      have A6 := Aside0.mk A60
      clear A60
      have H' := Aside0.mk H
      clear H
      go_wp2_with (first | (go_at_call 31; (with_reducible refine (zelligeref01_Below.calls _ _ l0 true _ ?side1 ?side2 A4.out).mono ?_); (case side1 => repeat (first | exact HR0.out | (with_reducible refine Kd.C_alloc ?_ _) | (with_reducible refine Kd.C_drewN ?_ _) | (with_reducible refine Kd.C_drew ?_))); (case side2 => exact HC0.out); rintro e w' ⟨rfl, ⟨nd, rfl⟩⟩; (try first | exact ⟨rfl, _, World.drewN_drewN _ _ _⟩ | exact ⟨rfl, _, Eq.trans (World.drewN_drewN _ _ _) (congrArg (World.drewN _) (Nat.add_assoc _ _ _))⟩)) | (go_at_call 31; (with_reducible refine (zelligeref01_Below.calls _ _ l1 t307 _ ?side1 ?side2 A6.out).mono ?_); (case side1 => repeat (first | exact HR1.out | (with_reducible refine Kd.C_alloc ?_ _) | (with_reducible refine Kd.C_drewN ?_ _) | (with_reducible refine Kd.C_drew ?_))); (case side2 => exact HC1.out); rintro e w' ⟨rfl, ⟨nd, rfl⟩⟩; (try first | exact ⟨rfl, _, World.drewN_drewN _ _ _⟩ | exact ⟨rfl, _, Eq.trans (World.drewN_drewN _ _ _) (congrArg (World.drewN _) (Nat.add_assoc _ _ _))⟩)))
      repeat (go_quiet (first | (go_at_call 31; (with_reducible refine (zelligeref01_Below.calls _ _ l0 true _ ?side1 ?side2 A4.out).mono ?_); (case side1 => repeat (first | exact HR0.out | (with_reducible refine Kd.C_alloc ?_ _) | (with_reducible refine Kd.C_drewN ?_ _) | (with_reducible refine Kd.C_drew ?_))); (case side2 => exact HC0.out); rintro e w' ⟨rfl, ⟨nd, rfl⟩⟩; (try first | exact ⟨rfl, _, World.drewN_drewN _ _ _⟩ | exact ⟨rfl, _, Eq.trans (World.drewN_drewN _ _ _) (congrArg (World.drewN _) (Nat.add_assoc _ _ _))⟩)) | (go_at_call 31; (with_reducible refine (zelligeref01_Below.calls _ _ l1 t307 _ ?side1 ?side2 A6.out).mono ?_); (case side1 => repeat (first | exact HR1.out | (with_reducible refine Kd.C_alloc ?_ _) | (with_reducible refine Kd.C_drewN ?_ _) | (with_reducible refine Kd.C_drew ?_))); (case side2 => exact HC1.out); rintro e w' ⟨rfl, ⟨nd, rfl⟩⟩; (try first | exact ⟨rfl, _, World.drewN_drewN _ _ _⟩ | exact ⟨rfl, _, Eq.trans (World.drewN_drewN _ _ _) (congrArg (World.drewN _) (Nat.add_assoc _ _ _))⟩))); try go_wp2_with (first | (go_at_call 31; (with_reducible refine (zelligeref01_Below.calls _ _ l0 true _ ?side1 ?side2 A4.out).mono ?_); (case side1 => repeat (first | exact HR0.out | (with_reducible refine Kd.C_alloc ?_ _) | (with_reducible refine Kd.C_drewN ?_ _) | (with_reducible refine Kd.C_drew ?_))); (case side2 => exact HC0.out); rintro e w' ⟨rfl, ⟨nd, rfl⟩⟩; (try first | exact ⟨rfl, _, World.drewN_drewN _ _ _⟩ | exact ⟨rfl, _, Eq.trans (World.drewN_drewN _ _ _) (congrArg (World.drewN _) (Nat.add_assoc _ _ _))⟩)) | (go_at_call 31; (with_reducible refine (zelligeref01_Below.calls _ _ l1 t307 _ ?side1 ?side2 A6.out).mono ?_); (case side1 => repeat (first | exact HR1.out | (with_reducible refine Kd.C_alloc ?_ _) | (with_reducible refine Kd.C_drewN ?_ _) | (with_reducible refine Kd.C_drew ?_))); (case side2 => exact HC1.out); rintro e w' ⟨rfl, ⟨nd, rfl⟩⟩; (try first | exact ⟨rfl, _, World.drewN_drewN _ _ _⟩ | exact ⟨rfl, _, Eq.trans (World.drewN_drewN _ _ _) (congrArg (World.drewN _) (Nat.add_assoc _ _ _))⟩))))
      go_meet
      case rel => exact ⟨_, (!t307), (by first | rfl | (simp; done) | (simp [*]; done)), H', ⟨by first | omega | exact Nat.le_refl _⟩, by repeat (first | exact Drawn0.refl _ | apply Drawn0.step)⟩
    · replace c5 := Bool.eq_false_iff.mpr c5
      subst c5
      have H1 : (zelligeref01_Cmp.j0 k l0 l1 false) = some r := by rw [if_neg (show ¬ (false = true) by decide)] at H; exact H
      clear H
      have H := H1
      clear H1
      have H' := Aside0.mk H
      clear H
      go_wp2_with (first | (go_at_call 31; (with_reducible refine (zelligeref01_Below.calls _ _ l0 false _ ?side1 ?side2 A4.out).mono ?_); (case side1 => repeat (first | exact HR0.out | (with_reducible refine Kd.C_alloc ?_ _) | (with_reducible refine Kd.C_drewN ?_ _) | (with_reducible refine Kd.C_drew ?_))); (case side2 => exact HC0.out); rintro e w' ⟨rfl, ⟨nd, rfl⟩⟩; (try first | exact ⟨rfl, _, World.drewN_drewN _ _ _⟩ | exact ⟨rfl, _, Eq.trans (World.drewN_drewN _ _ _) (congrArg (World.drewN _) (Nat.add_assoc _ _ _))⟩)))
      repeat (go_quiet (first | (go_at_call 31; (with_reducible refine (zelligeref01_Below.calls _ _ l0 false _ ?side1 ?side2 A4.out).mono ?_); (case side1 => repeat (first | exact HR0.out | (with_reducible refine Kd.C_alloc ?_ _) | (with_reducible refine Kd.C_drewN ?_ _) | (with_reducible refine Kd.C_drew ?_))); (case side2 => exact HC0.out); rintro e w' ⟨rfl, ⟨nd, rfl⟩⟩; (try first | exact ⟨rfl, _, World.drewN_drewN _ _ _⟩ | exact ⟨rfl, _, Eq.trans (World.drewN_drewN _ _ _) (congrArg (World.drewN _) (Nat.add_assoc _ _ _))⟩))); try go_wp2_with (first | (go_at_call 31; (with_reducible refine (zelligeref01_Below.calls _ _ l0 false _ ?side1 ?side2 A4.out).mono ?_); (case side1 => repeat (first | exact HR0.out | (with_reducible refine Kd.C_alloc ?_ _) | (with_reducible refine Kd.C_drewN ?_ _) | (with_reducible refine Kd.C_drew ?_))); (case side2 => exact HC0.out); rintro e w' ⟨rfl, ⟨nd, rfl⟩⟩; (try first | exact ⟨rfl, _, World.drewN_drewN _ _ _⟩ | exact ⟨rfl, _, Eq.trans (World.drewN_drewN _ _ _) (congrArg (World.drewN _) (Nat.add_assoc _ _ _))⟩))))
      go_meet
      case rel => exact ⟨_, (false), (by first | rfl | (simp; done) | (simp [*]; done)), H', ⟨by first | omega | exact Nat.le_refl _⟩, by repeat (first | exact Drawn0.refl _ | apply Drawn0.step)⟩
  case rest =>
    clear HC3
    try clear c1
    try clear c2
    try clear p2
    try clear c5
    obtain ⟨kq, x12_2, rfl, HA, HJ2, ⟨mc2, rfl⟩⟩ := hcut
    cases kq with
    | zero => exact absurd HA.out (by simp [zelligeref01_Cmp.j0])
    | succ kj2 =>
      have H := HA.out
      clear HA
      simp only [zelligeref01_Cmp.j0] at H
      by_cases c7 : x12_2 = true
      · subst c7
        have H1 : (some (-1)) = some r := by rw [if_pos rfl] at H; exact H
        clear H
        have H := H1
        clear H1
        obtain rfl := Option.some.inj H
        go_wp2
        repeat (go_quiet (fail); try go_wp2)
        go_ret
        exact ⟨by first | rfl | (simp; done) | (simp [*]; done), by repeat (first | exact Drawn0.refl _ | apply Drawn0.step)⟩
      · replace c7 := Bool.eq_false_iff.mpr c7
        subst c7
        have H1 : ((zelligeref01_Below.f l1).bind fun t308 => (if t308 = true then ((zelligeref01_Below.f l0).bind fun t309 => (zelligeref01_Cmp.j1 kj2 l0 l1 (!t309))) else (zelligeref01_Cmp.j1 kj2 l0 l1 false))) = some r := by rw [if_neg (show ¬ (false = true) by decide)] at H; exact H
        clear H
        have H := H1
        clear H1
        have HC8 := Aside0.mk H
        clear H
        go_upto_region 3 with (fail)
        repeat (go_quiet (fail); go_upto_region 3 with (fail))
        go_cut [19] (fun v19 wc => ∃ (kq : Nat) (x19_7 : Bool), v19 = .bool x19_7 ∧ Aside0 (zelligeref01_Cmp.j1 kq l0 l1 x19_7 = some r) ∧ Aside0 (kq ≤ kj2) ∧ Drawn0 w wc)
        case first =>
          have H := HC8.out
          clear HC8
          replace H := Option.bind_eq_some_iff.mp H
          obtain ⟨t308, A90, H⟩ := H
          replace H : (if t308 = true then ((zelligeref01_Below.f l0).bind fun t309 => (zelligeref01_Cmp.j1 kj2 l0 l1 (!t309))) else (zelligeref01_Cmp.j1 kj2 l0 l1 false)) = some r := H
          have A9 := Aside0.mk A90
          clear A90
          by_cases c10 : t308 = true
          · subst c10
            have H1 : ((zelligeref01_Below.f l0).bind fun t309 => (zelligeref01_Cmp.j1 kj2 l0 l1 (!t309))) = some r := by rw [if_pos rfl] at H; exact H
            clear H
            have H := H1
            clear H1
            replace H := Option.bind_eq_some_iff.mp H
            obtain ⟨t309, A110, H⟩ := H
            replace H : (zelligeref01_Cmp.j1 kj2 l0 l1 (!t309)) = some r := H
            have A11 := Aside0.mk A110
            clear A110
            have H' := Aside0.mk H
            clear H
            go_wp2_with (first | (go_at_call 31; (with_reducible refine (zelligeref01_Below.calls _ _ l1 true _ ?side1 ?side2 A9.out).mono ?_); (case side1 => repeat (first | exact HR1.out | (with_reducible refine Kd.C_alloc ?_ _) | (with_reducible refine Kd.C_drewN ?_ _) | (with_reducible refine Kd.C_drew ?_))); (case side2 => exact HC1.out); rintro e w' ⟨rfl, ⟨nd, rfl⟩⟩; (try first | exact ⟨rfl, _, World.drewN_drewN _ _ _⟩ | exact ⟨rfl, _, Eq.trans (World.drewN_drewN _ _ _) (congrArg (World.drewN _) (Nat.add_assoc _ _ _))⟩)) | (go_at_call 31; (with_reducible refine (zelligeref01_Below.calls _ _ l0 t309 _ ?side1 ?side2 A11.out).mono ?_); (case side1 => repeat (first | exact HR0.out | (with_reducible refine Kd.C_alloc ?_ _) | (with_reducible refine Kd.C_drewN ?_ _) | (with_reducible refine Kd.C_drew ?_))); (case side2 => exact HC0.out); rintro e w' ⟨rfl, ⟨nd, rfl⟩⟩; (try first | exact ⟨rfl, _, World.drewN_drewN _ _ _⟩ | exact ⟨rfl, _, Eq.trans (World.drewN_drewN _ _ _) (congrArg (World.drewN _) (Nat.add_assoc _ _ _))⟩)))
            repeat (go_quiet (first | (go_at_call 31; (with_reducible refine (zelligeref01_Below.calls _ _ l1 true _ ?side1 ?side2 A9.out).mono ?_); (case side1 => repeat (first | exact HR1.out | (with_reducible refine Kd.C_alloc ?_ _) | (with_reducible refine Kd.C_drewN ?_ _) | (with_reducible refine Kd.C_drew ?_))); (case side2 => exact HC1.out); rintro e w' ⟨rfl, ⟨nd, rfl⟩⟩; (try first | exact ⟨rfl, _, World.drewN_drewN _ _ _⟩ | exact ⟨rfl, _, Eq.trans (World.drewN_drewN _ _ _) (congrArg (World.drewN _) (Nat.add_assoc _ _ _))⟩)) | (go_at_call 31; (with_reducible refine (zelligeref01_Below.calls _ _ l0 t309 _ ?side1 ?side2 A11.out).mono ?_); (case side1 => repeat (first | exact HR0.out | (with_reducible refine Kd.C_alloc ?_ _) | (with_reducible refine Kd.C_drewN ?_ _) | (with_reducible refine Kd.C_drew ?_))); (case side2 => exact HC0.out); rintro e w' ⟨rfl, ⟨nd, rfl⟩⟩; (try first | exact ⟨rfl, _, World.drewN_drewN _ _ _⟩ | exact ⟨rfl, _, Eq.trans (World.drewN_drewN _ _ _) (congrArg (World.drewN _) (Nat.add_assoc _ _ _))⟩))); try go_wp2_with (first | (go_at_call 31; (with_reducible refine (zelligeref01_Below.calls _ _ l1 true _ ?side1 ?side2 A9.out).mono ?_); (case side1 => repeat (first | exact HR1.out | (with_reducible refine Kd.C_alloc ?_ _) | (with_reducible refine Kd.C_drewN ?_ _) | (with_reducible refine Kd.C_drew ?_))); (case side2 => exact HC1.out); rintro e w' ⟨rfl, ⟨nd, rfl⟩⟩; (try first | exact ⟨rfl, _, World.drewN_drewN _ _ _⟩ | exact ⟨rfl, _, Eq.trans (World.drewN_drewN _ _ _) (congrArg (World.drewN _) (Nat.add_assoc _ _ _))⟩)) | (go_at_call 31; (with_reducible refine (zelligeref01_Below.calls _ _ l0 t309 _ ?side1 ?side2 A11.out).mono ?_); (case side1 => repeat (first | exact HR0.out | (with_reducible refine Kd.C_alloc ?_ _) | (with_reducible refine Kd.C_drewN ?_ _) | (with_reducible refine Kd.C_drew ?_))); (case side2 => exact HC0.out); rintro e w' ⟨rfl, ⟨nd, rfl⟩⟩; (try first | exact ⟨rfl, _, World.drewN_drewN _ _ _⟩ | exact ⟨rfl, _, Eq.trans (World.drewN_drewN _ _ _) (congrArg (World.drewN _) (Nat.add_assoc _ _ _))⟩))))
            go_meet
            case rel => exact ⟨_, (!t309), (by first | rfl | (simp; done) | (simp [*]; done)), H', ⟨by have := HJ2.out; first | omega | exact Nat.le_refl _⟩, by repeat (first | exact Drawn0.refl _ | apply Drawn0.step)⟩
          · replace c10 := Bool.eq_false_iff.mpr c10
            subst c10
            have H1 : (zelligeref01_Cmp.j1 kj2 l0 l1 false) = some r := by rw [if_neg (show ¬ (false = true) by decide)] at H; exact H
            clear H
            have H := H1
            clear H1
            have H' := Aside0.mk H
            clear H
            go_wp2_with (first | (go_at_call 31; (with_reducible refine (zelligeref01_Below.calls _ _ l1 false _ ?side1 ?side2 A9.out).mono ?_); (case side1 => repeat (first | exact HR1.out | (with_reducible refine Kd.C_alloc ?_ _) | (with_reducible refine Kd.C_drewN ?_ _) | (with_reducible refine Kd.C_drew ?_))); (case side2 => exact HC1.out); rintro e w' ⟨rfl, ⟨nd, rfl⟩⟩; (try first | exact ⟨rfl, _, World.drewN_drewN _ _ _⟩ | exact ⟨rfl, _, Eq.trans (World.drewN_drewN _ _ _) (congrArg (World.drewN _) (Nat.add_assoc _ _ _))⟩)))
            repeat (go_quiet (first | (go_at_call 31; (with_reducible refine (zelligeref01_Below.calls _ _ l1 false _ ?side1 ?side2 A9.out).mono ?_); (case side1 => repeat (first | exact HR1.out | (with_reducible refine Kd.C_alloc ?_ _) | (with_reducible refine Kd.C_drewN ?_ _) | (with_reducible refine Kd.C_drew ?_))); (case side2 => exact HC1.out); rintro e w' ⟨rfl, ⟨nd, rfl⟩⟩; (try first | exact ⟨rfl, _, World.drewN_drewN _ _ _⟩ | exact ⟨rfl, _, Eq.trans (World.drewN_drewN _ _ _) (congrArg (World.drewN _) (Nat.add_assoc _ _ _))⟩))); try go_wp2_with (first | (go_at_call 31; (with_reducible refine (zelligeref01_Below.calls _ _ l1 false _ ?side1 ?side2 A9.out).mono ?_); (case side1 => repeat (first | exact HR1.out | (with_reducible refine Kd.C_alloc ?_ _) | (with_reducible refine Kd.C_drewN ?_ _) | (with_reducible refine Kd.C_drew ?_))); (case side2 => exact HC1.out); rintro e w' ⟨rfl, ⟨nd, rfl⟩⟩; (try first | exact ⟨rfl, _, World.drewN_drewN _ _ _⟩ | exact ⟨rfl, _, Eq.trans (World.drewN_drewN _ _ _) (congrArg (World.drewN _) (Nat.add_assoc _ _ _))⟩))))
            go_meet
            case rel => exact ⟨_, (false), (by first | rfl | (simp; done) | (simp [*]; done)), H', ⟨by have := HJ2.out; first | omega | exact Nat.le_refl _⟩, by repeat (first | exact Drawn0.refl _ | apply Drawn0.step)⟩
        case rest =>
          clear HC8
          try clear c1
          try clear c2
          try clear p2
          try clear c5
          try clear c7
          try clear c10
          try clear p2
          obtain ⟨kq, x19_7, rfl, HA, HJ7, ⟨mc7, rfl⟩⟩ := hcut
          cases kq with
          | zero => exact absurd HA.out (by simp [zelligeref01_Cmp.j1])
          | succ kj7 =>
            have H := HA.out
            clear HA
            simp only [zelligeref01_Cmp.j1] at H
            by_cases c12 : x19_7 = true
            · subst c12
              have H1 : (some 1) = some r := by rw [if_pos rfl] at H; exact H
              clear H
              have H := H1
              clear H1
              obtain rfl := Option.some.inj H
              go_wp2
              repeat (go_quiet (fail); try go_wp2)
              go_ret
              exact ⟨by first | rfl | (simp; done) | (simp [*]; done), by repeat (first | exact Drawn0.refl _ | apply Drawn0.step)⟩
            · replace c12 := Bool.eq_false_iff.mpr c12
              subst c12
              have H1 : (zelligeref01_Cmp.l0 kj7 l0 l1 (wrap64 ((l0.length : Int) - 1))) = some r := by rw [if_neg (show ¬ (false = true) by decide)] at H; exact H
              clear H
              have H := H1
              clear H1
              have H' := Aside0.mk H
              clear H
              go_wp2
              repeat (go_quiet (fail); try go_wp2)
              go_loopg [5] kj7 (fun kq v5 w' => ∃ (x5_3 : Int), v5 = .int .i64 x5_3 ∧ Aside0 (zelligeref01_Cmp.l0 kq l0 l1 x5_3 = some r) ∧ Aside0 (kq ≤ kj7) ∧ Drawn0 w w')
              case atStart => exact ⟨(wrap64 ((l0.length : Int) - 1)), (by first | rfl | (simp; done) | (simp [*]; done)), H', ⟨Nat.le_refl _⟩, by repeat (first | exact Drawn0.refl _ | apply Drawn0.step)⟩
              case round =>
                clear H'
                try clear c1
                try clear c2
                try clear p2
                try clear c5
                try clear p6
                try clear c7
                try clear c10
                try clear c12
                try clear p2
                obtain ⟨x5_3, rfl, HA, HK3, ⟨m3, rfl⟩⟩ := hrel
                cases gk with
                | zero => exact absurd HA.out (by simp [zelligeref01_Cmp.l0])
                | succ k3 =>
                  have H := HA.out
                  clear HA
                  simp only [zelligeref01_Cmp.l0] at H
                  by_cases c13 : x5_3 ≥ 0
                  · rw [if_pos c13] at H
                    have c13b0 : decide (0 ≤ x5_3) = true := decide_eq_true c13
                    clear c13
                    by_cases c14 : 0 ≤ x5_3
                    · rw [if_pos c14] at H
                      have c14b0 : decide (0 ≤ x5_3) = true := decide_eq_true c14
                      clear c14
                      by_cases c15 : x5_3 < (l0.length : Int)
                      · rw [if_pos c15] at H
                        have c15b0 : decide (x5_3 < (l0.length : Int)) = true := decide_eq_true c15
                        clear c15
                        by_cases c16 : x5_3 < (l1.length : Int)
                        · rw [if_pos c16] at H
                          have c16b0 : decide (x5_3 < (l1.length : Int)) = true := decide_eq_true c16
                          clear c16
                          by_cases c17 : (rd l0 x5_3) < (rd l1 x5_3)
                          · rw [if_pos c17] at H
                            have c17b0 : decide ((rd l0 x5_3) < (rd l1 x5_3)) = true := decide_eq_true c17
                            clear c17
                            obtain rfl := Option.some.inj H
                            have p310 : 0 ≤ (x5_3 : Int) := of_decide_eq_true (by first | (with_reducible assumption) | assumption)
                            have q310 : x5_3 < (l0.length : Int) := of_decide_eq_true (by first | (with_reducible assumption) | assumption)
                            obtain ⟨ad310, e310, hx310_0⟩ := Kd.at_int HR0.out x5_3 p310 q310
                            cases e310
                            replace p310 := eq_true p310
                            replace q310 := eq_true q310
                            have p311 : 0 ≤ (x5_3 : Int) := of_decide_eq_true (by first | (with_reducible assumption) | assumption)
                            have q311 : x5_3 < (l1.length : Int) := of_decide_eq_true (by first | (with_reducible assumption) | assumption)
                            obtain ⟨ad311, e311, hx311_0⟩ := Kd.at_int HR1.out x5_3 p311 q311
                            cases e311
                            replace p311 := eq_true p311
                            replace q311 := eq_true q311
                            go_wp2
                            repeat (go_quiet (fail); try go_wp2)
                            go_ret
                            exact ⟨by first | rfl | (simp; done) | (simp [*]; done), by repeat (first | exact Drawn0.refl _ | apply Drawn0.step)⟩
                          · rw [if_neg c17] at H
                            have c17b0 : decide ((rd l0 x5_3) < (rd l1 x5_3)) = false := decide_eq_false c17
                            clear c17
                            by_cases c18 : (rd l0 x5_3) > (rd l1 x5_3)
                            · rw [if_pos c18] at H
                              have c18b0 : decide ((rd l1 x5_3) < (rd l0 x5_3)) = true := decide_eq_true c18
                              clear c18
                              obtain rfl := Option.some.inj H
                              have p310 : 0 ≤ (x5_3 : Int) := of_decide_eq_true (by first | (with_reducible assumption) | assumption)
                              have q310 : x5_3 < (l0.length : Int) := of_decide_eq_true (by first | (with_reducible assumption) | assumption)
                              obtain ⟨ad310, e310, hx310_0⟩ := Kd.at_int HR0.out x5_3 p310 q310
                              cases e310
                              replace p310 := eq_true p310
                              replace q310 := eq_true q310
                              have p311 : 0 ≤ (x5_3 : Int) := of_decide_eq_true (by first | (with_reducible assumption) | assumption)
                              have q311 : x5_3 < (l1.length : Int) := of_decide_eq_true (by first | (with_reducible assumption) | assumption)
                              obtain ⟨ad311, e311, hx311_0⟩ := Kd.at_int HR1.out x5_3 p311 q311
                              cases e311
                              replace p311 := eq_true p311
                              replace q311 := eq_true q311
                              have p312 : 0 ≤ (x5_3 : Int) := of_decide_eq_true (by first | (with_reducible assumption) | assumption)
                              have q312 : x5_3 < (l0.length : Int) := of_decide_eq_true (by first | (with_reducible assumption) | assumption)
                              obtain ⟨ad312, e312, hx312_0⟩ := Kd.at_int HR0.out x5_3 p312 q312
                              obtain rfl : ad310 = ad312 := (by injection e312)
                              replace p312 := eq_true p312
                              replace q312 := eq_true q312
                              have p313 : 0 ≤ (x5_3 : Int) := of_decide_eq_true (by first | (with_reducible assumption) | assumption)
                              have q313 : x5_3 < (l1.length : Int) := of_decide_eq_true (by first | (with_reducible assumption) | assumption)
                              obtain ⟨ad313, e313, hx313_0⟩ := Kd.at_int HR1.out x5_3 p313 q313
                              obtain rfl : ad311 = ad313 := (by injection e313)
                              replace p313 := eq_true p313
                              replace q313 := eq_true q313
                              go_wp2
                              repeat (go_quiet (fail); try go_wp2)
                              go_ret
                              exact ⟨by first | rfl | (simp; done) | (simp [*]; done), by repeat (first | exact Drawn0.refl _ | apply Drawn0.step)⟩
                            · rw [if_neg c18] at H
                              have c18b0 : decide ((rd l1 x5_3) < (rd l0 x5_3)) = false := decide_eq_false c18
                              clear c18
                              have H' := Aside0.mk H
                              clear H
                              have p310 : 0 ≤ (x5_3 : Int) := of_decide_eq_true (by first | (with_reducible assumption) | assumption)
                              have q310 : x5_3 < (l0.length : Int) := of_decide_eq_true (by first | (with_reducible assumption) | assumption)
                              obtain ⟨ad310, e310, hx310_0⟩ := Kd.at_int HR0.out x5_3 p310 q310
                              cases e310
                              replace p310 := eq_true p310
                              replace q310 := eq_true q310
                              have p311 : 0 ≤ (x5_3 : Int) := of_decide_eq_true (by first | (with_reducible assumption) | assumption)
                              have q311 : x5_3 < (l1.length : Int) := of_decide_eq_true (by first | (with_reducible assumption) | assumption)
                              obtain ⟨ad311, e311, hx311_0⟩ := Kd.at_int HR1.out x5_3 p311 q311
                              cases e311
                              replace p311 := eq_true p311
                              replace q311 := eq_true q311
                              have p312 : 0 ≤ (x5_3 : Int) := of_decide_eq_true (by first | (with_reducible assumption) | assumption)
                              have q312 : x5_3 < (l0.length : Int) := of_decide_eq_true (by first | (with_reducible assumption) | assumption)
                              obtain ⟨ad312, e312, hx312_0⟩ := Kd.at_int HR0.out x5_3 p312 q312
                              obtain rfl : ad310 = ad312 := (by injection e312)
                              replace p312 := eq_true p312
                              replace q312 := eq_true q312
                              have p313 : 0 ≤ (x5_3 : Int) := of_decide_eq_true (by first | (with_reducible assumption) | assumption)
                              have q313 : x5_3 < (l1.length : Int) := of_decide_eq_true (by first | (with_reducible assumption) | assumption)
                              obtain ⟨ad313, e313, hx313_0⟩ := Kd.at_int HR1.out x5_3 p313 q313
                              obtain rfl : ad311 = ad313 := (by injection e313)
                              replace p313 := eq_true p313
                              replace q313 := eq_true q313
                              go_wp2
                              repeat (go_quiet (fail); try go_wp2)
                              go_roundg k3
                              case measure => have := HJ2.out; have := HJ7.out; have := HK3.out; omega
                              case rel => exact ⟨(wrap64 (x5_3 - 1)), (by first | rfl | (simp; done) | (simp [*]; done)), H', ⟨by have := HJ2.out; have := HJ7.out; have := HK3.out; omega⟩, by repeat (first | exact Drawn0.refl _ | apply Drawn0.step)⟩
                        · rw [if_neg c16] at H
                          exact absurd H (by simp)
                      · rw [if_neg c15] at H
                        exact absurd H (by simp)
                    · rw [if_neg c14] at H
                      exact absurd H (by simp)
                  · rw [if_neg c13] at H
                    have c13b0 : decide (0 ≤ x5_3) = false := decide_eq_false c13
                    clear c13
                    obtain rfl := Option.some.inj H
                    go_wp2
                    repeat (go_quiet (fail); try go_wp2)
                    go_ret
                    exact ⟨by first | rfl | (simp; done) | (simp [*]; done), by repeat (first | exact Drawn0.refl _ | apply Drawn0.step)⟩

end Go.Proofs.Ytbmeokhoebjdbaa.F
end

section
/- What the reference's functions on digits to the base 256 come to: plain lists and whole numbers. -/
namespace Go.Proofs.Ytbmeokhoebjdbaa.D8
open Go Go.RowKit Go.Proofs.YtbmeokhoebjdbaaW.PrintWords Go.Proofs.Ytbmeokhoebjdbaa.F
set_option linter.unusedVariables false
attribute [local irreducible] val P
theorem rd_nat (l : List Int) (n : Nat) : rd l (n : Int) = l.getD n 0 := by unfold rd; simp
theorem val_set {l : List Int} {j : Nat} (h : j < l.length) (x : Int) : val (l.set j x) = val l + P j * (x - l.getD j 0) := by
  induction l generalizing j with
  | nil => simp at h
  | cons d l ih =>
    cases j with
    | zero => simp only [List.set_cons_zero, val, P, List.getD_cons_zero]; omega
    | succ j =>
      simp only [List.set_cons_succ, val, P, List.getD_cons_succ]
      rw [ih (by simpa using h)]
      generalize P j = p
      generalize l.getD j 0 = y
      grind
theorem Dg_set {l : List Int} (h : Dg l) {j : Nat} {x : Int} (h0 : 0 ≤ x) (h1 : x < 256) : Dg (l.set j x) := fun d hd => by
  rcases List.mem_or_eq_of_mem_set hd with hd | rfl
  · exact h d hd
  · exact ⟨h0, h1⟩
theorem getD_set_ne {l : List Int} {i j : Nat} (h : i ≠ j) (x : Int) : (l.set i x).getD j 0 = l.getD j 0 := by
  simp [List.getD_eq_getElem?_getD, List.getElem?_set_ne h]
theorem getD_rep (n j : Nat) : (List.replicate n (0 : Int)).getD j 0 = 0 := by
  simp only [List.getD_eq_getElem?_getD, List.getElem?_replicate]
  split <;> rfl
theorem Dg_rep (n : Nat) : Dg (List.replicate n (0 : Int)) := fun d hd => by
  rw [(List.mem_replicate.1 hd).2]; omega
theorem val_rep (n : Nat) : val (List.replicate n (0 : Int)) = 0 := val_zero_of (fun d hd => (List.mem_replicate.1 hd).2)
/-- Two of one length and one value are one. -/
theorem Dg_one_val {a b : List Int} (ha : Dg a) (hb : Dg b) (hl : a.length = b.length) (h : val a = val b) : a = b := by
  induction a generalizing b with
  | nil => exact (List.length_eq_zero_iff.1 hl.symm).symm
  | cons d a ih =>
    rcases b with _ | ⟨e, b⟩
    · simp at hl
    · unfold val at h
      have h1 := (Dg_cons.1 ha).1
      have h2 := (Dg_cons.1 hb).1
      have hd : d = e := by omega
      subst hd
      rw [ih (Dg_cons.1 ha).2 (Dg_cons.1 hb).2 (by simpa using hl) (by omega)]
theorem mod_of {v T t n : Int} (h0 : 0 ≤ v) (h1 : v < n) (e : v + n * t = T) : v = T % n := by
  rw [← e, Int.add_mul_emod_self_left, Int.emod_eq_of_lt h0 h1]

/-! ### Add -/
theorem add_l0 {a b : List Int} (ha : Dg a) (hb : Dg b) (hl : a.length = b.length) (na : a.length ≤ 1000) : ∀ (d k i : Nat) (out : List Int) (c T : Int), a.length - i = d → i ≤ a.length → d < k → out.length = a.length → Dg out → (∀ j, i ≤ j → out.getD j 0 = 0) → 0 ≤ c → c ≤ 1 →
    val out + P i * (c + val (a.drop i) + val (b.drop i)) = T → ∃ r t, zelligeref01_Add.l0 k a b out c (i : Int) = some r ∧ r.length = a.length ∧ Dg r ∧ val r + P a.length * t = T := by
  intro d
  induction d with
  | zero =>
    intro k i out c T hd hi hk ho hD hz c0 c1 hT
    obtain ⟨k, rfl⟩ : ∃ m, k = m + 1 := ⟨k - 1, by omega⟩
    rw [zelligeref01_Add.l0, if_neg (by omega)]
    rw [val_drop_all (by omega), val_drop_all (by omega), show i = a.length by omega] at hT
    exact ⟨out, c, rfl, ho, hD, by rw [← hT]; simp⟩
  | succ d ih =>
    intro k i out c T hd hi hk ho hD hz c0 c1 hT
    obtain ⟨k, rfl⟩ : ∃ m, k = m + 1 := ⟨k - 1, by omega⟩
    have gA := Dg_get ha i
    have gB := Dg_get hb i
    have eA := val_drop (l := a) (i := i) (by omega)
    have eB := val_drop (l := b) (i := i) (by omega)
    rw [zelligeref01_Add.l0, if_pos (by omega), if_pos (by omega), if_pos (by omega), if_pos (by omega), rd_nat, rd_nat, w64 (x := c + a.getD i 0) (by omega) (by omega), w64 (x := c + a.getD i 0 + b.getD i 0) (by omega) (by omega),
      Int.tmod_eq_emod_of_nonneg (by omega), Int.tdiv_eq_ediv_of_nonneg (by omega), w64 (x := (c + a.getD i 0 + b.getD i 0) / 256) (by omega) (by omega), w64 (x := (i : Int) + 1) (by omega) (by omega), Int.toNat_natCast]
    refine ih k (i + 1) _ _ T (by omega) (by omega) (by omega) (by rw [List.length_set, ho]) (Dg_set hD (by omega) (by omega)) (fun j hj => ?_) (by omega) (by omega) ?_
    · rw [getD_set_ne (by omega)]; exact hz j (by omega)
    · rw [val_set (by omega), hz i (Nat.le_refl _)]
      rw [eA, eB] at hT
      rw [show P (i + 1) = 256 * P i by rw [P]]
      have hs := Int.emod_add_mul_ediv (c + a.getD i 0 + b.getD i 0) 256
      generalize (c + a.getD i 0 + b.getD i 0) % 256 = m at hs ⊢
      generalize (c + a.getD i 0 + b.getD i 0) / 256 = q at hs ⊢
      rw [← hT]
      generalize val (a.drop (i + 1)) = A
      generalize val (b.drop (i + 1)) = B
      generalize P i = p
      have : c = m + 256 * q - a.getD i 0 - b.getD i 0 := by omega
      subst this
      grind
theorem add_f {a b : List Int} (ha : Dg a) (hb : Dg b) (hl : a.length = b.length) (na : a.length ≤ 1000) {k : Nat} (hk : 1001 ≤ k) : ∃ r, zelligeref01_Add.f k a b = some r ∧ r.length = a.length ∧ Dg r ∧ val r = (val a + val b) % P a.length := by
  unfold zelligeref01_Add.f
  rw [if_pos (by omega), if_pos (by omega), Int.toNat_natCast]
  obtain ⟨r, t, h1, h2, h3, h4⟩ := add_l0 ha hb hl na a.length k 0 (List.replicate a.length 0) 0 (val a + val b) (by omega) (by omega) (by omega) (by simp) (Dg_rep _) (fun j _ => getD_rep _ _) (by omega) (by omega) (by rw [val_rep, List.drop_zero, List.drop_zero, show P 0 = 1 by rw [P]]; omega)
  refine ⟨r, h1, h2, h3, mod_of (val_nonneg h3) ?_ h4⟩
  rw [← h2]; exact val_lt h3

/-! ### Neg -/
def co (l : List Int) : Int := P l.length - 1 - val l
theorem neg_l0 {a one : List Int} (ha : Dg a) (na : a.length ≤ 1000) (n0 : 0 < a.length) (h1 : one = List.replicate a.length 0) : ∀ (d k i : Nat) (out : List Int) (T : Int), a.length - i = d → i ≤ a.length → d + 1002 < k → out.length = a.length → Dg out → (∀ j, i ≤ j → out.getD j 0 = 0) →
    val out + P i * co (a.drop i) = T → T = P a.length - 1 - val a → ∃ r, zelligeref01_Neg.l0 k a out one (i : Int) = some r ∧ r.length = a.length ∧ Dg r ∧ val r = (-val a) % P a.length := by
  intro d
  induction d with
  | zero =>
    intro k i out T hd hi hk ho hD hz hT hT2
    obtain ⟨k, rfl⟩ : ∃ m, k = m + 1 := ⟨k - 1, by omega⟩
    have hone : one.length = a.length := by rw [h1]; simp
    have hDo : Dg (one.set 0 1) := Dg_set (by rw [h1]; exact Dg_rep _) (by omega) (by omega)
    have hvo : val (one.set 0 1) = 1 := by
      rw [val_set (by omega), h1, val_rep, getD_rep, show P 0 = 1 by rw [P]]; omega
    rw [zelligeref01_Neg.l0, if_neg (by omega), if_pos (by omega)]
    obtain ⟨r, r1, r2, r3, r4⟩ := add_f (a := out) (b := one.set 0 1) hD hDo (by rw [List.length_set]; omega) (by omega) (k := k) (by omega)
    rw [show ((0 : Int)).toNat = 0 from rfl, r1, Option.bind_some]
    refine ⟨r, rfl, by omega, r3, ?_⟩
    have hco : co (a.drop i) = 0 := by
      unfold co
      rw [List.drop_eq_nil_of_le (by omega)]
      rw [show val [] = 0 by rw [val], List.length_nil, show P 0 = 1 by rw [P]]; omega
    rw [hco, Int.mul_zero, Int.add_zero] at hT
    rw [r4, hvo, ho, hT, hT2]
    have := Int.add_mul_emod_self_left (-val a) (P a.length) 1
    rw [Int.mul_one] at this
    rw [← this]
    congr 1
    omega
  | succ d ih =>
    intro k i out T hd hi hk ho hD hz hT hT2
    obtain ⟨k, rfl⟩ : ∃ m, k = m + 1 := ⟨k - 1, by omega⟩
    have gA := Dg_get ha i
    have eA := val_drop (l := a) (i := i) (by omega)
    rw [zelligeref01_Neg.l0, if_pos (by omega), if_pos (by omega), if_pos (by omega), rd_nat, w64 (x := 255 - a.getD i 0) (by omega) (by omega), w64 (x := (i : Int) + 1) (by omega) (by omega), Int.toNat_natCast]
    refine ih k (i + 1) _ T (by omega) (by omega) (by omega) (by rw [List.length_set, ho]) (Dg_set hD (by omega) (by omega)) (fun j hj => ?_) ?_ hT2
    · rw [getD_set_ne (by omega)]; exact hz j (by omega)
    · rw [val_set (by omega), hz i (Nat.le_refl _), ← hT]
      unfold co
      rw [eA, List.length_drop, List.length_drop, show a.length - i = (a.length - (i + 1)) + 1 by omega, show P (i + 1) = 256 * P i by rw [P], show P (a.length - (i + 1) + 1) = 256 * P (a.length - (i + 1)) by rw [P]]
      generalize P (a.length - (i + 1)) = m
      generalize P i = p
      generalize val (a.drop (i + 1)) = A
      grind
theorem neg_f {a : List Int} (ha : Dg a) (na : a.length ≤ 1000) (n0 : 0 < a.length) {k : Nat} (hk : 3000 ≤ k) : ∃ r, zelligeref01_Neg.f k a = some r ∧ r.length = a.length ∧ Dg r ∧ val r = (-val a) % P a.length := by
  unfold zelligeref01_Neg.f
  rw [if_pos (by omega), if_pos (by omega), Int.toNat_natCast]
  exact neg_l0 ha na n0 rfl a.length k 0 (List.replicate a.length 0) _ (by omega) (by omega) (by omega) (by simp) (Dg_rep _) (fun j _ => getD_rep _ _) rfl (by rw [val_rep, List.drop_zero, show P 0 = 1 by rw [P]]; unfold co; omega)

/-! ### Mul -/
theorem carry {c o a b : Int} (c0 : 0 ≤ c) (c1 : c < 256) (o0 : 0 ≤ o) (o1 : o < 256) (a0 : 0 ≤ a) (a1 : a < 256) (b0 : 0 ≤ b) (b1 : b < 256) :
    0 ≤ a * b ∧ a * b ≤ 65025 ∧ 0 ≤ c + o + a * b ∧ (c + o + a * b) / 256 < 256 := by
  have h0 : 0 ≤ a * b := Int.mul_nonneg a0 b0
  have h1 : a * b ≤ 255 * b := Int.mul_le_mul_of_nonneg_right (by omega) b0
  omega
theorem mul_l1 {a b : List Int} (ha : Dg a) (hb : Dg b) (hl : a.length = b.length) (na : a.length ≤ 1000) {i : Nat} (hi : i < a.length) (V : Int)
    (next : ∀ (k : Nat) (out : List Int) (t : Int), 2000 * (a.length - (i + 1)) + 2 ≤ k → out.length = a.length → Dg out → val out + P a.length * t = V → ∃ r t, zelligeref01_Mul.l0 k a b out ((i + 1 : Nat) : Int) = some r ∧ r.length = a.length ∧ Dg r ∧ val r + P a.length * t = val a * val b) :
    ∀ (d k j : Nat) (out : List Int) (c t : Int), a.length - (i + j) = d → i + j ≤ a.length → 2000 * (a.length - (i + 1)) + d + 3 ≤ k → out.length = a.length → Dg out → 0 ≤ c → c < 256 → val out + P (i + j) * (c + a.getD i 0 * val (b.drop j)) + P a.length * t = V →
    ∃ r t, zelligeref01_Mul.l1 k a b out (i : Int) c (j : Int) = some r ∧ r.length = a.length ∧ Dg r ∧ val r + P a.length * t = val a * val b := by
  intro d
  induction d with
  | zero =>
    intro k j out c t hd hij hk ho hD c0 c1 hT
    obtain ⟨k, rfl⟩ : ∃ m, k = m + 1 := ⟨k - 1, by omega⟩
    rw [zelligeref01_Mul.l1, w64 (x := (i : Int) + j) (by omega) (by omega), if_neg (by omega), w64 (x := (i : Int) + 1) (by omega) (by omega)]
    refine next k out (c + a.getD i 0 * val (b.drop j) + t) (by omega) ho hD ?_
    rw [← hT, show i + j = a.length by omega, Int.mul_add]
    omega
  | succ d ih =>
    intro k j out c t hd hij hk ho hD c0 c1 hT
    obtain ⟨k, rfl⟩ : ∃ m, k = m + 1 := ⟨k - 1, by omega⟩
    have gA := Dg_get ha i
    have gB := Dg_get hb j
    have gO := Dg_get hD (i + j)
    have cc := carry c0 c1 gO.1 gO.2 gA.1 gA.2 gB.1 gB.2
    have eB := val_drop (l := b) (i := j) (by omega)
    have e1 := Aside0.mk (show wrap64 ((i : Int) + (j : Int)) = ((i + j : Nat) : Int) by rw [w64 (by omega) (by omega)]; omega)
    rw [zelligeref01_Mul.l1, e1.out, if_pos (by omega), if_pos (by omega), if_pos (by omega), if_pos (by omega), if_pos (by omega), if_pos (by omega), if_pos (by omega), rd_nat, rd_nat, rd_nat, w64 (x := a.getD i 0 * b.getD j 0) (by omega) (by omega), w64 (x := c + out.getD (i + j) 0) (by omega) (by omega),
      w64 (x := c + out.getD (i + j) 0 + a.getD i 0 * b.getD j 0) (by omega) (by omega), Int.tmod_eq_emod_of_nonneg (by omega), Int.tdiv_eq_ediv_of_nonneg (by omega), w64 (x := (c + out.getD (i + j) 0 + a.getD i 0 * b.getD j 0) / 256) (by omega) (by omega), w64 (x := (j : Int) + 1) (by omega) (by omega), Int.toNat_natCast]
    refine ih k (j + 1) _ _ t (by omega) (by omega) (by omega) (by rw [List.length_set, ho]) (Dg_set hD (by omega) (by omega)) (by omega) (by omega) ?_
    rw [val_set (by omega)]
    rw [eB] at hT
    rw [show P (i + (j + 1)) = 256 * P (i + j) by rw [← Nat.add_assoc, P]]
    have hs := Int.emod_add_mul_ediv (c + out.getD (i + j) 0 + a.getD i 0 * b.getD j 0) 256
    generalize (c + out.getD (i + j) 0 + a.getD i 0 * b.getD j 0) % 256 = m at hs ⊢
    generalize (c + out.getD (i + j) 0 + a.getD i 0 * b.getD j 0) / 256 = q at hs ⊢
    rw [← hT]
    generalize val (b.drop (j + 1)) = B
    generalize P (i + j) = p
    generalize out.getD (i + j) 0 = o at hs ⊢
    generalize a.getD i 0 = x at hs ⊢
    generalize b.getD j 0 = y at hs ⊢
    have : c = m + 256 * q - x * y - o := by omega
    subst this
    clear hs hT eB cc
    grind
theorem mul_l0 {a b : List Int} (ha : Dg a) (hb : Dg b) (hl : a.length = b.length) (na : a.length ≤ 1000) : ∀ (d k i : Nat) (out : List Int) (t : Int), a.length - i = d → i ≤ a.length → 2000 * d + 2 ≤ k → out.length = a.length → Dg out → val out + P a.length * t = val a * val b - P i * (val (a.drop i) * val b) →
    ∃ r t, zelligeref01_Mul.l0 k a b out (i : Int) = some r ∧ r.length = a.length ∧ Dg r ∧ val r + P a.length * t = val a * val b := by
  intro d
  induction d with
  | zero =>
    intro k i out t hd hi hk ho hD hT
    obtain ⟨k, rfl⟩ : ∃ m, k = m + 1 := ⟨k - 1, by omega⟩
    rw [zelligeref01_Mul.l0, if_neg (by omega)]
    rw [val_drop_all (by omega), Int.zero_mul, Int.mul_zero, Int.sub_zero] at hT
    exact ⟨out, t, rfl, ho, hD, hT⟩
  | succ d ih =>
    intro k i out t hd hi hk ho hD hT
    obtain ⟨k, rfl⟩ : ∃ m, k = m + 1 := ⟨k - 1, by omega⟩
    have eA := val_drop (l := a) (i := i) (by omega)
    rw [zelligeref01_Mul.l0, if_pos (by omega)]
    refine mul_l1 ha hb hl na (by omega) (val a * val b - P (i + 1) * (val (a.drop (i + 1)) * val b)) (fun k' out' t' h1 h2 h3 h4 => ih k' (i + 1) out' t' (by omega) (by omega) (by omega) h2 h3 h4) (a.length - i) k 0 out 0 t (by omega) (by omega) (by omega) ho hD (by omega) (by omega) ?_
    rw [List.drop_zero, Nat.add_zero, Int.zero_add]
    rw [eA] at hT
    rw [show P (i + 1) = 256 * P i by rw [P]]
    generalize val (a.drop (i + 1)) = A at hT ⊢
    generalize P i = p at hT ⊢
    generalize a.getD i 0 = x at hT ⊢
    generalize P a.length * t = z at hT ⊢
    have : val out = val a * val b - p * ((x + 256 * A) * val b) - z := by omega
    rw [this]
    grind
theorem mul_f {a b : List Int} (ha : Dg a) (hb : Dg b) (hl : a.length = b.length) (na : a.length ≤ 1000) {k : Nat} (hk : 2000002 ≤ k) : ∃ r, zelligeref01_Mul.f k a b = some r ∧ r.length = a.length ∧ Dg r ∧ val r = (val a * val b) % P a.length := by
  unfold zelligeref01_Mul.f
  rw [if_pos (by omega), if_pos (by omega), Int.toNat_natCast]
  obtain ⟨r, t, h1, h2, h3, h4⟩ := mul_l0 ha hb hl na a.length k 0 (List.replicate a.length 0) 0 (by omega) (by omega) (by omega) (by simp) (Dg_rep _) (by rw [val_rep, List.drop_zero, show P 0 = 1 by rw [P]]; omega)
  refine ⟨r, h1, h2, h3, mod_of (val_nonneg h3) ?_ h4⟩
  rw [← h2]; exact val_lt h3
end Go.Proofs.Ytbmeokhoebjdbaa.D8
end

section
/- quad by hand: numbers of 256 bits as rows of four words (values .agg of four): of, add, sub and what wraps them. -/
namespace Go.Proofs.Ytbmeokhoebjdbaa.F
open Go Go.RowKit Go.Proofs.YtbmeokhoebjdbaaW.PrintWords Go.Proofs.YtbmeokhoebjdbaaW.PrintLast Go.Proofs.YtbmeokhoebjdbaaW.PrintMore
set_option linter.unusedVariables false
theorem add64_run (x y c : Int) (hx : 0 ≤ x) (hy : 0 ≤ y) (hc0 : 0 ≤ c) (w : World) :
    (callFunc 35 #[.int .u64 x, .int .u64 y, .int .u64 c]).run Try.prog w = .ok (.value (.tuple #[.int .u64 ((x + y + c) % 18446744073709551616), .int .u64 ((x + y + c) / 18446744073709551616)])) w ∨ 1 < c := by
  by_cases hc : c ≤ 1
  · left
    rw [run_callFunc_extern Try.func35 (by kernel_rfl) (by kernel_rfl) (by kernel_rfl) (e := add64Entry) (by kernel_rfl), run_add64 x y c hx hy hc0 hc]
    rfl
  · right; omega
theorem add64_go (x y c : Int) (hx : 0 ≤ x) (hy : 0 ≤ y) (hc0 : 0 ≤ c) (hc : c ≤ 1) (w : World) :
    (callFunc 35 #[.int .u64 x, .int .u64 y, .int .u64 c]).run Try.prog w = .ok (.value (.tuple #[.int .u64 ((x + y + c) % 18446744073709551616), .int .u64 ((x + y + c) / 18446744073709551616)])) w :=
  (add64_run x y c hx hy hc0 w).resolve_right (by omega)
def sub64Entry : Array Value → Sem Value := fun args => do
  let (x, y, b) ← Extern.MathBitsCarry.three "Sub64" args
  pure (Extern.MathBitsCarry.pair ((x + Extern.MathBitsCarry.m64 - y - b) % Extern.MathBitsCarry.m64) (if x < y + b then 1 else 0))
theorem sub64_nat (x y b : Nat) (hb : b ≤ 1) (P : Program) (w : World) :
    (sub64Entry #[.int .u64 x, .int .u64 y, .int .u64 b]).run P w =
      .ok (.tuple #[.int .u64 (((x + 18446744073709551616 - y - b) % 18446744073709551616 : Nat) : Int), .int .u64 ((if x < y + b then 1 else 0 : Nat) : Int)]) w := by
  have : b = 0 ∨ b = 1 := by omega
  rcases this with rfl | rfl <;> rfl
theorem sub64_go (x y c : Int) (hx : 0 ≤ x ∧ x < 18446744073709551616) (hy : 0 ≤ y ∧ y < 18446744073709551616) (hc0 : 0 ≤ c) (hc : c ≤ 1) (w : World) :
    (callFunc 37 #[.int .u64 x, .int .u64 y, .int .u64 c]).run Try.prog w = .ok (.value (.tuple #[.int .u64 ((x - y - c) % 18446744073709551616), .int .u64 (-((x - y - c) / 18446744073709551616))])) w := by
  obtain ⟨X, rfl⟩ := Int.eq_ofNat_of_zero_le hx.1
  obtain ⟨Y, rfl⟩ := Int.eq_ofNat_of_zero_le hy.1
  obtain ⟨C, rfl⟩ := Int.eq_ofNat_of_zero_le hc0
  rw [run_callFunc_extern Try.func37 (by kernel_rfl) (by kernel_rfl) (by kernel_rfl) (e := sub64Entry) (by kernel_rfl), sub64_nat X Y C (by omega)]
  have e1 : (((X + 18446744073709551616 - Y - C) % 18446744073709551616 : Nat) : Int) = ((X : Int) - Y - C) % 18446744073709551616 := by omega
  have e2 : ((if X < Y + C then 1 else 0 : Nat) : Int) = -(((X : Int) - Y - C) / 18446744073709551616) := by split <;> omega
  rw [e1, e2]
  rfl
/-- The value of four words. -/
abbrev q4 (a b c d : Int) : Value := .agg #[.int .u64 a, .int .u64 b, .int .u64 c, .int .u64 d]
abbrev UOk (a : Int) : Prop := 0 ≤ a ∧ a < 18446744073709551616
abbrev QOk (a b c d : Int) : Prop := UOk a ∧ UOk b ∧ UOk c ∧ UOk d
abbrev WOk (h l : Int) : Prop := (-9223372036854775808 ≤ h ∧ h ≤ 9223372036854775807) ∧ (0 ≤ l ∧ l < 18446744073709551616)
def wv (h l : Int) : Int := h * 18446744073709551616 + l
def whi (n : Int) : Int := wrap64 (n / 18446744073709551616)
def wlo (n : Int) : Int := n % 18446744073709551616
/-- The number of four words (below 2^256), and the words of a number, modulo 2^256. -/
def qv (a b c d : Int) : Int := a + 18446744073709551616 * (b + 18446744073709551616 * (c + 18446744073709551616 * d))
def q0 (n : Int) : Int := n % 18446744073709551616
def q1 (n : Int) : Int := n / 18446744073709551616 % 18446744073709551616
def q2 (n : Int) : Int := n / 18446744073709551616 / 18446744073709551616 % 18446744073709551616
def q3 (n : Int) : Int := n / 18446744073709551616 / 18446744073709551616 / 18446744073709551616 % 18446744073709551616
def qq4 (n : Int) : Int × Int × Int × Int := (q0 n, q1 n, q2 n, q3 n)
/-- The signed number of 256 bits. -/
def qs (n : Int) : Int := if n % 115792089237316195423570985008687907853269984665640564039457584007913129639936 < 57896044618658097711785492504343953926634992332820282019728792003956564819968 then n % 115792089237316195423570985008687907853269984665640564039457584007913129639936 else n % 115792089237316195423570985008687907853269984665640564039457584007913129639936 - 115792089237316195423570985008687907853269984665640564039457584007913129639936
theorem q_ok (n : Int) : QOk (q0 n) (q1 n) (q2 n) (q3 n) := by unfold q0 q1 q2 q3; exact ⟨⟨by omega, by omega⟩, ⟨by omega, by omega⟩, ⟨by omega, by omega⟩, ⟨by omega, by omega⟩⟩
theorem q_back {a b c d : Int} (h : QOk a b c d) : q0 (qv a b c d) = a ∧ q1 (qv a b c d) = b ∧ q2 (qv a b c d) = c ∧ q3 (qv a b c d) = d := by
  obtain ⟨⟨a0, a1⟩, ⟨b0, b1⟩, ⟨c0, c1⟩, ⟨d0, d1⟩⟩ := h
  unfold q0 q1 q2 q3 qv
  have e1 : (a + 18446744073709551616 * (b + 18446744073709551616 * (c + 18446744073709551616 * d))) / 18446744073709551616 = b + 18446744073709551616 * (c + 18446744073709551616 * d) := by omega
  have e2 : (b + 18446744073709551616 * (c + 18446744073709551616 * d)) / 18446744073709551616 = c + 18446744073709551616 * d := by omega
  have e3 : (c + 18446744073709551616 * d) / 18446744073709551616 = d := by omega
  rw [e1, e2, e3]
  exact ⟨by omega, by omega, by omega, by omega⟩
theorem sum_q {a b c d a' b' c' d' : Int} (h : QOk a b c d) (h' : QOk a' b' c' d') :
    (a + a' + 0) % 18446744073709551616 = q0 (qv a b c d + qv a' b' c' d') ∧
    (b + b' + (a + a' + 0) / 18446744073709551616) % 18446744073709551616 = q1 (qv a b c d + qv a' b' c' d') ∧
    (c + c' + (b + b' + (a + a' + 0) / 18446744073709551616) / 18446744073709551616) % 18446744073709551616 = q2 (qv a b c d + qv a' b' c' d') ∧
    (d + d' + (c + c' + (b + b' + (a + a' + 0) / 18446744073709551616) / 18446744073709551616) / 18446744073709551616) % 18446744073709551616 = q3 (qv a b c d + qv a' b' c' d') := by
  unfold q0 q1 q2 q3 qv
  have e1 : (a + 18446744073709551616 * (b + 18446744073709551616 * (c + 18446744073709551616 * d)) + (a' + 18446744073709551616 * (b' + 18446744073709551616 * (c' + 18446744073709551616 * d')))) / 18446744073709551616 = (b + b' + (a + a' + 0) / 18446744073709551616) + 18446744073709551616 * ((c + c') + 18446744073709551616 * (d + d')) := by omega
  have e0 : (a + 18446744073709551616 * (b + 18446744073709551616 * (c + 18446744073709551616 * d)) + (a' + 18446744073709551616 * (b' + 18446744073709551616 * (c' + 18446744073709551616 * d')))) % 18446744073709551616 = (a + a' + 0) % 18446744073709551616 := by omega
  rw [e0, e1]
  generalize b + b' + (a + a' + 0) / 18446744073709551616 = B
  have e2 : (B + 18446744073709551616 * ((c + c') + 18446744073709551616 * (d + d'))) / 18446744073709551616 = (c + c' + B / 18446744073709551616) + 18446744073709551616 * (d + d') := by omega
  rw [e2]
  generalize c + c' + B / 18446744073709551616 = C
  exact ⟨rfl, by omega, by omega, by omega⟩
theorem dif_q {a b c d a' b' c' d' : Int} (h : QOk a b c d) (h' : QOk a' b' c' d') :
    (a - a' - 0) % 18446744073709551616 = q0 (qv a b c d - qv a' b' c' d') ∧
    (b - b' - -((a - a' - 0) / 18446744073709551616)) % 18446744073709551616 = q1 (qv a b c d - qv a' b' c' d') ∧
    (c - c' - -((b - b' - -((a - a' - 0) / 18446744073709551616)) / 18446744073709551616)) % 18446744073709551616 = q2 (qv a b c d - qv a' b' c' d') ∧
    (d - d' - -((c - c' - -((b - b' - -((a - a' - 0) / 18446744073709551616)) / 18446744073709551616)) / 18446744073709551616)) % 18446744073709551616 = q3 (qv a b c d - qv a' b' c' d') := by
  unfold q0 q1 q2 q3 qv
  have e1 : (a + 18446744073709551616 * (b + 18446744073709551616 * (c + 18446744073709551616 * d)) - (a' + 18446744073709551616 * (b' + 18446744073709551616 * (c' + 18446744073709551616 * d')))) / 18446744073709551616 = (b - b' - -((a - a' - 0) / 18446744073709551616)) + 18446744073709551616 * ((c - c') + 18446744073709551616 * (d - d')) := by omega
  have e0 : (a + 18446744073709551616 * (b + 18446744073709551616 * (c + 18446744073709551616 * d)) - (a' + 18446744073709551616 * (b' + 18446744073709551616 * (c' + 18446744073709551616 * d')))) % 18446744073709551616 = (a - a' - 0) % 18446744073709551616 := by omega
  rw [e0, e1]
  generalize b - b' - -((a - a' - 0) / 18446744073709551616) = B
  have e2 : (B + 18446744073709551616 * ((c - c') + 18446744073709551616 * (d - d'))) / 18446744073709551616 = (c - c' - -(B / 18446744073709551616)) + 18446744073709551616 * (d - d') := by omega
  rw [e2]
  generalize c - c' - -(B / 18446744073709551616) = C
  exact ⟨rfl, by omega, by omega, by omega⟩
theorem q_below (a b c d : Int) (w : World) : Calls Try.prog 29 #[q4 a b c d] w fun e w' => e = .returned (.bool (shr .u64 d 63 == 1)) ∧ Below w.heap.size w w' := by
  go_enter Try.func29, Try.ntmps29
  go_wp2
  go_ret
  exact ⟨rfl, (Below.refl _ _).alloc (Nat.le_refl _) _⟩
theorem q_of (h l : Int) (w : World) : Calls Try.prog 32 #[.agg #[.int .i64 h, .int .u64 l]] w fun e w' => e = .returned (q4 l (IntKind.u64.wrap h) (IntKind.u64.wrap (h / 9223372036854775808)) (IntKind.u64.wrap (h / 9223372036854775808))) ∧ Below w.heap.size w w' := by
  go_enter Try.func32, Try.ntmps32
  go_wp2
  exact bodyPost_ret (v := q4 l (IntKind.u64.wrap h) (IntKind.u64.wrap (h / 9223372036854775808)) (IntKind.u64.wrap (h / 9223372036854775808))) (by simp [results, Try.results32, go_sem]) rfl ⟨rfl, ((Below.refl _ _).alloc (Nat.le_refl _) _).alloc (by simp) _⟩
theorem q_add (a b c d a' b' c' d' s0 c0 s1 c1 s2 c2 s3 c3 : Int)
    (k0 : ∀ w, (callFunc 35 #[.int .u64 a, .int .u64 a', .int .u64 0]).run Try.prog w = .ok (.value (.tuple #[.int .u64 s0, .int .u64 c0])) w)
    (k1 : ∀ w, (callFunc 35 #[.int .u64 b, .int .u64 b', .int .u64 c0]).run Try.prog w = .ok (.value (.tuple #[.int .u64 s1, .int .u64 c1])) w)
    (k2 : ∀ w, (callFunc 35 #[.int .u64 c, .int .u64 c', .int .u64 c1]).run Try.prog w = .ok (.value (.tuple #[.int .u64 s2, .int .u64 c2])) w)
    (k3 : ∀ w, (callFunc 35 #[.int .u64 d, .int .u64 d', .int .u64 c2]).run Try.prog w = .ok (.value (.tuple #[.int .u64 s3, .int .u64 c3])) w)
    (w : World) : Calls Try.prog 36 #[q4 a b c d, q4 a' b' c' d'] w fun e w' => e = .returned (q4 s0 s1 s2 s3) ∧ Below w.heap.size w w' := by
  go_enter Try.func36, Try.ntmps36
  go_wp2
  refine wp_loop_rounds 5 ?_
  iterate 4
    rw [rounds_succ]
    go_wp2
    go_region
    go_wp2
  rw [rounds_succ]
  go_wp2
  exact bodyPost_ret (v := q4 s0 s1 s2 s3) (by simp [results, Try.results36, go_sem]) rfl ⟨rfl, by repeat (first | (with_reducible first | exact Below.refl _ _ | apply below_alloc | apply pw_below_drewN | apply below_drew1) | exact Below.refl _ _)⟩
theorem q_sub (a b c d a' b' c' d' s0 c0 s1 c1 s2 c2 s3 c3 : Int)
    (k0 : ∀ w, (callFunc 37 #[.int .u64 a, .int .u64 a', .int .u64 0]).run Try.prog w = .ok (.value (.tuple #[.int .u64 s0, .int .u64 c0])) w)
    (k1 : ∀ w, (callFunc 37 #[.int .u64 b, .int .u64 b', .int .u64 c0]).run Try.prog w = .ok (.value (.tuple #[.int .u64 s1, .int .u64 c1])) w)
    (k2 : ∀ w, (callFunc 37 #[.int .u64 c, .int .u64 c', .int .u64 c1]).run Try.prog w = .ok (.value (.tuple #[.int .u64 s2, .int .u64 c2])) w)
    (k3 : ∀ w, (callFunc 37 #[.int .u64 d, .int .u64 d', .int .u64 c2]).run Try.prog w = .ok (.value (.tuple #[.int .u64 s3, .int .u64 c3])) w)
    (w : World) : Calls Try.prog 30 #[q4 a b c d, q4 a' b' c' d'] w fun e w' => e = .returned (q4 s0 s1 s2 s3) ∧ Below w.heap.size w w' := by
  go_enter Try.func30, Try.ntmps30
  go_wp2
  refine wp_loop_rounds 5 ?_
  iterate 4
    rw [rounds_succ]
    go_wp2
    go_region
    go_wp2
  rw [rounds_succ]
  go_wp2
  exact bodyPost_ret (v := q4 s0 s1 s2 s3) (by simp [results, Try.results30, go_sem]) rfl ⟨rfl, by repeat (first | (with_reducible first | exact Below.refl _ _ | apply below_alloc | apply pw_below_drewN | apply below_drew1) | exact Below.refl _ _)⟩
theorem q_add_c {a b c d a' b' c' d' : Int} (h : QOk a b c d) (h' : QOk a' b' c' d') (w : World) : Calls Try.prog 36 #[q4 a b c d, q4 a' b' c' d'] w fun e w' =>
    e = .returned (q4 (q0 (qv a b c d + qv a' b' c' d')) (q1 (qv a b c d + qv a' b' c' d')) (q2 (qv a b c d + qv a' b' c' d')) (q3 (qv a b c d + qv a' b' c' d'))) ∧ Below w.heap.size w w' := by
  obtain ⟨e0, e1, e2, e3⟩ := sum_q h h'
  obtain ⟨⟨a0, a1⟩, ⟨b0, b1⟩, ⟨c0, c1⟩, ⟨d0, d1⟩⟩ := h
  obtain ⟨⟨a0', a1'⟩, ⟨b0', b1'⟩, ⟨c0', c1'⟩, ⟨d0', d1'⟩⟩ := h'
  rw [← e0, ← e1, ← e2, ← e3]
  have u1 : 0 ≤ (a + a' + 0) / 18446744073709551616 ∧ (a + a' + 0) / 18446744073709551616 ≤ 1 := by omega
  generalize hu1 : (a + a' + 0) / 18446744073709551616 = C1 at u1 ⊢
  have u2 : 0 ≤ (b + b' + C1) / 18446744073709551616 ∧ (b + b' + C1) / 18446744073709551616 ≤ 1 := by omega
  generalize hu2 : (b + b' + C1) / 18446744073709551616 = C2 at u2 ⊢
  have u3 : 0 ≤ (c + c' + C2) / 18446744073709551616 ∧ (c + c' + C2) / 18446744073709551616 ≤ 1 := by omega
  generalize hu3 : (c + c' + C2) / 18446744073709551616 = C3 at u3 ⊢
  exact q_add a b c d a' b' c' d' _ C1 _ C2 _ C3 _ _ (fun w => by rw [← hu1]; exact add64_go _ _ _ (by omega) (by omega) (by omega) (by omega) w) (fun w => by rw [← hu2]; exact add64_go _ _ _ (by omega) (by omega) (by omega) (by omega) w)
    (fun w => by rw [← hu3]; exact add64_go _ _ _ (by omega) (by omega) (by omega) (by omega) w) (fun w => add64_go _ _ _ (by omega) (by omega) (by omega) (by omega) w) w
theorem q_sub_c {a b c d a' b' c' d' : Int} (h : QOk a b c d) (h' : QOk a' b' c' d') (w : World) : Calls Try.prog 30 #[q4 a b c d, q4 a' b' c' d'] w fun e w' =>
    e = .returned (q4 (q0 (qv a b c d - qv a' b' c' d')) (q1 (qv a b c d - qv a' b' c' d')) (q2 (qv a b c d - qv a' b' c' d')) (q3 (qv a b c d - qv a' b' c' d'))) ∧ Below w.heap.size w w' := by
  obtain ⟨e0, e1, e2, e3⟩ := dif_q h h'
  obtain ⟨⟨a0, a1⟩, ⟨b0, b1⟩, ⟨c0, c1⟩, ⟨d0, d1⟩⟩ := h
  obtain ⟨⟨a0', a1'⟩, ⟨b0', b1'⟩, ⟨c0', c1'⟩, ⟨d0', d1'⟩⟩ := h'
  rw [← e0, ← e1, ← e2, ← e3]
  have u1 : 0 ≤ -((a - a' - 0) / 18446744073709551616) ∧ -((a - a' - 0) / 18446744073709551616) ≤ 1 := by omega
  generalize hu1 : -((a - a' - 0) / 18446744073709551616) = C1 at u1 ⊢
  have u2 : 0 ≤ -((b - b' - C1) / 18446744073709551616) ∧ -((b - b' - C1) / 18446744073709551616) ≤ 1 := by omega
  generalize hu2 : -((b - b' - C1) / 18446744073709551616) = C2 at u2 ⊢
  have u3 : 0 ≤ -((c - c' - C2) / 18446744073709551616) ∧ -((c - c' - C2) / 18446744073709551616) ≤ 1 := by omega
  generalize hu3 : -((c - c' - C2) / 18446744073709551616) = C3 at u3 ⊢
  exact q_sub a b c d a' b' c' d' _ C1 _ C2 _ C3 _ _ (fun w => by rw [← hu1]; exact sub64_go _ _ _ ⟨by omega, by omega⟩ ⟨by omega, by omega⟩ (by omega) (by omega) w) (fun w => by rw [← hu2]; exact sub64_go _ _ _ ⟨by omega, by omega⟩ ⟨by omega, by omega⟩ (by omega) (by omega) w)
    (fun w => by rw [← hu3]; exact sub64_go _ _ _ ⟨by omega, by omega⟩ ⟨by omega, by omega⟩ (by omega) (by omega) w) (fun w => sub64_go _ _ _ ⟨by omega, by omega⟩ ⟨by omega, by omega⟩ (by omega) (by omega) w) w
end Go.Proofs.Ytbmeokhoebjdbaa.F
end

section
/- Rows of four words as digits to the base 256: plain lists and whole numbers. -/
namespace Go.Proofs.Ytbmeokhoebjdbaa.D8
open Go Go.RowKit Go.Proofs.YtbmeokhoebjdbaaW.PrintWords Go.Proofs.Ytbmeokhoebjdbaa.F
set_option linter.unusedVariables false
theorem mask255 (a : Int) (ha : 0 ≤ a) (ha2 : a < 18446744073709551616) : bits .and .u64 a 255 = a % 256 := by
  obtain ⟨A, rfl⟩ := Int.eq_ofNat_of_zero_le ha
  have h := bits_and_u64_nat A 255 (by omega) (by omega)
  have e : A &&& 255 = A % 256 := Nat.and_two_pow_sub_one_eq_mod A 8
  rw [e] at h
  exact h
/-- The digit at a place. -/
def dd (x : Int) (i : Nat) : Int := x / ((2 ^ (8 * i) : Nat) : Int) % 256
theorem byte_go (x : Int) (x0 : 0 ≤ x) (x1 : x < 18446744073709551616) (i : Nat) (hi : i < 8) : wrap64 (bits .and .u64 (shr .u64 x (IntKind.u64.wrap (wrap64 (8 * (i : Int))))) 255) = dd x i := by
  have e1 : IntKind.u64.wrap (wrap64 (8 * (i : Int))) = ((8 * i : Nat) : Int) := by rw [w64 (by omega) (by omega), IntKind.wrap_u64]; omega
  have e2 : shr .u64 x ((8 * i : Nat) : Int) = x / ((2 ^ (8 * i) : Nat) : Int) := by
    unfold shr
    rw [Int.toNat_natCast, Nat.min_eq_left (by simp [IntKind.bits]; omega)]
    rfl
  have h0 : 0 ≤ x / ((2 ^ (8 * i) : Nat) : Int) := Int.ediv_nonneg x0 (Int.natCast_nonneg _)
  have h1 : x / ((2 ^ (8 * i) : Nat) : Int) ≤ x := Int.ediv_le_self _ x0
  rw [e1, e2, mask255 _ h0 (by omega)]
  unfold dd
  generalize x / ((2 ^ (8 * i) : Nat) : Int) = y
  exact w64 (by omega) (by omega)
theorem dd_bd (x : Int) (i : Nat) : 0 ≤ dd x i ∧ dd x i < 256 := by unfold dd; omega
theorem eight (x : Int) (x0 : 0 ≤ x) (x1 : x < 18446744073709551616) : dd x 0 + 256 * (dd x 1 + 256 * (dd x 2 + 256 * (dd x 3 + 256 * (dd x 4 + 256 * (dd x 5 + 256 * (dd x 6 + 256 * dd x 7)))))) = x := by
  unfold dd
  simp only [Nat.reduceMul, Nat.reducePow, Nat.mul_zero, Nat.pow_zero]
  omega
instance (l : List Int) : Decidable (Dg l) := inferInstanceAs (Decidable (∀ d, d ∈ l → 0 ≤ d ∧ d < 256))
theorem P32 : P 32 = 115792089237316195423570985008687907853269984665640564039457584007913129639936 := by decide
/-- The digits of four words. -/
def qdg (a b c d : Int) : List Int := (List.range 32).map (fun n => dd ([a, b, c, d].getD (n / 8) 0) (n % 8))
theorem qdg_len (a b c d : Int) : (qdg a b c d).length = 32 := by unfold qdg; simp
theorem qdg_get (a b c d : Int) {n : Nat} (hn : n < 32) : (qdg a b c d).getD n 0 = dd ([a, b, c, d].getD (n / 8) 0) (n % 8) := by
  unfold qdg
  simp [List.getD_eq_getElem?_getD, hn]
theorem qdg_dg (a b c d : Int) : Dg (qdg a b c d) := fun x hx => by
  unfold qdg at hx
  obtain ⟨n, _, rfl⟩ := List.mem_map.1 hx
  exact dd_bd _ _
theorem qdg_all (a b c d : Int) : qdg a b c d = [dd a 0, dd a 1, dd a 2, dd a 3, dd a 4, dd a 5, dd a 6, dd a 7, dd b 0, dd b 1, dd b 2, dd b 3, dd b 4, dd b 5, dd b 6, dd b 7, dd c 0, dd c 1, dd c 2, dd c 3, dd c 4, dd c 5, dd c 6, dd c 7, dd d 0, dd d 1, dd d 2, dd d 3, dd d 4, dd d 5, dd d 6, dd d 7] := rfl
theorem qdg_val {a b c d : Int} (h : QOk a b c d) : val (qdg a b c d) = qv a b c d := by
  obtain ⟨⟨a0, a1⟩, ⟨b0, b1⟩, ⟨c0, c1⟩, ⟨d0, d1⟩⟩ := h
  have ea := eight a a0 a1
  have eb := eight b b0 b1
  have ec := eight c c0 c1
  have ed := eight d d0 d1
  rw [qdg_all]
  simp only [val]
  unfold qv
  generalize dd a 0 = a0_ at *
  generalize dd a 1 = a1_ at *
  generalize dd a 2 = a2_ at *
  generalize dd a 3 = a3_ at *
  generalize dd a 4 = a4_ at *
  generalize dd a 5 = a5_ at *
  generalize dd a 6 = a6_ at *
  generalize dd a 7 = a7_ at *
  generalize dd b 0 = b0_ at *
  generalize dd b 1 = b1_ at *
  generalize dd b 2 = b2_ at *
  generalize dd b 3 = b3_ at *
  generalize dd b 4 = b4_ at *
  generalize dd b 5 = b5_ at *
  generalize dd b 6 = b6_ at *
  generalize dd b 7 = b7_ at *
  generalize dd c 0 = c0_ at *
  generalize dd c 1 = c1_ at *
  generalize dd c 2 = c2_ at *
  generalize dd c 3 = c3_ at *
  generalize dd c 4 = c4_ at *
  generalize dd c 5 = c5_ at *
  generalize dd c 6 = c6_ at *
  generalize dd c 7 = c7_ at *
  generalize dd d 0 = d0_ at *
  generalize dd d 1 = d1_ at *
  generalize dd d 2 = d2_ at *
  generalize dd d 3 = d3_ at *
  generalize dd d 4 = d4_ at *
  generalize dd d 5 = d5_ at *
  generalize dd d 6 = d6_ at *
  generalize dd d 7 = d7_ at *
  clear a0 a1 b0 b1 c0 c1 d0 d1
  omega
/-- One digit more is laid. -/
theorem qdg_step (a b c d : Int) {n : Nat} (hn : n < 32) {V : Int} (hV : V = dd ([a, b, c, d].getD (n / 8) 0) (n % 8)) : ((qdg a b c d).take n ++ List.replicate (32 - n) 0).set n V = (qdg a b c d).take (n + 1) ++ List.replicate (32 - (n + 1)) 0 := by
  have hl := qdg_len a b c d
  rw [take_succ' (by omega), qdg_get a b c d hn, ← hV, List.set_append_right _ _ (by simp; omega)]
  rw [show n - ((qdg a b c d).take n).length = 0 by simp; omega, show 32 - n = (32 - (n + 1)) + 1 by omega, List.replicate_succ, List.set_cons_zero, List.append_assoc]
  rfl
end Go.Proofs.Ytbmeokhoebjdbaa.D8
end

section
namespace Go.Proofs.Ytbmeokhoebjdbaa.F
open Go.RowKit Go.Proofs.YtbmeokhoebjdbaaW.PrintWords Go.Proofs.YtbmeokhoebjdbaaW.PrintLast Go.Proofs.YtbmeokhoebjdbaaW.PrintMore
attribute [local go_sem] max2_int min2_int max_two min_two max_three min_three max_four min_four   -- for this text's walks alone
set_option linter.unusedVariables false
set_option linter.unusedSimpArgs false

/-! ### zelligeref01_Of: function 28 -/
def zelligeref01_Of.l0 : Nat → List Int → Int → Int → Int → Option (List Int)
  | 0, _, _, _, _ => none
  | k + 1, x3, x4, x144000, x144001 => if x4 < 8 then (if 0 ≤ (IntKind.u64.wrap (wrap64 (8 * x4))) then (if 0 ≤ x4 then (if x4 < (x3.length : Int) then (if 0 ≤ (wrap64 (8 + x4)) then (if (wrap64 (8 + x4)) < (x3.length : Int) then (zelligeref01_Of.l0 k ((x3.set (x4 : Int).toNat (wrap64 (Go.bits .and .u64 (shr .u64 x144001 (IntKind.u64.wrap (wrap64 (8 * x4)))) 255))).set ((wrap64 (8 + x4)) : Int).toNat (wrap64 (Go.bits .and .u64 (shr .u64 (IntKind.u64.wrap (x144000)) (IntKind.u64.wrap (wrap64 (8 * x4)))) 255))) (wrap64 (x4 + 1)) x144000 x144001) else (none)) else (none)) else (none)) else (none)) else (none)) else (some x3)
def zelligeref01_Of.f (k : Nat) (a0_0 : Int) (a0_1 : Int) : Option (List Int) := if 16 ≤ 35184372088832 then (zelligeref01_Of.l0 k (List.replicate 16 0) 0 a0_0 a0_1) else (none)
theorem zelligeref01_Of.mono_l : ∀ k, (∀ y0 y1 y2 y3, LeO (zelligeref01_Of.l0 k y0 y1 y2 y3) (zelligeref01_Of.l0 (k + 1) y0 y1 y2 y3))
  | 0 => fun _ _ _ _ r h => by simp [zelligeref01_Of.l0] at h
  | k + 1 => by
    have ih0 := zelligeref01_Of.mono_l k
    · intro y0 y1 y2 y3
      unfold zelligeref01_Of.l0
      repeat' first
      | (with_reducible exact ih0 _ _ _ _)
      | (with_reducible exact LeO.refl _)
      | (with_reducible exact LeO.none _)
      | (with_reducible refine LeO.ite ?_ ?_)
      | (with_reducible refine LeO.bind ?_ (fun _ => ?_))
      | exact ih0 _ _ _ _
      | exact LeO.none _
      | refine LeO.ite ?_ ?_
      | refine LeO.bind ?_ (fun _ => ?_)
theorem zelligeref01_Of.mono : ∀ a0 a1 k, LeO (zelligeref01_Of.f k a0 a1) (zelligeref01_Of.f (k + 1) a0 a1) := by
  intro a0 a1 k
  have ih0 := zelligeref01_Of.mono_l k
  unfold zelligeref01_Of.f
  repeat' first
      | (with_reducible exact ih0 _ _ _ _)
      | (with_reducible exact LeO.refl _)
      | (with_reducible exact LeO.none _)
      | (with_reducible refine LeO.ite ?_ ?_)
      | (with_reducible refine LeO.bind ?_ (fun _ => ?_))
      | exact ih0 _ _ _ _
      | exact LeO.none _
      | refine LeO.ite ?_ ?_
      | refine LeO.bind ?_ (fun _ => ?_)
set_option maxHeartbeats 8000000 in
set_option maxRecDepth 100000 in
theorem zelligeref01_Of.calls (k : Nat) (a0_0 : Int) (a0_1 : Int) (r : List Int) (w : World) (h : zelligeref01_Of.f k a0_0 a0_1 = some r) :
    Calls Try.prog 28 #[.agg #[.int .i64 a0_0, .int .u64 a0_1]] w fun e w' => ∃ v0_ : Value, e = .returned (v0_) ∧ Kd.R (Kd.int .i64) 3 w' w.heap.size (fun _ => True) v0_ r ∧ Below w.heap.size w w' := by
  have hu33 := Try.underlying33
  have HB := Aside0.mk (Below.refl w.heap.size w)
  have H : (if 16 ≤ 35184372088832 then (zelligeref01_Of.l0 k (List.replicate 16 0) 0 a0_0 a0_1) else (none)) = some r := h
  clear h
  by_cases c2 : 16 ≤ 35184372088832
  · rw [if_pos c2] at H
    have c2b0 := eq_true c2
    have c2b1 : decide (16 ≤ 35184372088832) = true := decide_eq_true c2
    clear c2
    obtain ⟨y144, hy144⟩ : ∃ y_ : List Int, y_ = (List.replicate 16 0) := ⟨_, rfl⟩
    replace H : (zelligeref01_Of.l0 k y144 0 a0_0 a0_1) = some r := by first | (rw [hy144]; with_reducible exact H) | (have H2_ := (Option.bind_some _ _).symm.trans H; rw [hy144]; with_reducible exact H2_) | (have H2_ := (Option.bind_some _ _).symm.trans H; with_reducible exact H2_) | with_reducible exact H | (rw [hy144]; exact H) | exact H
    have Ny144 := Aside0.mk hy144
    clear hy144
    have H' := Aside0.mk H
    clear H
    go_enter Try.func28, Try.ntmps28
    go_wp2_with (first | ((with_reducible refine gate_dst (N := 1) rfl ?_); refine box_event ?hg (N := 1) ?hd (cs := #[.int .i64 a0_0, .int .u64 a0_1]) (t := 33) ?hr ?_; (case hd => rfl); (case hg => rfl); (case hr => first | (go_simp; done) | (go_simp; rfl)); intro gb143 hg w3 hbox hb; have n0_ := Aside0.mk (below_step (by repeat (first | (with_reducible first | exact HB.out | apply below_alloc | apply pw_below_drewN | apply below_drew1) | exact HB.out)) hb); have n1_ := Aside0.mk (hbox); have n2_ := Aside0.mk ((by rw [hg]; exact (below_size (by repeat (first | (with_reducible first | exact HB.out | apply below_alloc | apply pw_below_drewN | apply below_drew1) | exact HB.out))) : w.heap.size ≤ gb143)); have n3_ := Aside0.mk ((by rw [hg]; exact (below_size (by repeat (first | (with_reducible first | exact HB.out | apply below_alloc | apply pw_below_drewN | apply below_drew1) | exact HB.out))) : w.heap.size ≤ gb143)); clear HB; have HB := n0_; have BK143 := n1_; have GW143 := n2_; have GE143 := n3_; clear n0_ n1_ n2_ n3_; clear hb hbox hg) | ((with_reducible refine gate_dst (N := 5) rfl ?_); refine Kd.R_make (Kd.int .i64) _ 3 rfl (N := 5) rfl 27 _ _ rfl 16 rfl rfl Try.underlying27 (.int .i64 0) 8 info3 rfl (by decide) (by omega) 0 (ok := fun _ => True) (okp := fun _ => True) rfl (fun _ hk => hk) trivial (by omega) (by omega) (Below.refl _ _) (Nat.le_refl _) ?_; intro v145 w4 ho5 hb hg_ hnew_; clear hg_ hnew_; (first | rw [← Ny144.out] at ho5 | (simp only [Int.reduceToNat] at ho5; rw [← Ny144.out] at ho5)); have n0_ := Aside0.mk (Kd.R_lower ho5 (below_size (by repeat (first | (with_reducible first | exact HB.out | apply below_alloc | apply pw_below_drewN | apply below_drew1 | refine below_set ?_ GE143.out) | exact HB.out)))); have n1_ := Aside0.mk (blk_below (g := gb143) (o := .cells #[.int .i64 a0_0, .int .u64 a0_1] 33 (0, 0)) (by (with_reducible repeat (first | refine blk_drewN ?_ _ | refine blk_drew ?_ | refine blk_alloc ?_ _)); exact BK143.out) hb); have n2_ := Aside0.mk (below_step (by repeat (first | (with_reducible first | exact HB.out | apply below_alloc | apply pw_below_drewN | apply below_drew1 | refine below_set ?_ GE143.out) | exact HB.out)) hb); clear BK143; clear HB; have HO146 := n0_; have BK143 := n1_; have HB := n2_; clear n0_ n1_ n2_; clear hb ho5))
    go_loopg [4] k (fun kq v4 w' => ∃ (x3_1 : List Int) (x4_1 : Int), v4 = .int .i64 x4_1 ∧ Aside0 (zelligeref01_Of.l0 kq x3_1 x4_1 a0_0 a0_1 = some r) ∧ Aside0 (kq ≤ k) ∧ Aside0 (Kd.R (Kd.int .i64) 3 w' w.heap.size (fun _ => True) v145 x3_1) ∧ Aside0 (w'.heap[gb143]? = some (.cells #[.int .i64 a0_0, .int .u64 a0_1] 33 (0, 0))) ∧ Aside0 (Below w.heap.size w w'))
    case atStart => exact ⟨(y144), (0), (by first | rfl | (simp; done) | (simp [*]; done)), H', ⟨Nat.le_refl _⟩, ⟨by (with_reducible repeat (first | apply Kd.R_alloc | apply Kd.R_drewN | apply Kd.R_drew)); exact HO146.out⟩, ⟨by (with_reducible repeat (first | refine blk_drewN ?_ _ | refine blk_drew ?_ | refine blk_alloc ?_ _)); exact BK143.out⟩, ⟨by repeat (first | (with_reducible first | exact HB.out | apply below_alloc | apply pw_below_drewN | apply below_drew1 | refine below_set ?_ GE143.out) | exact HB.out)⟩⟩
    case round =>
      clear H'
      try clear c2
      try clear c2b0
      try clear c2b1
      try clear p2
      obtain ⟨x3_1, x4_1, rfl, HA, HK1, HO_3, BK143, HB⟩ := hrel
      cases gk with
      | zero => exact absurd HA.out (by simp [zelligeref01_Of.l0])
      | succ k1 =>
        have H := HA.out
        clear HA
        simp only [zelligeref01_Of.l0] at H
        by_cases c6 : x4_1 < 8
        · rw [if_pos c6] at H
          have c6b0 : decide (x4_1 < 8) = true := decide_eq_true c6
          clear c6
          obtain ⟨ji7, hji7⟩ : ∃ j_ : Int, (IntKind.u64.wrap (wrap64 (8 * x4_1))) = j_ := ⟨_, rfl⟩
          replace H : (if 0 ≤ (ji7) then (if 0 ≤ x4_1 then (if x4_1 < (x3_1.length : Int) then (if 0 ≤ (wrap64 (8 + x4_1)) then (if (wrap64 (8 + x4_1)) < (x3_1.length : Int) then (zelligeref01_Of.l0 k1 ((x3_1.set (x4_1 : Int).toNat (wrap64 (Go.bits .and .u64 (shr .u64 a0_1 (ji7)) 255))).set ((wrap64 (8 + x4_1)) : Int).toNat (wrap64 (Go.bits .and .u64 (shr .u64 (IntKind.u64.wrap (a0_0)) (ji7)) 255))) (wrap64 (x4_1 + 1)) a0_0 a0_1) else (none)) else (none)) else (none)) else (none)) else (none)) = some r := by first | (rw [hji7] at H; exact H) | (simp only [hji7] at H ⊢; exact H)
          by_cases c8 : 0 ≤ (ji7)
          · rw [if_pos c8] at H
            have c8b0 := eq_true c8
            have c8b1 : decide (0 ≤ (ji7)) = true := decide_eq_true c8
            clear c8
            obtain ⟨ji9, hji9⟩ : ∃ j_ : Int, (shr .u64 a0_1 (ji7)) = j_ := ⟨_, rfl⟩
            replace H : (if 0 ≤ x4_1 then (if x4_1 < (x3_1.length : Int) then (if 0 ≤ (wrap64 (8 + x4_1)) then (if (wrap64 (8 + x4_1)) < (x3_1.length : Int) then (zelligeref01_Of.l0 k1 ((x3_1.set (x4_1 : Int).toNat (wrap64 (Go.bits .and .u64 (ji9) 255))).set ((wrap64 (8 + x4_1)) : Int).toNat (wrap64 (Go.bits .and .u64 (shr .u64 (IntKind.u64.wrap (a0_0)) (ji7)) 255))) (wrap64 (x4_1 + 1)) a0_0 a0_1) else (none)) else (none)) else (none)) else (none)) = some r := by first | (rw [hji9] at H; exact H) | (simp only [hji9] at H ⊢; exact H)
            have hji9_ : (a0_1 / 2 ^ min (ji7).toNat 64) = ji9 := hji9
            have hji9z : (ji7) ≤ 64 → (a0_1 / 2 ^ (ji7).toNat) = ji9 := shr_small hji9
            by_cases c10 : 0 ≤ x4_1
            · rw [if_pos c10] at H
              have c10b0 : decide (0 ≤ x4_1) = true := decide_eq_true c10
              clear c10
              by_cases c11 : x4_1 < (x3_1.length : Int)
              · rw [if_pos c11] at H
                have c11b0 : decide (x4_1 < (x3_1.length : Int)) = true := decide_eq_true c11
                clear c11
                obtain ⟨y147, hy147⟩ : ∃ y_ : List Int, y_ = (x3_1.set (x4_1 : Int).toNat (wrap64 (Go.bits .and .u64 (ji9) 255))) := ⟨_, rfl⟩
                replace H : (if 0 ≤ (wrap64 (8 + x4_1)) then (if (wrap64 (8 + x4_1)) < (x3_1.length : Int) then (zelligeref01_Of.l0 k1 (y147.set ((wrap64 (8 + x4_1)) : Int).toNat (wrap64 (Go.bits .and .u64 (shr .u64 (IntKind.u64.wrap (a0_0)) (ji7)) 255))) (wrap64 (x4_1 + 1)) a0_0 a0_1) else (none)) else (none)) = some r := by first | (rw [hy147]; with_reducible exact H) | (have H2_ := (Option.bind_some _ _).symm.trans H; rw [hy147]; with_reducible exact H2_) | (have H2_ := (Option.bind_some _ _).symm.trans H; with_reducible exact H2_) | with_reducible exact H | (rw [hy147]; exact H) | exact H
                have Ny147 := Aside0.mk hy147
                clear hy147
                have c13b0 := eq_true (of_decide_eq_true (by first | (with_reducible assumption) | assumption) : 0 ≤ (ji7))
                obtain ⟨ji14, hji14⟩ : ∃ j_ : Int, (shr .u64 (IntKind.u64.wrap (a0_0)) (ji7)) = j_ := ⟨_, rfl⟩
                replace H : (if 0 ≤ (wrap64 (8 + x4_1)) then (if (wrap64 (8 + x4_1)) < (x3_1.length : Int) then (zelligeref01_Of.l0 k1 (y147.set ((wrap64 (8 + x4_1)) : Int).toNat (wrap64 (Go.bits .and .u64 (ji14) 255))) (wrap64 (x4_1 + 1)) a0_0 a0_1) else (none)) else (none)) = some r := by first | (rw [hji14] at H; exact H) | (simp only [hji14] at H ⊢; exact H)
                have hji14_ : ((IntKind.u64.wrap (a0_0)) / 2 ^ min (ji7).toNat 64) = ji14 := hji14
                have hji14z : (ji7) ≤ 64 → ((IntKind.u64.wrap (a0_0)) / 2 ^ (ji7).toNat) = ji14 := shr_small hji14
                obtain ⟨ji15, hji15⟩ : ∃ j_ : Int, (wrap64 (8 + x4_1)) = j_ := ⟨_, rfl⟩
                replace H : (if 0 ≤ (ji15) then (if (ji15) < (x3_1.length : Int) then (zelligeref01_Of.l0 k1 (y147.set ((ji15) : Int).toNat (wrap64 (Go.bits .and .u64 (ji14) 255))) (wrap64 (x4_1 + 1)) a0_0 a0_1) else (none)) else (none)) = some r := by first | (rw [hji15] at H; exact H) | (simp only [hji15] at H ⊢; exact H)
                have hji15w : (IntKind.i64.wrap (8 + x4_1)) = ji15 := (i64_w _).trans hji15
                by_cases c16 : 0 ≤ (ji15)
                · rw [if_pos c16] at H
                  have c16b0 : decide (0 ≤ (ji15)) = true := decide_eq_true c16
                  clear c16
                  by_cases c17 : (ji15) < (x3_1.length : Int)
                  · rw [if_pos c17] at H
                    have c17b0 : decide ((ji15) < (x3_1.length : Int)) = true := decide_eq_true c17
                    clear c17
                    obtain ⟨y148, hy148⟩ : ∃ y_ : List Int, y_ = (y147.set ((ji15) : Int).toNat (wrap64 (Go.bits .and .u64 (ji14) 255))) := ⟨_, rfl⟩
                    replace H : (zelligeref01_Of.l0 k1 y148 (wrap64 (x4_1 + 1)) a0_0 a0_1) = some r := by first | (rw [hy148]; with_reducible exact H) | (have H2_ := (Option.bind_some _ _).symm.trans H; rw [hy148]; with_reducible exact H2_) | (have H2_ := (Option.bind_some _ _).symm.trans H; with_reducible exact H2_) | with_reducible exact H | (rw [hy148]; exact H) | exact H
                    have Ny148 := Aside0.mk hy148
                    clear hy148
                    have H' := Aside0.mk H
                    clear H
                    have hcz19_0 : wr.cell? ⟨gb143, 0, none⟩ = some (.int .i64 a0_0) := (blk_cell BK143.out 0).trans rfl
                    have hcz19_1 : wr.cell? ⟨gb143, 1, none⟩ = some (.int .u64 a0_1) := (blk_cell BK143.out 1).trans rfl
                    have hfz19_0 := blk_frozen BK143.out 0
                    have hfz19_1 := blk_frozen BK143.out 1
                    have p12 : 0 ≤ (x4_1 : Int) := of_decide_eq_true (by first | (with_reducible assumption) | assumption)
                    have q12 : (x4_1 : Int) < ((x3_1.length : Int) : Int) := of_decide_eq_true (by first | (with_reducible assumption) | assumption)
                    obtain ⟨go12, co12, eo12, gb12, gl12, cl12, HG12⟩ := Kd.R_form HO_3.out (by omega)
                    (first | cases eo12 | (injection eo12 with ea_ en_ ec_; (first | subst ea_ | (injection ea_ with ea_; subst ea_)); subst ec_; clear en_))
                    have GB12 := Aside0.mk gb12
                    have GG12 := Aside0.mk HG12
                    clear gb12 gl12 HG12
                    obtain ⟨hx12_0, hf12_0⟩ := Kd.R_celln 0 HO_3.out (x4_1 : Int) p12 q12
                    replace p12 := eq_true p12
                    replace q12 := eq_true q12
                    have HP20 := Kd.R_putg HO_3.out (x4_1 : Int) (wrap64 (Go.bits .and .u64 (ji9) 255))
                    go_wp2_with (first | ((with_reducible refine gate_store (t := 3) (p := 20) rfl ?_); refine store_event (t := 3) (p := 20) (v := ?vo_w21) (w1 := (wr.setCell ⟨go12, (x4_1 : Int).toNat, none⟩ (.int .i64 (wrap64 (Go.bits .and .u64 (ji9) 255))))) ?hg ?ho ?hn ?hr ?_; (case ho => rfl); (case hg => rfl); (case hn => rfl); (case hr => first | (go_simp; done) | (go_simp; rfl)); intro w21 hw; have hg : wr.grownBy w21 (some go12) := (by rw [hw]; exact HP20.2); have hp_ : Kd.R (Kd.int .i64) 3 w21 w.heap.size (fun _ => True) (.slice (some ⟨go12, 0, none⟩) x3_1.length co12) y147 := (by rw [hw, Ny147.out]; exact HP20.1); clear HP20; have n0_ := Aside0.mk (hp_); have n1_ := Aside0.mk (blk_grown (g := gb143) (o := .cells #[.int .i64 a0_0, .int .u64 a0_1] 33 (0, 0)) (by (with_reducible repeat (first | refine blk_drewN ?_ _ | refine blk_drew ?_ | refine blk_alloc ?_ _)); exact BK143.out) hg (Kd.R_ne HO_3.out BK143.out (by decide))); have n2_ := Aside0.mk ((by rw [hw]; exact below_set (HB.out) GB12.out : Below w.heap.size w w21)); clear HO_3; clear BK143; clear HB; have HO_3 := n0_; have BK143 := n1_; have HB := n2_; clear n0_ n1_ n2_; clear hg hw hp_; have hcz22_0 : w21.cell? ⟨gb143, 0, none⟩ = some (.int .i64 a0_0) := (blk_cell BK143.out 0).trans rfl; have hcz22_1 : w21.cell? ⟨gb143, 1, none⟩ = some (.int .u64 a0_1) := (blk_cell BK143.out 1).trans rfl; have hfz22_0 := blk_frozen BK143.out 0; have hfz22_1 := blk_frozen BK143.out 1; have p18 : 0 ≤ ((ji15) : Int) := of_decide_eq_true (by first | (with_reducible assumption) | assumption); have q18 : ((ji15) : Int) < ((x3_1.length : Int) : Int) := of_decide_eq_true (by first | (with_reducible assumption) | assumption); obtain ⟨hx18_0, hf18_0⟩ := Kd.R_celln 0 HO_3.out ((ji15) : Int) p18 q18; replace p18 := eq_true p18; replace q18 := eq_true q18; obtain ⟨hy23_, hz23_⟩ := Kd.R_celln 0 HO_3.out ((ji15) : Int) (of_decide_eq_true (by first | (with_reducible assumption) | assumption)) (of_decide_eq_true (by first | (with_reducible assumption) | assumption)); have HP23 := Kd.R_putg HO_3.out ((ji15) : Int) (wrap64 (Go.bits .and .u64 (ji14) 255))) | ((with_reducible refine gate_store (t := 3) (p := 33) rfl ?_); refine store_event (t := 3) (p := 33) (v := ?vo_w24) (w1 := (w21.setCell ⟨go12, ((ji15) : Int).toNat, none⟩ (.int .i64 (wrap64 (Go.bits .and .u64 (ji14) 255))))) ?hg ?ho ?hn ?hr ?_; (case ho => rfl); (case hg => rfl); (case hn => rfl); (case hr => first | (go_simp; done) | (go_simp; rfl)); intro w24 hw; have hg : w21.grownBy w24 (some go12) := (by rw [hw]; exact HP23.2); have hp_ : Kd.R (Kd.int .i64) 3 w24 w.heap.size (fun _ => True) (.slice (some ⟨go12, 0, none⟩) x3_1.length co12) y148 := (by rw [hw, Ny148.out]; exact HP23.1); clear HP23; have n0_ := Aside0.mk (hp_); have n1_ := Aside0.mk (blk_grown (g := gb143) (o := .cells #[.int .i64 a0_0, .int .u64 a0_1] 33 (0, 0)) (by (with_reducible repeat (first | refine blk_drewN ?_ _ | refine blk_drew ?_ | refine blk_alloc ?_ _)); exact BK143.out) hg (Kd.R_ne HO_3.out BK143.out (by decide))); have n2_ := Aside0.mk ((by rw [hw]; exact below_set (HB.out) GB12.out : Below w.heap.size w w24)); clear HO_3; clear BK143; clear HB; have HO_3 := n0_; have BK143 := n1_; have HB := n2_; clear n0_ n1_ n2_; clear hg hw hp_))
                    go_roundg k1
                    case measure => have := HK1.out; omega
                    case rel => exact ⟨(y148), (wrap64 (x4_1 + 1)), (by first | rfl | (simp; done) | (simp [*]; done)), H', ⟨by have := HK1.out; omega⟩, ⟨by (with_reducible repeat (first | apply Kd.R_alloc | apply Kd.R_drewN | apply Kd.R_drew)); exact HO_3.out⟩, ⟨by (with_reducible repeat (first | refine blk_drewN ?_ _ | refine blk_drew ?_ | refine blk_alloc ?_ _)); exact BK143.out⟩, ⟨by repeat (first | (with_reducible first | exact HB.out | apply below_alloc | apply pw_below_drewN | apply below_drew1 | refine below_set ?_ GE143.out) | exact HB.out)⟩⟩
                  · rw [if_neg c17] at H
                    exact absurd H (by simp)
                · rw [if_neg c16] at H
                  exact absurd H (by simp)
              · rw [if_neg c11] at H
                exact absurd H (by simp)
            · rw [if_neg c10] at H
              exact absurd H (by simp)
          · rw [if_neg c8] at H
            exact absurd H (by simp)
        · rw [if_neg c6] at H
          have c6b0 : decide (x4_1 < 8) = false := decide_eq_false c6
          clear c6
          obtain rfl := Option.some.inj H
          go_wp2
          go_ret
          exact ⟨_, by first | rfl | (simp [errW_none, errW_some] <;> rfl) | (simp [*, errW_none, errW_some] <;> rfl), by (with_reducible repeat (first | apply Kd.R_alloc | apply Kd.R_drewN | apply Kd.R_drew)); exact HO_3.out, by repeat (first | (with_reducible first | exact HB.out | apply below_alloc | apply pw_below_drewN | apply below_drew1 | refine below_set ?_ GE143.out) | exact HB.out)⟩
  · rw [if_neg c2] at H
    exact absurd H (by simp)

end Go.Proofs.Ytbmeokhoebjdbaa.F
end

section
/- A wide as digits to the base 256 (Of), and the signs and order of digits: plain lists and whole numbers. -/
namespace Go.Proofs.Ytbmeokhoebjdbaa.D8
open Go Go.RowKit Go.Proofs.YtbmeokhoebjdbaaW.PrintWords Go.Proofs.Ytbmeokhoebjdbaa.F
set_option linter.unusedVariables false
theorem P8 : P 8 = 18446744073709551616 := by decide
theorem P16 : P 16 = 340282366920938463463374607431768211456 := by decide
theorem of_step (k : Nat) (l : List Int) (i : Nat) (hi : i < 8) (hl : l.length = 16) (h x : Int) (x0 : 0 ≤ x) (x1 : x < 18446744073709551616) :
    zelligeref01_Of.l0 (k + 1) l (i : Int) h x = zelligeref01_Of.l0 k ((l.set i (dd x i)).set (8 + i) (dd (IntKind.u64.wrap h) i)) ((i + 1 : Nat) : Int) h x := by
  have w := IntKind.wrap_u64 h
  have e1 : (IntKind.u64.wrap (wrap64 (8 * (i : Int)))) = ((8 * i : Nat) : Int) := by rw [w64 (by omega) (by omega), IntKind.wrap_u64]; omega
  have e2 := Aside0.mk (show wrap64 (8 + (i : Int)) = ((8 + i : Nat) : Int) by rw [w64 (by omega) (by omega)]; omega)
  have e3 := Aside0.mk (show wrap64 ((i : Int) + 1) = ((i + 1 : Nat) : Int) by rw [w64 (by omega) (by omega)]; omega)
  have b1 := Aside0.mk (byte_go x x0 x1 i hi)
  have b2 := Aside0.mk (byte_go (IntKind.u64.wrap h) (by omega) (by omega) i hi)
  rw [zelligeref01_Of.l0, if_pos (by omega), if_pos (by rw [e1]; omega), if_pos (by omega), if_pos (by omega), e2.out, if_pos (by omega), if_pos (by omega), b1.out, b2.out, e3.out, Int.toNat_natCast, Int.toNat_natCast]
def digs (h x : Int) : List Int := [dd x 0, dd x 1, dd x 2, dd x 3, dd x 4, dd x 5, dd x 6, dd x 7, dd h 0, dd h 1, dd h 2, dd h 3, dd h 4, dd h 5, dd h 6, dd h 7]
/-- Of: the digits of a wide. -/
theorem rof_f {h x : Int} (ok : WOk h x) {k : Nat} (hk : 9 ≤ k) : ∃ l, zelligeref01_Of.f k h x = some l ∧ l.length = 16 ∧ Dg l ∧ val l = wv h x % P 16 := by
  obtain ⟨⟨h1, h2⟩, x0, x1⟩ := ok
  have w := IntKind.wrap_u64 h
  obtain ⟨k, rfl⟩ : ∃ m, k = m + 9 := ⟨k - 9, by omega⟩
  refine ⟨digs (IntKind.u64.wrap h) x, ?_, rfl, ?_, ?_⟩
  · unfold zelligeref01_Of.f
    rw [if_pos (by omega)]
    have s := fun (k i : Nat) (l : List Int) (hi : i < 8) (hl : l.length = 16) => of_step k l i hi hl h x x0 x1
    rw [show (0 : Int) = ((0 : Nat) : Int) from rfl, show k + 9 = k + 8 + 1 from rfl, s (k + 8) 0 _ (by omega) (by simp), show k + 8 = k + 7 + 1 from rfl, s (k + 7) 1 _ (by omega) (by simp), show k + 7 = k + 6 + 1 from rfl, s (k + 6) 2 _ (by omega) (by simp),
      show k + 6 = k + 5 + 1 from rfl, s (k + 5) 3 _ (by omega) (by simp), show k + 5 = k + 4 + 1 from rfl, s (k + 4) 4 _ (by omega) (by simp), show k + 4 = k + 3 + 1 from rfl, s (k + 3) 5 _ (by omega) (by simp), show k + 3 = k + 2 + 1 from rfl, s (k + 2) 6 _ (by omega) (by simp),
      show k + 2 = k + 1 + 1 from rfl, s (k + 1) 7 _ (by omega) (by simp), zelligeref01_Of.l0, if_neg (by omega)]
    rfl
  · intro d hd
    simp only [digs, List.mem_cons, List.not_mem_nil, or_false] at hd
    rcases hd with rfl | rfl | rfl | rfl | rfl | rfl | rfl | rfl | rfl | rfl | rfl | rfl | rfl | rfl | rfl | rfl <;> exact dd_bd _ _
  · have e1 := eight x x0 x1
    have e2 := eight (IntKind.u64.wrap h) (by omega) (by omega)
    unfold digs
    simp only [val]
    rw [P16]
    unfold wv
    generalize dd x 0 = a0 at *; generalize dd x 1 = a1 at *; generalize dd x 2 = a2 at *; generalize dd x 3 = a3 at *; generalize dd x 4 = a4 at *; generalize dd x 5 = a5 at *; generalize dd x 6 = a6 at *; generalize dd x 7 = a7 at *
    generalize dd (IntKind.u64.wrap h) 0 = b0 at *; generalize dd (IntKind.u64.wrap h) 1 = b1 at *; generalize dd (IntKind.u64.wrap h) 2 = b2 at *; generalize dd (IntKind.u64.wrap h) 3 = b3 at *; generalize dd (IntKind.u64.wrap h) 4 = b4 at *; generalize dd (IntKind.u64.wrap h) 5 = b5 at *; generalize dd (IntKind.u64.wrap h) 6 = b6 at *; generalize dd (IntKind.u64.wrap h) 7 = b7 at *
    omega
def sv (l : List Int) : Int := if 2 * val l < P l.length then val l else val l - P l.length
theorem rbelow_f {l : List Int} (hD : Dg l) (n0 : 0 < l.length) (n1 : l.length ≤ 1000) : zelligeref01_Below.f l = some (decide (P l.length ≤ 2 * val l)) := by
  have e := Aside0.mk (show wrap64 ((l.length : Int) - 1) = ((l.length - 1 : Nat) : Int) by rw [w64 (by omega) (by omega)]; omega)
  unfold zelligeref01_Below.f
  rw [e.out, if_pos (by omega), if_pos (by omega), rd_nat]
  have v := val_take_drop l (l.length - 1) (by omega)
  have v2 := val_drop (l := l) (i := l.length - 1) (by omega)
  rw [val_drop_all (i := l.length - 1 + 1) (by omega)] at v2
  have b := val_lt (Dg_take hD (l.length - 1))
  rw [List.length_take, Nat.min_eq_left (by omega)] at b
  have z := val_nonneg (Dg_take hD (l.length - 1))
  have g := Dg_get hD (l.length - 1)
  have hP : P l.length = 256 * P (l.length - 1) := by
    conv => lhs; rw [show l.length = l.length - 1 + 1 by omega]
    rw [P]
  have pp := P_pos (l.length - 1)
  congr 1
  rw [decide_eq_decide]
  rw [v, v2, hP]
  generalize P (l.length - 1) = p at *
  generalize l.getD (l.length - 1) 0 = d at *
  constructor
  · intro h
    have := Int.mul_le_mul_of_nonneg_left (show (128 : Int) ≤ d + 256 * 0 by omega) (show 0 ≤ p by omega)
    omega
  · intro h
    rcases Int.lt_or_le d 128 with k | k
    · have := Int.mul_le_mul_of_nonneg_left (show d + 256 * 0 ≤ 127 by omega) (show 0 ≤ p by omega)
      omega
    · exact k
theorem rsign_l0 {l : List Int} (hD : Dg l) (n1 : l.length ≤ 1000) : ∀ (d k i : Nat), l.length - i = d → i ≤ l.length → d < k → zelligeref01_Sign.l0 k l (i : Int) = some (if 0 < val (l.drop i) then 1 else 0) := by
  intro d
  induction d with
  | zero =>
    intro k i hd hi hk
    obtain ⟨k, rfl⟩ : ∃ m, k = m + 1 := ⟨k - 1, by omega⟩
    rw [zelligeref01_Sign.l0, if_neg (by omega), val_drop_all (by omega), if_neg (by omega)]
  | succ d ih =>
    intro k i hd hi hk
    obtain ⟨k, rfl⟩ : ∃ m, k = m + 1 := ⟨k - 1, by omega⟩
    have v := val_drop (l := l) (i := i) (by omega)
    have g := Dg_get hD i
    have z := val_nonneg (Dg_drop hD (i + 1))
    have e := Aside0.mk (show wrap64 ((i : Int) + 1) = ((i + 1 : Nat) : Int) by rw [w64 (by omega) (by omega)]; omega)
    rw [zelligeref01_Sign.l0, if_pos (by omega), if_pos (by omega), rd_nat, e.out]
    by_cases h : l.getD i 0 > 0
    · rw [if_pos h, if_pos (by omega)]
    · rw [if_neg h, ih k (i + 1) (by omega) (by omega) (by omega), v]
      congr 1
      by_cases h2 : 0 < val (l.drop (i + 1))
      · rw [if_pos h2, if_pos (by omega)]
      · rw [if_neg h2, if_neg (by omega)]
theorem rsign_f {l : List Int} (hD : Dg l) (n0 : 0 < l.length) (n1 : l.length ≤ 1000) {k : Nat} (hk : 1001 ≤ k) : zelligeref01_Sign.f k l = some (sv l).sign := by
  have z := val_nonneg hD
  have b := val_lt hD
  unfold zelligeref01_Sign.f sv
  rw [rbelow_f hD n0 n1, Option.bind_some]
  by_cases h : P l.length ≤ 2 * val l
  · rw [if_pos (decide_eq_true h), if_neg (by omega), Int.sign_eq_neg_one_of_neg (by omega)]
  · rw [if_neg (by rw [decide_eq_true_eq]; exact h), if_pos (by omega)]
    have := rsign_l0 hD n1 l.length k 0 (by omega) (by omega) (by omega)
    rw [List.drop_zero] at this
    rw [show (0 : Int) = ((0 : Nat) : Int) from rfl, this]
    congr 1
    by_cases h2 : 0 < val l
    · rw [if_pos h2, Int.sign_eq_one_of_pos h2]
    · rw [if_neg h2, show val l = 0 by omega]; rfl
theorem rcmp_l0 {a b : List Int} (ha : Dg a) (hb : Dg b) (hl : a.length = b.length) (na : a.length ≤ 1000) : ∀ (n k : Nat), n ≤ a.length → n + 1 < k → val (a.drop n) = val (b.drop n) →
    zelligeref01_Cmp.l0 k a b ((n : Int) - 1) = some (if val a < val b then -1 else if val a > val b then 1 else 0) := by
  intro n
  induction n with
  | zero =>
    intro k _ hk he
    obtain ⟨k, rfl⟩ : ∃ m, k = m + 1 := ⟨k - 1, by omega⟩
    rw [zelligeref01_Cmp.l0, if_neg (by omega)]
    rw [List.drop_zero, List.drop_zero] at he
    rw [if_neg (by omega), if_neg (by omega)]
  | succ n ih =>
    intro k hn hk he
    obtain ⟨k, rfl⟩ : ∃ m, k = m + 1 := ⟨k - 1, by omega⟩
    have e0 : (((n + 1 : Nat) : Int) - 1) = (n : Int) := by omega
    rw [e0, zelligeref01_Cmp.l0, if_pos (by omega), if_pos (by omega), if_pos (by omega), if_pos (by omega), rd_nat, rd_nat, w64 (x := (n : Int) - 1) (by omega) (by omega)]
    have gA := Dg_get ha n
    have gB := Dg_get hb n
    have eA := val_drop (l := a) (i := n) (by omega)
    have eB := val_drop (l := b) (i := n) (by omega)
    have tA := val_take_drop a n (by omega)
    have tB := val_take_drop b n (by omega)
    have lA := val_lt (Dg_take ha n)
    have lB := val_lt (Dg_take hb n)
    rw [List.length_take, Nat.min_eq_left (by omega)] at lA lB
    have zA := val_nonneg (Dg_take ha n)
    have zB := val_nonneg (Dg_take hb n)
    have hP := P_pos n
    by_cases h1 : a.getD n 0 < b.getD n 0
    · rw [if_pos h1]
      have h3 : P n * (val (b.drop n) - val (a.drop n)) ≥ P n * 1 := Int.mul_le_mul_of_nonneg_left (by omega) (by omega)
      rw [Int.mul_sub] at h3
      rw [if_pos (by omega)]
    · rw [if_neg h1]
      by_cases h2 : a.getD n 0 > b.getD n 0
      · rw [if_pos h2]
        have h3 : P n * (val (a.drop n) - val (b.drop n)) ≥ P n * 1 := Int.mul_le_mul_of_nonneg_left (by omega) (by omega)
        rw [Int.mul_sub] at h3
        rw [if_neg (by omega), if_pos (by omega)]
      · rw [if_neg h2]
        exact ih k (by omega) (by omega) (by omega)
theorem rcmp_f {a b : List Int} (ha : Dg a) (hb : Dg b) (hl : a.length = b.length) (n0 : 0 < a.length) (na : a.length ≤ 1000) {k : Nat} (hk : 2000 ≤ k) : zelligeref01_Cmp.f k a b = some (if sv a < sv b then -1 else if sv b < sv a then 1 else 0) := by
  obtain ⟨k, rfl⟩ : ∃ m, k = m + 2 := ⟨k - 2, by omega⟩
  have zA := val_nonneg ha
  have zB := val_nonneg hb
  have bA := val_lt ha
  have bB := val_lt hb
  have fin : zelligeref01_Cmp.j1 (k + 1) a b false = some (if val a < val b then -1 else if val a > val b then 1 else 0) := by
    have e := Aside0.mk (show wrap64 ((a.length : Int) - 1) = (a.length : Int) - 1 by rw [w64 (by omega) (by omega)])
    rw [zelligeref01_Cmp.j1, if_neg (by decide), e.out]
    exact rcmp_l0 ha hb hl na a.length k (by omega) (by omega) (by rw [val_drop_all (by omega), val_drop_all (by omega)])
  have svn : ∀ l : List Int, P l.length ≤ 2 * val l → sv l = val l - P l.length := fun l h => by unfold sv; rw [if_neg (by omega)]
  have svp : ∀ l : List Int, ¬ P l.length ≤ 2 * val l → sv l = val l := fun l h => by unfold sv; rw [if_pos (by omega)]
  unfold zelligeref01_Cmp.f
  rw [rbelow_f ha n0 na, Option.bind_some, rbelow_f hb (by omega) (by omega)]
  rw [hl] at bA
  by_cases hA : P a.length ≤ 2 * val a
  · rw [if_pos (decide_eq_true hA), Option.bind_some, svn a hA]
    rw [hl] at hA ⊢
    by_cases hB : P b.length ≤ 2 * val b
    · rw [decide_eq_true hB, svn b hB, zelligeref01_Cmp.j0, if_neg (by decide), rbelow_f hb (by omega) (by omega), Option.bind_some, if_pos (decide_eq_true hB), rbelow_f ha n0 na, hl, decide_eq_true hA, Option.bind_some]
      rw [show (!true) = false from rfl, fin]
      congr 1
      by_cases h : val a < val b
      · rw [if_pos h, if_pos (by omega)]
      · rw [if_neg h, if_neg (c := val a - P b.length < val b - P b.length) (by omega)]
        by_cases h2 : val a > val b
        · rw [if_pos h2, if_pos (by omega)]
        · rw [if_neg h2, if_neg (by omega)]
    · rw [decide_eq_false hB, svp b hB, zelligeref01_Cmp.j0, if_pos (by decide), if_pos (by omega)]
  · rw [if_neg (by rw [decide_eq_true_eq]; exact hA), zelligeref01_Cmp.j0, if_neg (by decide), rbelow_f hb (by omega) (by omega), Option.bind_some, svp a hA]
    rw [hl] at hA
    by_cases hB : P b.length ≤ 2 * val b
    · rw [if_pos (decide_eq_true hB), svn b hB, rbelow_f ha n0 na, hl, decide_eq_false hA, Option.bind_some, show (!false) = true from rfl, zelligeref01_Cmp.j1, if_pos rfl, if_neg (by omega), if_pos (by omega)]
    · rw [if_neg (by rw [decide_eq_true_eq]; exact hB), fin, svp b hB]
end Go.Proofs.Ytbmeokhoebjdbaa.D8
end

section
/- quad.Add, Sub, Neg, Of in the print's form. -/
namespace Go.Proofs.Ytbmeokhoebjdbaa.F
open Go Go.RowKit Go.Proofs.YtbmeokhoebjdbaaW.PrintWords Go.Proofs.YtbmeokhoebjdbaaW.PrintLast Go.Proofs.YtbmeokhoebjdbaaW.PrintMore
set_option linter.unusedVariables false
theorem some4 {n r1 r2 r3 r4 : Int} (h : some (qq4 n) = some (r1, r2, r3, r4)) : r1 = q0 n ∧ r2 = q1 n ∧ r3 = q2 n ∧ r4 = q3 n := by
  injection h with h
  unfold qq4 at h
  injection h with h1 h
  injection h with h2 h
  injection h with h3 h4
  exact ⟨h1.symm, h2.symm, h3.symm, h4.symm⟩
def quad_Add.f (a0_0 a0_1 a0_2 a0_3 a1_0 a1_1 a1_2 a1_3 : Int) : Option (Int × Int × Int × Int) := if QOk a0_0 a0_1 a0_2 a0_3 ∧ QOk a1_0 a1_1 a1_2 a1_3 then some (qq4 (qv a0_0 a0_1 a0_2 a0_3 + qv a1_0 a1_1 a1_2 a1_3)) else none
def quad_Sub.f (a0_0 a0_1 a0_2 a0_3 a1_0 a1_1 a1_2 a1_3 : Int) : Option (Int × Int × Int × Int) := if QOk a0_0 a0_1 a0_2 a0_3 ∧ QOk a1_0 a1_1 a1_2 a1_3 then some (qq4 (qv a0_0 a0_1 a0_2 a0_3 - qv a1_0 a1_1 a1_2 a1_3)) else none
def quad_Neg.f (a0_0 a0_1 a0_2 a0_3 : Int) : Option (Int × Int × Int × Int) := if QOk a0_0 a0_1 a0_2 a0_3 then some (qq4 (-qv a0_0 a0_1 a0_2 a0_3)) else none
def quad_Of.f (a0_0 a0_1 : Int) : Option (Int × Int × Int × Int) := if WOk a0_0 a0_1 then some (qq4 (wv a0_0 a0_1)) else none
theorem two_all (w : World) (o0 o1 : Obj) : Below w.heap.size w ((w.alloc o0).alloc o1) := ((Below.refl _ _).alloc (Nat.le_refl _) _).alloc (by simp) _
theorem two_new (w : World) (o0 o1 : Obj) : ((w.alloc o0).alloc o1).heap[w.heap.size + 1]? = some o1 := by have := blk_new (w.alloc o0) o1; simpa using this
theorem three_new (w : World) (o0 o1 o2 : Obj) : (((w.alloc o0).alloc o1).alloc o2).heap[w.heap.size + 1 + 1]? = some o2 := by have := blk_new ((w.alloc o0).alloc o1) o2; simpa using this
theorem three_all (w : World) (o0 o1 o2 : Obj) : Below w.heap.size w (((w.alloc o0).alloc o1).alloc o2) := (two_all w o0 o1).alloc (by simp; omega) _
structure Four (w1 : World) (g : Nat) (t : TypeId) (v0 v1 v2 v3 : Value) : Prop where
  blk : w1.heap[g]? = some (.cells #[v0, v1, v2, v3] t (0, 0))
theorem Four.cells {w1 : World} {g : Nat} {t : TypeId} {v0 v1 v2 v3 : Value} (h : Four w1 g t v0 v1 v2 v3) : (w1.cell? ⟨g, 0, none⟩ = some v0 ∧ w1.cell? ⟨g, 1, none⟩ = some v1 ∧ w1.cell? ⟨g, 2, none⟩ = some v2 ∧ w1.cell? ⟨g, 3, none⟩ = some v3) ∧
    (w1.frozen? ⟨g, 0, none⟩ = false ∧ w1.frozen? ⟨g, 1, none⟩ = false ∧ w1.frozen? ⟨g, 2, none⟩ = false ∧ w1.frozen? ⟨g, 3, none⟩ = false) :=
  ⟨⟨blk_cell h.blk 0, blk_cell h.blk 1, blk_cell h.blk 2, blk_cell h.blk 3⟩, ⟨blk_frozen h.blk 0, blk_frozen h.blk 1, blk_frozen h.blk 2, blk_frozen h.blk 3⟩⟩
theorem Four.put {w1 : World} {g : Nat} {t : TypeId} {v0 v1 v2 v3 : Value} (h : Four w1 g t v0 v1 v2 v3) (u0 u1 u2 u3 : Value) : ((((w1.setCell ⟨g, 0, none⟩ u0).setCell ⟨g, 1, none⟩ u1).setCell ⟨g, 2, none⟩ u2).setCell ⟨g, 3, none⟩ u3).heap[g]? = some (.cells #[u0, u1, u2, u3] t (0, 0)) :=
  blk_put (blk_put (blk_put (blk_put h.blk 0 u0 rfl) 1 u1 rfl) 2 u2 rfl) 3 u3 rfl
theorem put_below {w w1 : World} {g : Nat} (hb : Below w.heap.size w w1) (hg : w.heap.size ≤ g) (u0 u1 u2 u3 : Value) : Below w.heap.size w ((((w1.setCell ⟨g, 0, none⟩ u0).setCell ⟨g, 1, none⟩ u1).setCell ⟨g, 2, none⟩ u2).setCell ⟨g, 3, none⟩ u3) :=
  below_set (below_set (below_set (below_set hb hg) hg) hg) hg
-- GENERATED by wip/gen_quad.py
theorem results_c1 {P : Program} {fn : Func} {p : Tmp} {ty : TypeId} (h : fn.results = #[.cell p ty]) (tmps : Array Value) (w : World) (g : Nat) (t : TypeId) (cs : Array Value) (fr : Nat × Nat) (d : TypeDesc)
    (hp : tmps.getD p undef = .pointer (some ⟨g, 0, none⟩)) (hg : w.heap[g]? = some (.cells cs t fr))
    (hu : P.underlying ty = some d) (hd : (match d with | .struct _ | .array _ _ => true | _ => false) = true) (hi : (P.info? ty).map (·.size) = some cs.size) :
    (results fn tmps).run P w = .ok (.agg cs) w := by
  have hp' : tmps[p]?.getD undef = .pointer (some ⟨g, 0, none⟩) := by simpa using hp
  simp [results, h, hp', asAddr, run_loadVar_row w g t ty cs fr d hg hu hd hi]
theorem quad_Add.calls (a0_0 a0_1 a0_2 a0_3 a1_0 a1_1 a1_2 a1_3 r1 r2 r3 r4 : Int) (w : World) (h : quad_Add.f a0_0 a0_1 a0_2 a0_3 a1_0 a1_1 a1_2 a1_3 = some (r1, r2, r3, r4)) :
    Calls Try.prog 18 #[.agg #[.int .u64 a0_0, .int .u64 a0_1, .int .u64 a0_2, .int .u64 a0_3], .agg #[.int .u64 a1_0, .int .u64 a1_1, .int .u64 a1_2, .int .u64 a1_3]] w fun e w' => e = .returned (.agg #[.int .u64 r1, .int .u64 r2, .int .u64 r3, .int .u64 r4]) ∧ Below w.heap.size w w' := by
  unfold quad_Add.f at h
  by_cases hb : QOk a0_0 a0_1 a0_2 a0_3 ∧ QOk a1_0 a1_1 a1_2 a1_3
  · rw [if_pos hb] at h
    obtain ⟨rfl, rfl, rfl, rfl⟩ := some4 h
    have C := Aside0.mk (q_add_c hb.1 hb.2)
    clear h hb
    go_enter Try.func18, Try.ntmps18
    go_wp2_with (go_at_call 36; refine (C.out _).mono ?_; rintro e w1 ⟨rfl, hb⟩; have F := Aside0.mk (Four.mk (blk_below (three_new w _ _ _) hb)); have HB := Aside0.mk ((three_all w _ _ _).trans (hb.mono (by simp; omega))); clear hb; obtain ⟨⟨z0, z1, z2, z3⟩, f0, f1, f2, f3⟩ := F.out.cells)
    refine bodyPost_ret (results_c1 rfl _ _ (w.heap.size + 1 + 1) 24 _ (0, 0) _ rfl (F.out.put _ _ _ _) Try.underlying24 rfl (by kernel_rfl)) rfl ?_
    exact ⟨rfl, put_below HB.out (by omega) _ _ _ _⟩
  · rw [if_neg hb] at h
    cases h
theorem quad_Sub.calls (a0_0 a0_1 a0_2 a0_3 a1_0 a1_1 a1_2 a1_3 r1 r2 r3 r4 : Int) (w : World) (h : quad_Sub.f a0_0 a0_1 a0_2 a0_3 a1_0 a1_1 a1_2 a1_3 = some (r1, r2, r3, r4)) :
    Calls Try.prog 20 #[.agg #[.int .u64 a0_0, .int .u64 a0_1, .int .u64 a0_2, .int .u64 a0_3], .agg #[.int .u64 a1_0, .int .u64 a1_1, .int .u64 a1_2, .int .u64 a1_3]] w fun e w' => e = .returned (.agg #[.int .u64 r1, .int .u64 r2, .int .u64 r3, .int .u64 r4]) ∧ Below w.heap.size w w' := by
  unfold quad_Sub.f at h
  by_cases hb : QOk a0_0 a0_1 a0_2 a0_3 ∧ QOk a1_0 a1_1 a1_2 a1_3
  · rw [if_pos hb] at h
    obtain ⟨rfl, rfl, rfl, rfl⟩ := some4 h
    have C := Aside0.mk (q_sub_c hb.1 hb.2)
    clear h hb
    go_enter Try.func20, Try.ntmps20
    go_wp2_with (go_at_call 30; refine (C.out _).mono ?_; rintro e w1 ⟨rfl, hb⟩; have F := Aside0.mk (Four.mk (blk_below (three_new w _ _ _) hb)); have HB := Aside0.mk ((three_all w _ _ _).trans (hb.mono (by simp; omega))); clear hb; obtain ⟨⟨z0, z1, z2, z3⟩, f0, f1, f2, f3⟩ := F.out.cells)
    refine bodyPost_ret (results_c1 rfl _ _ (w.heap.size + 1 + 1) 24 _ (0, 0) _ rfl (F.out.put _ _ _ _) Try.underlying24 rfl (by kernel_rfl)) rfl ?_
    exact ⟨rfl, put_below HB.out (by omega) _ _ _ _⟩
  · rw [if_neg hb] at h
    cases h
theorem zero_q : QOk 0 0 0 0 := ⟨⟨by omega, by omega⟩, ⟨by omega, by omega⟩, ⟨by omega, by omega⟩, ⟨by omega, by omega⟩⟩
theorem q_neg_c {a b c d : Int} (h : QOk a b c d) (w : World) : Calls Try.prog 30 #[q4 0 0 0 0, q4 a b c d] w fun e w' =>
    e = .returned (q4 (q0 (-qv a b c d)) (q1 (-qv a b c d)) (q2 (-qv a b c d)) (q3 (-qv a b c d))) ∧ Below w.heap.size w w' := by
  have := q_sub_c zero_q h w
  rw [show qv 0 0 0 0 - qv a b c d = -qv a b c d by rw [show qv 0 0 0 0 = 0 from rfl]; omega] at this
  exact this
theorem quad_Neg.calls (a0_0 a0_1 a0_2 a0_3 r1 r2 r3 r4 : Int) (w : World) (h : quad_Neg.f a0_0 a0_1 a0_2 a0_3 = some (r1, r2, r3, r4)) :
    Calls Try.prog 22 #[.agg #[.int .u64 a0_0, .int .u64 a0_1, .int .u64 a0_2, .int .u64 a0_3]] w fun e w' => e = .returned (.agg #[.int .u64 r1, .int .u64 r2, .int .u64 r3, .int .u64 r4]) ∧ Below w.heap.size w w' := by
  unfold quad_Neg.f at h
  by_cases hb : QOk a0_0 a0_1 a0_2 a0_3
  · rw [if_pos hb] at h
    obtain ⟨rfl, rfl, rfl, rfl⟩ := some4 h
    have C := Aside0.mk (q_neg_c hb)
    clear h hb
    go_enter Try.func22, Try.ntmps22
    go_wp2_with (go_at_call 30; refine (C.out _).mono ?_; rintro e w1 ⟨rfl, hb⟩; have F := Aside0.mk (Four.mk (blk_below (two_new w _ _) hb)); have HB := Aside0.mk ((two_all w _ _).trans (hb.mono (by simp; omega))); clear hb; obtain ⟨⟨z0, z1, z2, z3⟩, f0, f1, f2, f3⟩ := F.out.cells)
    refine bodyPost_ret (results_c1 rfl _ _ (w.heap.size + 1) 24 _ (0, 0) _ rfl (F.out.put _ _ _ _) Try.underlying24 rfl (by kernel_rfl)) rfl ?_
    exact ⟨rfl, put_below HB.out (by omega) _ _ _ _⟩
  · rw [if_neg hb] at h
    cases h
theorem q_of_c {h l : Int} (ok : WOk h l) (w : World) : Calls Try.prog 32 #[.agg #[.int .i64 h, .int .u64 l]] w fun e w' =>
    e = .returned (q4 (q0 (wv h l)) (q1 (wv h l)) (q2 (wv h l)) (q3 (wv h l))) ∧ Below w.heap.size w w' := by
  obtain ⟨⟨h0, h1⟩, l0, l1⟩ := ok
  have e0 : q0 (wv h l) = l := by unfold q0 wv; omega
  have up : (h * 18446744073709551616 + l) / 18446744073709551616 = h := by omega
  have sg : h / 18446744073709551616 = h / 9223372036854775808 ∧ (h / 9223372036854775808 = 0 ∨ h / 9223372036854775808 = -1) := by omega
  have e1 : q1 (wv h l) = IntKind.u64.wrap h := by rw [IntKind.wrap_u64]; unfold q1 wv; omega
  have e2 : q2 (wv h l) = IntKind.u64.wrap (h / 9223372036854775808) := by rw [IntKind.wrap_u64]; unfold q2 wv; rw [up, sg.1]
  have e3 : q3 (wv h l) = IntKind.u64.wrap (h / 9223372036854775808) := by rw [IntKind.wrap_u64]; unfold q3 wv; rw [up, sg.1]; generalize h / 9223372036854775808 = S at sg ⊢; omega
  rw [e0, e1, e2, e3]
  exact q_of h l w
theorem quad_Of.calls (a0_0 a0_1 r1 r2 r3 r4 : Int) (w : World) (h : quad_Of.f a0_0 a0_1 = some (r1, r2, r3, r4)) :
    Calls Try.prog 14 #[.agg #[.int .i64 a0_0, .int .u64 a0_1]] w fun e w' => e = .returned (.agg #[.int .u64 r1, .int .u64 r2, .int .u64 r3, .int .u64 r4]) ∧ Below w.heap.size w w' := by
  unfold quad_Of.f at h
  by_cases hb : WOk a0_0 a0_1
  · rw [if_pos hb] at h
    obtain ⟨rfl, rfl, rfl, rfl⟩ := some4 h
    have C := Aside0.mk (q_of_c hb)
    clear h hb
    go_enter Try.func14, Try.ntmps14
    go_wp2_with (go_at_call 32; refine (C.out _).mono ?_; rintro e w1 ⟨rfl, hb⟩; have F := Aside0.mk (Four.mk (blk_below (two_new w _ _) hb)); have HB := Aside0.mk ((two_all w _ _).trans (hb.mono (by simp; omega))); clear hb; obtain ⟨⟨z0, z1, z2, z3⟩, f0, f1, f2, f3⟩ := F.out.cells)
    refine bodyPost_ret (results_c1 rfl _ _ (w.heap.size + 1) 24 _ (0, 0) _ rfl (F.out.put _ _ _ _) Try.underlying24 rfl (by kernel_rfl)) rfl ?_
    exact ⟨rfl, put_below HB.out (by omega) _ _ _ _⟩
  · rw [if_neg hb] at h
    cases h
end Go.Proofs.Ytbmeokhoebjdbaa.F
end

section
/- '==' of two rows of four words. -/
namespace Go.Proofs.Ytbmeokhoebjdbaa.F
open Go Go.RowKit Go.Proofs.YtbmeokhoebjdbaaW.PrintWords Go.Proofs.YtbmeokhoebjdbaaW.PrintLast Go.Proofs.YtbmeokhoebjdbaaW.PrintMore
set_option linter.unusedVariables false
theorem items_cons {P : Program} {d : Nat} {e : TypeId} {n : Nat} {xs ys : Array Value} {j : Nat} {is : List Nat} {w : World} {a b : Value} {r s : Bool} (ha : (part e xs (j * n)).run P w = .ok a w) (hb : (part e ys (j * n)).run P w = .ok b w) (he : (Op.equalIn d e a b).run P w = .ok r w)
    (hr : (Op.eqItems d e n xs ys is).run P w = .ok s w) : (Op.eqItems d e n xs ys (j :: is)).run P w = .ok (r && s) w := by
  simp only [Op.eqItems, Sem.run_bind, ha, hb, he, Result.andThen_ok]
  cases r
  · simp
  · simpa using hr
theorem items_nil {P : Program} {d : Nat} {e : TypeId} {n : Nat} {xs ys : Array Value} {w : World} : (Op.eqItems d e n xs ys []).run P w = .ok true w := by simp [Op.eqItems]
theorem info22 : ∃ i, Try.prog.info? 22 = some i := by
  rw [← Option.isSome_iff_exists]
  kernel_rfl
theorem quad_eq (d : Nat) (w : World) (x0 y0 : Int) (x1 y1 : Int) (x2 y2 : Int) (x3 y3 : Int) :
    (Op.equalIn (d + 2) 24 (.agg #[.int .u64 x0, .int .u64 x1, .int .u64 x2, .int .u64 x3]) (.agg #[.int .u64 y0, .int .u64 y1, .int .u64 y2, .int .u64 y3])).run Try.prog w = .ok (x0 == y0 && (x1 == y1 && (x2 == y2 && (x3 == y3)))) w := by
  obtain ⟨i, hi⟩ := info22
  have hc : Try.prog.cellsOf 22 = 1 := by kernel_rfl
  rw [run_equalIn_array w (d + 1) _ _ Try.underlying24 hi, hc]
  rw [show (x0 == y0 && (x1 == y1 && (x2 == y2 && (x3 == y3)))) = (x0 == y0 && (x1 == y1 && (x2 == y2 && (x3 == y3 && true)))) by rw [Bool.and_true]]
  refine items_cons (is := [1, 2, 3]) (by go_simp; rfl) (by go_simp; rfl) (by go_simp) ?_
  refine items_cons (is := [2, 3]) (by go_simp; rfl) (by go_simp; rfl) (by go_simp) ?_
  refine items_cons (is := [3]) (by go_simp; rfl) (by go_simp; rfl) (by go_simp) ?_
  exact items_cons (is := []) (by go_simp; rfl) (by go_simp; rfl) (by go_simp) items_nil
end Go.Proofs.Ytbmeokhoebjdbaa.F
end

section
/- quad.Sign and quad.Cmp in the print's form. -/
namespace Go.Proofs.Ytbmeokhoebjdbaa.F
open Go Go.RowKit Go.Proofs.YtbmeokhoebjdbaaW.PrintWords Go.Proofs.YtbmeokhoebjdbaaW.PrintLast Go.Proofs.YtbmeokhoebjdbaaW.PrintMore
set_option linter.unusedVariables false
def quad_Sign.f (a0_0 a0_1 a0_2 a0_3 : Int) : Option Int := if QOk a0_0 a0_1 a0_2 a0_3 then some (if 9223372036854775808 ≤ a0_3 then -1 else if a0_0 = 0 ∧ a0_1 = 0 ∧ a0_2 = 0 ∧ a0_3 = 0 then 0 else 1) else none
theorem q_below_c {a b c d : Int} (h : UOk d) (w : World) : Calls Try.prog 29 #[q4 a b c d] w fun e w' => e = .returned (.bool (decide (9223372036854775808 ≤ d))) ∧ Below w.heap.size w w' := by
  have e : (shr .u64 d 63 == 1) = decide (9223372036854775808 ≤ d) := by
    have : shr .u64 d 63 = d / 9223372036854775808 := rfl
    rw [this, Bool.eq_iff_iff, beq_iff_eq, decide_eq_true_iff]
    omega
  rw [← e]
  exact q_below a b c d w
theorem one_all (w : World) (o : Obj) : Below w.heap.size w (w.alloc o) := (Below.refl _ _).alloc (Nat.le_refl _) _
attribute [local go_sem high] quad_eq in
theorem q_sign_w (a b c d r : Int) (n z : Bool) (C : Aside0 (∀ w : World, Calls Try.prog 29 #[q4 a b c d] w fun e w' => e = .returned (.bool n) ∧ Below w.heap.size w w')) (hz : (a == 0 && (b == 0 && (c == 0 && d == 0))) = z)
    (hr : Aside0 (r = if n = true then -1 else if z = true then 0 else 1)) (w : World) : Calls Try.prog 26 #[q4 a b c d] w fun e w' => e = .returned (.int .i64 r) ∧ Below w.heap.size w w' := by
  have big : ∀ w : World, (Op.equalIn 10000 24 (.agg #[.int .u64 a, .int .u64 b, .int .u64 c, .int .u64 d]) (.agg #[.int .u64 0, .int .u64 0, .int .u64 0, .int .u64 0])).run Try.prog w = .ok z w := fun w => by rw [← hz]; exact quad_eq 9998 w a 0 b 0 c 0 d 0
  have BIG := Aside0.mk big
  clear big hz
  cases n
  · cases z
    · obtain rfl := hr.out
      have hq := BIG.out
      go_enter Try.func26, Try.ntmps26
      go_wp2_with (go_at_call 29; refine (C.out _).mono ?_; rintro e w1 ⟨rfl, hb⟩; have F := Aside0.mk (Four.mk (blk_below (blk_new w _) hb)); have HB := Aside0.mk ((one_all w _).trans (hb.mono (by simp))); clear hb; obtain ⟨⟨z0, z1, z2, z3⟩, f0, f1, f2, f3⟩ := F.out.cells)
      go_ret
      exact ⟨rfl, HB.out⟩
    · obtain rfl := hr.out
      have hq := BIG.out
      go_enter Try.func26, Try.ntmps26
      go_wp2_with (go_at_call 29; refine (C.out _).mono ?_; rintro e w1 ⟨rfl, hb⟩; have F := Aside0.mk (Four.mk (blk_below (blk_new w _) hb)); have HB := Aside0.mk ((one_all w _).trans (hb.mono (by simp))); clear hb; obtain ⟨⟨z0, z1, z2, z3⟩, f0, f1, f2, f3⟩ := F.out.cells)
      go_ret
      exact ⟨rfl, HB.out⟩
  · obtain rfl := hr.out
    go_enter Try.func26, Try.ntmps26
    go_wp2_with (go_at_call 29; refine (C.out _).mono ?_; rintro e w1 ⟨rfl, hb⟩; have F := Aside0.mk (Four.mk (blk_below (blk_new w _) hb)); have HB := Aside0.mk ((one_all w _).trans (hb.mono (by simp))); clear hb; obtain ⟨⟨z0, z1, z2, z3⟩, f0, f1, f2, f3⟩ := F.out.cells)
    go_ret
    exact ⟨rfl, HB.out⟩
theorem quad_Sign.calls (a0_0 a0_1 a0_2 a0_3 r : Int) (w : World) (h : quad_Sign.f a0_0 a0_1 a0_2 a0_3 = some r) :
    Calls Try.prog 26 #[.agg #[.int .u64 a0_0, .int .u64 a0_1, .int .u64 a0_2, .int .u64 a0_3]] w fun e w' => e = .returned (.int .i64 r) ∧ Below w.heap.size w w' := by
  unfold quad_Sign.f at h
  by_cases hb : QOk a0_0 a0_1 a0_2 a0_3
  · rw [if_pos hb] at h
    refine q_sign_w a0_0 a0_1 a0_2 a0_3 r _ _ ⟨q_below_c hb.2.2.2⟩ rfl ⟨?_⟩ w
    rw [← Option.some.inj h]
    simp only [decide_eq_true_eq, Bool.and_eq_true, beq_iff_eq]
  · rw [if_neg hb] at h
    cases h
end Go.Proofs.Ytbmeokhoebjdbaa.F
end

section
/- wide.sub, wide.Neg, quad.apart by hand (for quad.Mul). -/
namespace Go.Proofs.Ytbmeokhoebjdbaa.F
open Go Go.RowKit Go.Proofs.YtbmeokhoebjdbaaW.PrintWords Go.Proofs.YtbmeokhoebjdbaaW.PrintLast Go.Proofs.YtbmeokhoebjdbaaW.PrintMore
set_option linter.unusedVariables false
theorem four_all (w : World) (o0 o1 o2 : Obj) : Below w.heap.size w (((w.alloc o0).alloc o1).alloc o2) := (((Below.refl _ _).alloc (Nat.le_refl _) _).alloc (by simp) _).alloc (by simp; omega) _
set_option maxHeartbeats 1000000 in
theorem w_sub_walk (a0 a1 b0 b1 lo c hi d : Int) (k1 : ∀ w, (callFunc 37 #[.int .u64 a1, .int .u64 b1, .int .u64 0]).run Try.prog w = .ok (.value (.tuple #[.int .u64 lo, .int .u64 c])) w)
    (k2 : ∀ w, (callFunc 37 #[.int .u64 (IntKind.u64.wrap a0), .int .u64 (IntKind.u64.wrap b0), .int .u64 c]).run Try.prog w = .ok (.value (.tuple #[.int .u64 hi, .int .u64 d])) w) (w : World) :
    Calls Try.prog 39 #[.agg #[.int .i64 a0, .int .u64 a1], .agg #[.int .i64 b0, .int .u64 b1]] w fun e w' => e = .returned (.agg #[.int .i64 (wrap64 hi), .int .u64 lo]) ∧ Below w.heap.size w w' := by
  go_enter Try.func39, Try.ntmps39
  go_wp2
  exact bodyPost_ret (v := .agg #[.int .i64 (wrap64 hi), .int .u64 lo]) (by simp [results, Try.results39, go_sem]) rfl ⟨rfl, four_all _ _ _ _⟩
theorem w_neg_c {h l : Int} (ok : WOk h l) (w : World) : Calls Try.prog 39 #[.agg #[.int .i64 0, .int .u64 0], .agg #[.int .i64 h, .int .u64 l]] w fun e w' => e = .returned (.agg #[.int .i64 (whi (-wv h l)), .int .u64 (wlo (-wv h l))]) ∧ Below w.heap.size w w' := by
  obtain ⟨⟨b1, b2⟩, b3, b4⟩ := ok
  have w1 := IntKind.wrap_u64 0
  have w2 := IntKind.wrap_u64 h
  have e1 : wlo (-wv h l) = (0 - l - 0) % 18446744073709551616 := by unfold wlo wv; omega
  have e2 : whi (-wv h l) = wrap64 ((IntKind.u64.wrap 0 - IntKind.u64.wrap h - -((0 - l - 0) / 18446744073709551616)) % 18446744073709551616) := by unfold whi wv wrap64; omega
  rw [e1, e2]
  exact w_sub_walk 0 0 h l _ _ _ _ (fun w => sub64_go 0 l 0 (by omega) (by omega) (by omega) (by omega) w) (fun w => sub64_go _ _ _ (by omega) (by omega) (by omega) (by omega) w) w
structure Two (w1 : World) (g : Nat) (t : TypeId) (v0 v1 : Value) : Prop where
  blk : w1.heap[g]? = some (.cells #[v0, v1] t (0, 0))
theorem Two.cells {w1 : World} {g : Nat} {t : TypeId} {v0 v1 : Value} (h : Two w1 g t v0 v1) : (w1.cell? ⟨g, 0, none⟩ = some v0 ∧ w1.cell? ⟨g, 1, none⟩ = some v1) ∧ (w1.frozen? ⟨g, 0, none⟩ = false ∧ w1.frozen? ⟨g, 1, none⟩ = false) :=
  ⟨⟨blk_cell h.blk 0, blk_cell h.blk 1⟩, ⟨blk_frozen h.blk 0, blk_frozen h.blk 1⟩⟩
theorem blk_set_ne {w : World} {g g' : Nat} {o : Obj} (h : w.heap[g]? = some o) (hne : g' ≠ g) (i : Nat) (u : Value) : (w.setCell ⟨g', i, none⟩ u).heap[g]? = some o := (Below.heap_setCell w ⟨g', i, none⟩ u g (fun e => hne e.symm)).trans h
theorem Two.put {w1 : World} {g : Nat} {t : TypeId} {v0 v1 : Value} (h : Two w1 g t v0 v1) (u0 u1 : Value) : ((w1.setCell ⟨g, 0, none⟩ u0).setCell ⟨g, 1, none⟩ u1).heap[g]? = some (.cells #[u0, u1] t (0, 0)) :=
  blk_put (blk_put h.blk 0 u0 rfl) 1 u1 rfl
theorem w_Neg_w (h l : Int) (r0 r1 : Int) (C : Aside0 (∀ w : World, Calls Try.prog 39 #[.agg #[.int .i64 0, .int .u64 0], .agg #[.int .i64 h, .int .u64 l]] w fun e w' => e = .returned (.agg #[.int .i64 r0, .int .u64 r1]) ∧ Below w.heap.size w w')) (w : World) :
    Calls Try.prog 38 #[.agg #[.int .i64 h, .int .u64 l]] w fun e w' => e = .returned (.agg #[.int .i64 r0, .int .u64 r1]) ∧ Below w.heap.size w w' := by
  go_enter Try.func38, Try.ntmps38
  go_wp2_with (go_at_call 39; refine (C.out _).mono ?_; rintro e w1 ⟨rfl, hb⟩; have F := Aside0.mk (Two.mk (blk_below (two_new w _ _) hb)); have HB := Aside0.mk ((two_all w _ _).trans (hb.mono (by simp; omega))); clear hb; obtain ⟨⟨z0, z1⟩, f0, f1⟩ := F.out.cells)
  refine bodyPost_ret (results_c1 rfl _ _ (w.heap.size + 1) 33 _ (0, 0) _ rfl (F.out.put _ _) Try.underlying33 rfl (by kernel_rfl)) rfl ?_
  exact ⟨rfl, below_set (below_set HB.out (by omega)) (by omega)⟩
theorem q_apart_n (h l : Int) (r0 r1 : Int) (hn : decide (h < 0) = true) (C : Aside0 (∀ w : World, Calls Try.prog 38 #[.agg #[.int .i64 h, .int .u64 l]] w fun e w' => e = .returned (.agg #[.int .i64 r0, .int .u64 r1]) ∧ Below w.heap.size w w')) (w : World) :
    Calls Try.prog 33 #[.agg #[.int .i64 h, .int .u64 l]] w fun e w' => e = .returned (.tuple #[.agg #[.int .u64 r1, .int .u64 (IntKind.u64.wrap r0)], .bool true]) ∧ Below w.heap.size w w' := by
  go_enter Try.func33, Try.ntmps33
  go_wp2_with (go_at_call 38; refine (C.out _).mono ?_; rintro e w1 ⟨rfl, hb⟩; have F := Aside0.mk (Two.mk (blk_below (two_new w _ _) hb)); have G := Aside0.mk (Two.mk (blk_below (blk_alloc (blk_new w _) _) hb)); have HB := Aside0.mk ((two_all w _ _).trans (hb.mono (by simp; omega))); clear hb; obtain ⟨⟨z0, z1⟩, f0, f1⟩ := F.out.cells; obtain ⟨⟨y0, y1⟩, g0, g1⟩ := G.out.cells)
  refine bodyPost_ret (results_ct rfl _ _ (w.heap.size + 1) 57 _ (0, 0) _ rfl (blk_put (blk_put (blk_set_ne (blk_set_ne F.out.blk (by omega) 0 _) (by omega) 1 _) 0 _ rfl) 1 _ rfl) Try.underlying57 rfl (by kernel_rfl)) rfl ?_
  exact ⟨rfl, below_set (below_set (below_set (below_set HB.out (by omega)) (by omega)) (by omega)) (by omega)⟩
theorem q_apart_p (h l : Int) (hn : decide (h < 0) = false) (w : World) :
    Calls Try.prog 33 #[.agg #[.int .i64 h, .int .u64 l]] w fun e w' => e = .returned (.tuple #[.agg #[.int .u64 l, .int .u64 (IntKind.u64.wrap h)], .bool false]) ∧ Below w.heap.size w w' := by
  go_enter Try.func33, Try.ntmps33
  go_wp2
  refine bodyPost_ret (results_ct rfl _ _ (w.heap.size + 1) 57 _ (0, 0) _ rfl (two_new w _ _) Try.underlying57 rfl (by kernel_rfl)) rfl ?_
  exact ⟨rfl, two_all w _ _⟩
/-- The amount of a wide, as two words, and whether it is below nought. -/
theorem q_apart_c {h l : Int} (ok : WOk h l) (w : World) : Calls Try.prog 33 #[.agg #[.int .i64 h, .int .u64 l]] w fun e w' => e = .returned (.tuple #[.agg #[.int .u64 (q0 ((wv h l).natAbs : Int)), .int .u64 (q1 ((wv h l).natAbs : Int))], .bool (decide (wv h l < 0))]) ∧ Below w.heap.size w w' := by
  obtain ⟨⟨h0, h1⟩, l0, l1⟩ := ok
  by_cases n : h < 0
  · have hv : wv h l < 0 := by unfold wv; omega
    have e0 : q0 ((wv h l).natAbs : Int) = wlo (-wv h l) := by unfold q0 wlo; omega
    have e1 : q1 ((wv h l).natAbs : Int) = IntKind.u64.wrap (whi (-wv h l)) := by
      rw [IntKind.wrap_u64]; unfold q1 whi wrap64
      have b : -170141183460469231731687303715884105728 ≤ wv h l := by unfold wv; omega
      generalize wv h l = V at hv b ⊢
      omega
    rw [e0, e1, decide_eq_true hv]
    exact q_apart_n h l _ _ (decide_eq_true n) ⟨w_Neg_w h l _ _ ⟨w_neg_c ⟨⟨h0, h1⟩, l0, l1⟩⟩⟩ w
  · have hv : ¬ wv h l < 0 := by unfold wv; omega
    have e0 : q0 ((wv h l).natAbs : Int) = l := by unfold q0 wv; omega
    have e1 : q1 ((wv h l).natAbs : Int) = IntKind.u64.wrap h := by rw [IntKind.wrap_u64]; unfold q1 wv; omega
    rw [e0, e1, decide_eq_false hv]
    exact q_apart_p h l (decide_eq_false n) w
end Go.Proofs.Ytbmeokhoebjdbaa.F
end

section
namespace Go.Proofs.Ytbmeokhoebjdbaa.F
open Go.RowKit Go.Proofs.YtbmeokhoebjdbaaW.PrintWords Go.Proofs.YtbmeokhoebjdbaaW.PrintLast Go.Proofs.YtbmeokhoebjdbaaW.PrintMore
attribute [local go_sem] max2_int min2_int max_two min_two max_three min_three max_four min_four   -- for this text's walks alone
set_option linter.unusedVariables false
set_option linter.unusedSimpArgs false

/-! ### bits_Mul64: function 34 -/
def bits_Mul64.f (a0 : Int) (a1 : Int) : Option (Int × Int) := some (IntKind.u64.wrap ((IntKind.u64.wrap ((IntKind.u64.wrap ((a0 / 4294967296) * (a1 / 4294967296))) + ((IntKind.u64.wrap ((IntKind.u64.wrap ((a0 / 4294967296) * (Go.bits .and .u64 a1 4294967295))) + ((IntKind.u64.wrap ((Go.bits .and .u64 a0 4294967295) * (Go.bits .and .u64 a1 4294967295))) / 4294967296))) / 4294967296))) + ((IntKind.u64.wrap ((Go.bits .and .u64 (IntKind.u64.wrap ((IntKind.u64.wrap ((a0 / 4294967296) * (Go.bits .and .u64 a1 4294967295))) + ((IntKind.u64.wrap ((Go.bits .and .u64 a0 4294967295) * (Go.bits .and .u64 a1 4294967295))) / 4294967296))) 4294967295) + (IntKind.u64.wrap ((Go.bits .and .u64 a0 4294967295) * (a1 / 4294967296))))) / 4294967296)), IntKind.u64.wrap (a0 * a1))
set_option maxHeartbeats 8000000 in
set_option maxRecDepth 100000 in
theorem bits_Mul64.calls (a0 : Int) (a1 : Int) (r1 : Int) (r2 : Int) (w : World) (h : bits_Mul64.f a0 a1 = some (r1, r2)) :
    Calls Try.prog 34 #[.int .u64 a0, .int .u64 a1] w fun e w' => e = .returned (.tuple #[.int .u64 r1, .int .u64 r2]) ∧ Drawn0 w w' := by
  have H : (some (IntKind.u64.wrap ((IntKind.u64.wrap ((IntKind.u64.wrap ((a0 / 4294967296) * (a1 / 4294967296))) + ((IntKind.u64.wrap ((IntKind.u64.wrap ((a0 / 4294967296) * (Go.bits .and .u64 a1 4294967295))) + ((IntKind.u64.wrap ((Go.bits .and .u64 a0 4294967295) * (Go.bits .and .u64 a1 4294967295))) / 4294967296))) / 4294967296))) + ((IntKind.u64.wrap ((Go.bits .and .u64 (IntKind.u64.wrap ((IntKind.u64.wrap ((a0 / 4294967296) * (Go.bits .and .u64 a1 4294967295))) + ((IntKind.u64.wrap ((Go.bits .and .u64 a0 4294967295) * (Go.bits .and .u64 a1 4294967295))) / 4294967296))) 4294967295) + (IntKind.u64.wrap ((Go.bits .and .u64 a0 4294967295) * (a1 / 4294967296))))) / 4294967296)), IntKind.u64.wrap (a0 * a1))) = some (r1, r2) := h
  clear h
  simp only [Option.some.injEq, Prod.mk.injEq] at H
  obtain ⟨rfl, rfl⟩ := H
  go_enter Try.func34, Try.ntmps34
  go_wp2
  go_ret2
  exact ⟨by first | rfl | (simp; done) | (simp [*]; done), by repeat (first | exact Drawn0.refl _ | apply Drawn0.step)⟩

end Go.Proofs.Ytbmeokhoebjdbaa.F
end

section
/- quad.Mul: the walk through both loops, unrolled. -/
namespace Go.Proofs.Ytbmeokhoebjdbaa.F
open Go Go.RowKit Go.Proofs.YtbmeokhoebjdbaaW.PrintWords Go.Proofs.YtbmeokhoebjdbaaW.PrintLast Go.Proofs.YtbmeokhoebjdbaaW.PrintMore
set_option linter.unusedVariables false
theorem mul_blks {w w1 : World} {o0 o1 o2 : Obj} (hb : Below (((w.alloc o0).alloc o1).alloc o2).heap.size (((w.alloc o0).alloc o1).alloc o2) w1) : w1.heap[w.heap.size + 1]? = some o1 ∧ w1.heap[w.heap.size + 1 + 1]? = some o2 ∧ Below w.heap.size w w1 :=
  ⟨blk_below (blk_alloc (two_new w o0 o1) o2) hb, blk_below (three_new w o0 o1 o2) hb, (three_all w o0 o1 o2).trans (hb.mono (by simp; omega))⟩
theorem one_blk {w w1 : World} {o : Obj} (hb : Below (w.alloc o).heap.size (w.alloc o) w1) : w1.heap[w.heap.size]? = some o ∧ (∀ (g : Nat) (o' : Obj), w.heap[g]? = some o' → w1.heap[g]? = some o') ∧ (∀ v : World, Below v.heap.size v w → Below v.heap.size v w1) :=
  ⟨blk_below (blk_new w o) hb, fun g o' h => blk_below (blk_alloc h o) hb, fun v h => below_step (below_alloc h o) hb⟩
theorem hideW {P : Program} {c : Code} {Q : Exit → Act → World → Prop} {a : Act} {W : World} {T : World → Prop} (h : T W) (k : ∀ w', T w' → c.wp P Q a w') : c.wp P Q a W := k W h
set_option maxHeartbeats 1000000 in
theorem q_mul_w (a0 a1 b0 b1 x0 x1 y0 y1 h00 l00 h01 l01 h10 l10 h11 l11 p1 e1 p2 e2 p3 e3 p4 e4 p5 e5 p6 e6 p7 e7 p8 e8 : Int) (n m : Bool) 
    (A : Aside0 (∀ w : World, Calls Try.prog 33 #[.agg #[.int .i64 a0, .int .u64 a1]] w fun e w' => e = .returned (.tuple #[.agg #[.int .u64 x0, .int .u64 x1], .bool n]) ∧ Below w.heap.size w w'))
    (B : Aside0 (∀ w : World, Calls Try.prog 33 #[.agg #[.int .i64 b0, .int .u64 b1]] w fun e w' => e = .returned (.tuple #[.agg #[.int .u64 y0, .int .u64 y1], .bool m]) ∧ Below w.heap.size w w'))
    (M0 : Aside0 (∀ w : World, Calls Try.prog 34 #[.int .u64 x0, .int .u64 y0] w fun e w' => e = .returned (.tuple #[.int .u64 h00, .int .u64 l00]) ∧ Drawn0 w w'))
    (M1 : Aside0 (∀ w : World, Calls Try.prog 34 #[.int .u64 x0, .int .u64 y1] w fun e w' => e = .returned (.tuple #[.int .u64 h01, .int .u64 l01]) ∧ Drawn0 w w'))
    (M2 : Aside0 (∀ w : World, Calls Try.prog 34 #[.int .u64 x1, .int .u64 y0] w fun e w' => e = .returned (.tuple #[.int .u64 h10, .int .u64 l10]) ∧ Drawn0 w w'))
    (M3 : Aside0 (∀ w : World, Calls Try.prog 34 #[.int .u64 x1, .int .u64 y1] w fun e w' => e = .returned (.tuple #[.int .u64 h11, .int .u64 l11]) ∧ Drawn0 w w'))
    (k1 : ∀ w, (callFunc 35 #[.int .u64 0, .int .u64 l00, .int .u64 0]).run Try.prog w = .ok (.value (.tuple #[.int .u64 p1, .int .u64 e1])) w)
    (k2 : ∀ w, (callFunc 35 #[.int .u64 p1, .int .u64 0, .int .u64 0]).run Try.prog w = .ok (.value (.tuple #[.int .u64 p2, .int .u64 e2])) w)
    (k3 : ∀ w, (callFunc 35 #[.int .u64 0, .int .u64 l01, .int .u64 0]).run Try.prog w = .ok (.value (.tuple #[.int .u64 p3, .int .u64 e3])) w)
    (k4 : ∀ w, (callFunc 35 #[.int .u64 p3, .int .u64 (IntKind.u64.wrap (IntKind.u64.wrap (h00 + e1) + e2)), .int .u64 0]).run Try.prog w = .ok (.value (.tuple #[.int .u64 p4, .int .u64 e4])) w)
    (k5 : ∀ w, (callFunc 35 #[.int .u64 p4, .int .u64 l10, .int .u64 0]).run Try.prog w = .ok (.value (.tuple #[.int .u64 p5, .int .u64 e5])) w)
    (k6 : ∀ w, (callFunc 35 #[.int .u64 p5, .int .u64 0, .int .u64 0]).run Try.prog w = .ok (.value (.tuple #[.int .u64 p6, .int .u64 e6])) w)
    (k7 : ∀ w, (callFunc 35 #[.int .u64 (IntKind.u64.wrap (IntKind.u64.wrap (IntKind.u64.wrap (h01 + e3) + e4))), .int .u64 l11, .int .u64 0]).run Try.prog w = .ok (.value (.tuple #[.int .u64 p7, .int .u64 e7])) w)
    (k8 : ∀ w, (callFunc 35 #[.int .u64 p7, .int .u64 (IntKind.u64.wrap (IntKind.u64.wrap (h10 + e5) + e6)), .int .u64 0]).run Try.prog w = .ok (.value (.tuple #[.int .u64 p8, .int .u64 e8])) w)
    (s1 s2 s3 s4 : Int) (SUB : Aside0 ((n = m → s1 = p2 ∧ s2 = p6 ∧ s3 = p8 ∧ s4 = IntKind.u64.wrap (IntKind.u64.wrap (IntKind.u64.wrap (h11 + e7) + e8))) ∧ (n ≠ m → ∀ w : World, Calls Try.prog 30 #[q4 0 0 0 0, q4 p2 p6 p8 (IntKind.u64.wrap (IntKind.u64.wrap (IntKind.u64.wrap (h11 + e7) + e8)))] w fun e w' => e = .returned (q4 s1 s2 s3 s4) ∧ Below w.heap.size w w')))
    (w : World) : Calls Try.prog 16 #[.agg #[.int .i64 a0, .int .u64 a1], .agg #[.int .i64 b0, .int .u64 b1]] w fun e w' => e = .returned (q4 s1 s2 s3 s4) ∧ Below w.heap.size w w' := by
  go_enter Try.func16, Try.ntmps16
  go_wp2_with (first | (go_at_call 33; with_reducible refine (B.out _).mono ?_; rintro e w2 ⟨rfl, hb⟩; obtain ⟨b1, b2, b3⟩ := one_blk hb; have X := Aside0.mk (Two.mk b1); have G2 := Aside0.mk (Four.mk (b2 _ _ G.out.blk)); have HB2 := Aside0.mk (b3 _ HB.out); clear hb z0 z1 f0 f1 b1 b2 b3; obtain ⟨⟨z0, z1⟩, f0, f1⟩ := X.out.cells; have nw2 : w1.heap.size < w2.heap.size := blk_lt X.out.blk; have nw3 : w.heap.size + 1 + 1 < w2.heap.size := blk_lt G2.out.blk; clear nw1) | (go_at_call 33; with_reducible refine (A.out _).mono ?_; rintro e w1 ⟨rfl, hb⟩; obtain ⟨b1, b2, b3⟩ := mul_blks hb; have F := Aside0.mk (Two.mk b1); have G := Aside0.mk (Four.mk b2); have HB := Aside0.mk b3; clear hb b1 b2 b3; obtain ⟨⟨z0, z1⟩, f0, f1⟩ := F.out.cells; have nw1 : w.heap.size + 1 < w1.heap.size := blk_lt F.out.blk) | fail)
  refine wp_loop_rounds 3 ?_
  rw [rounds_succ]
  go_wp2
  refine wp_loop_rounds 3 ?_
  rw [rounds_succ]
  go_wp2
  go_region_held3 (fun w' => w'.cell? ⟨w1.heap.size, 0, none⟩ = some (.int .u64 x0) ∧ w'.cell? ⟨w2.heap.size, 0, none⟩ = some (.int .u64 y0)) (first | (constructor; all_goals (go_simp; done)) | go_keep | fail) (first | (go_at_call 34; with_reducible refine (M0.out _).mono ?_; rintro e w' ⟨rfl, ⟨nd, rfl⟩⟩) | fail)
  go_wp2
  rw [rounds_succ]
  go_wp2
  go_region_held3 (fun w' => w'.cell? ⟨w1.heap.size, 0, none⟩ = some (.int .u64 x0) ∧ w'.cell? ⟨w2.heap.size, 1, none⟩ = some (.int .u64 y1)) (first | (constructor; all_goals (go_simp; done)) | go_keep | fail) (first | (go_at_call 34; with_reducible refine (M1.out _).mono ?_; rintro e w' ⟨rfl, ⟨ndM1, rfl⟩⟩) | fail)
  go_wp2
  rw [rounds_succ]
  go_wp2
  rw [rounds_succ]
  refine hideW (T := fun w' => Two w' w1.heap.size 57 (.int .u64 x0) (.int .u64 x1) ∧ Two w' w2.heap.size 57 (.int .u64 y0) (.int .u64 y1) ∧ Four w' (w2.heap.size + 1) 24 (.int .u64 p2) (.int .u64 p4) (.int .u64 (IntKind.u64.wrap (IntKind.u64.wrap (IntKind.u64.wrap (h01 + e3) + e4)))) (.int .u64 0) ∧ Four w' (w.heap.size + 1 + 1) 24 (.int .u64 0) (.int .u64 0) (.int .u64 0) (.int .u64 0) ∧ Below w.heap.size w w') ?hid ?_
  case hid =>
    have hs := HB2.out.size
    refine ⟨⟨?_⟩, ⟨?_⟩, ⟨?_⟩, ⟨?_⟩, ?_⟩
    · refine blk_set_ne (blk_set_ne (blk_set_ne (blk_drewN (blk_set_ne (blk_set_ne (blk_drewN (blk_alloc (blk_alloc X.out.blk _) _) _) ?_ _ _) ?_ _ _) _) ?_ _ _) ?_ _ _) ?_ _ _ <;> omega
    · refine blk_set_ne (blk_set_ne (blk_set_ne (blk_drewN (blk_set_ne (blk_set_ne (blk_drewN (blk_alloc (blk_new w2 _) _) _) ?_ _ _) ?_ _ _) _) ?_ _ _) ?_ _ _) ?_ _ _ <;> omega
    · exact blk_put (blk_put (blk_put (blk_drewN (blk_put (blk_put (blk_drewN (two_new w2 _ _) _) 0 _ rfl) 0 _ rfl) _) 1 _ rfl) 1 _ rfl) 2 _ rfl
    · refine blk_set_ne (blk_set_ne (blk_set_ne (blk_drewN (blk_set_ne (blk_set_ne (blk_drewN (blk_alloc (blk_alloc G2.out.blk _) _) _) ?_ _ _) ?_ _ _) _) ?_ _ _) ?_ _ _) ?_ _ _ <;> omega
    · exact below_set (below_set (below_set (pw_below_drewN (below_set (below_set (pw_below_drewN (below_alloc (below_alloc HB2.out _) _) _) (by omega)) (by omega)) _) (by omega)) (by omega)) (by omega)
  clear z0 z1 f0 f1
  rintro w3 ⟨X3, Y3, O3, R3, HB3⟩
  have X4 := Aside0.mk X3; have Y4 := Aside0.mk Y3; have O4 := Aside0.mk O3; have HB4 := Aside0.mk HB3; have R4 := Aside0.mk R3
  clear X3 Y3 O3 HB3 R3
  obtain ⟨⟨z0, z1⟩, f0, f1⟩ := X4.out.cells
  obtain ⟨⟨y0_, y1_⟩, g0, g1⟩ := Y4.out.cells
  obtain ⟨⟨o0, o1, o2, o3⟩, i0, i1, i2, i3⟩ := O4.out.cells
  go_wp2
  refine wp_loop_rounds 3 ?_
  rw [rounds_succ]
  go_wp2
  go_region_held3 (fun w' => w'.cell? ⟨w1.heap.size, 1, none⟩ = some (.int .u64 x1) ∧ w'.cell? ⟨w2.heap.size, 0, none⟩ = some (.int .u64 y0)) (first | (constructor; all_goals (go_simp; done)) | go_keep | fail) (first | (go_at_call 34; with_reducible refine (M2.out _).mono ?_; rintro e w' ⟨rfl, ⟨ndM2, rfl⟩⟩) | fail)
  go_wp2
  rw [rounds_succ]
  go_wp2
  go_region_held3 (fun w' => w'.cell? ⟨w1.heap.size, 1, none⟩ = some (.int .u64 x1) ∧ w'.cell? ⟨w2.heap.size, 1, none⟩ = some (.int .u64 y1)) (first | (constructor; all_goals (go_simp; done)) | go_keep | fail) (first | (go_at_call 34; with_reducible refine (M3.out _).mono ?_; rintro e w' ⟨rfl, ⟨ndM3, rfl⟩⟩) | fail)
  go_wp2
  rw [rounds_succ]
  go_wp2
  rw [rounds_succ]
  refine hideW (T := fun w' => Four w' (w2.heap.size + 1) 24 (.int .u64 p2) (.int .u64 p6) (.int .u64 p8) (.int .u64 (IntKind.u64.wrap (IntKind.u64.wrap (IntKind.u64.wrap (h11 + e7) + e8)))) ∧ Four w' (w.heap.size + 1 + 1) 24 (.int .u64 0) (.int .u64 0) (.int .u64 0) (.int .u64 0) ∧ Below w.heap.size w w') ?hid2 ?_
  case hid2 =>
    refine ⟨⟨?_⟩, ⟨?_⟩, ?_⟩
    · exact blk_put (blk_put (blk_put (blk_drewN (blk_put (blk_put (blk_drewN O4.out.blk _) 1 _ rfl) 1 _ rfl) _) 2 _ rfl) 2 _ rfl) 3 _ rfl
    · refine blk_set_ne (blk_set_ne (blk_set_ne (blk_drewN (blk_set_ne (blk_set_ne (blk_drewN R4.out.blk _) ?_ _ _) ?_ _ _) _) ?_ _ _) ?_ _ _) ?_ _ _ <;> omega
    · have hs := HB2.out.size
      exact below_set (below_set (below_set (pw_below_drewN (below_set (below_set (pw_below_drewN HB4.out _) (by omega)) (by omega)) _) (by omega)) (by omega)) (by omega)
  clear z0 z1 f0 f1 y0_ y1_ g0 g1 o0 o1 o2 o3 i0 i1 i2 i3
  rintro w4 ⟨O5, R5, HB5⟩
  have O6 := Aside0.mk O5; have R6 := Aside0.mk R5; have HB6 := Aside0.mk HB5
  clear O5 R5 HB5
  obtain ⟨⟨o0, o1, o2, o3⟩, i0, i1, i2, i3⟩ := O6.out.cells
  obtain ⟨⟨r0, r1, r2, r3⟩, j0, j1, j2, j3⟩ := R6.out.cells
  by_cases hnm : n = m
  · subst hnm
    obtain ⟨rfl, rfl, rfl, rfl⟩ := SUB.out.1 rfl
    cases n
    · go_wp2
      refine bodyPost_ret (results_c1 rfl _ _ (w.heap.size + 1 + 1) 24 _ (0, 0) _ rfl (R6.out.put _ _ _ _) Try.underlying24 rfl (by kernel_rfl)) rfl ?_
      exact ⟨rfl, put_below HB6.out (by omega) _ _ _ _⟩
    · go_wp2
      refine bodyPost_ret (results_c1 rfl _ _ (w.heap.size + 1 + 1) 24 _ (0, 0) _ rfl (R6.out.put _ _ _ _) Try.underlying24 rfl (by kernel_rfl)) rfl ?_
      exact ⟨rfl, put_below HB6.out (by omega) _ _ _ _⟩
  · have hs := (SUB.out.2 hnm)
    cases n <;> cases m
    · exact absurd rfl hnm
    · go_wp2_with (first | (go_at_call 30; with_reducible refine (hs _).mono ?_; rintro e w5 ⟨rfl, hb⟩; have RR := Aside0.mk (Four.mk (blk_below R6.out.blk hb)); have HB7 := Aside0.mk (below_step HB6.out hb); clear hb r0 r1 r2 r3 j0 j1 j2 j3 o0 o1 o2 o3 i0 i1 i2 i3; obtain ⟨⟨r0, r1, r2, r3⟩, j0, j1, j2, j3⟩ := RR.out.cells) | fail)
      refine bodyPost_ret (results_c1 rfl _ _ (w.heap.size + 1 + 1) 24 _ (0, 0) _ rfl (RR.out.put _ _ _ _) Try.underlying24 rfl (by kernel_rfl)) rfl ?_
      exact ⟨rfl, put_below HB7.out (by omega) _ _ _ _⟩
    · go_wp2_with (first | (go_at_call 30; with_reducible refine (hs _).mono ?_; rintro e w5 ⟨rfl, hb⟩; have RR := Aside0.mk (Four.mk (blk_below R6.out.blk hb)); have HB7 := Aside0.mk (below_step HB6.out hb); clear hb r0 r1 r2 r3 j0 j1 j2 j3 o0 o1 o2 o3 i0 i1 i2 i3; obtain ⟨⟨r0, r1, r2, r3⟩, j0, j1, j2, j3⟩ := RR.out.cells) | fail)
      refine bodyPost_ret (results_c1 rfl _ _ (w.heap.size + 1 + 1) 24 _ (0, 0) _ rfl (RR.out.put _ _ _ _) Try.underlying24 rfl (by kernel_rfl)) rfl ?_
      exact ⟨rfl, put_below HB7.out (by omega) _ _ _ _⟩
    · exact absurd rfl hnm
end Go.Proofs.Ytbmeokhoebjdbaa.F
end

section
/- bits.Mul64, as the print shows it: a product's two words. -/
namespace Go.Proofs.Ytbmeokhoebjdbaa.F
open Go Go.RowKit Go.Proofs.YtbmeokhoebjdbaaW.PrintWords
set_option linter.unusedVariables false
theorem and_mask (a : Int) (ha : 0 ≤ a) (ha2 : a < 18446744073709551616) : bits .and .u64 a 4294967295 = a % 4294967296 := by
  obtain ⟨A, rfl⟩ := Int.eq_ofNat_of_zero_le ha
  have h := bits_and_u64_nat A 4294967295 (by omega) (by omega)
  have e : A &&& 4294967295 = A % 4294967296 := Nat.and_two_pow_sub_one_eq_mod A 32
  rw [e] at h
  exact h
theorem mask_n (a : Nat) (ha : a < 18446744073709551616) : bits .and .u64 (a : Int) 4294967295 = ((a % 4294967296 : Nat) : Int) := by
  rw [and_mask _ (by omega) (by omega)]; omega
theorem wrap_n (a : Nat) (ha : a < 18446744073709551616) : IntKind.u64.wrap (a : Int) = (a : Int) := by rw [IntKind.wrap_u64]; omega
theorem mul64_f {x y : Int} (hx : 0 ≤ x ∧ x < 18446744073709551616) (hy : 0 ≤ y ∧ y < 18446744073709551616) : bits_Mul64.f x y = some (x * y / 18446744073709551616, x * y % 18446744073709551616) := by
  obtain ⟨X, rfl⟩ := Int.eq_ofNat_of_zero_le hx.1
  obtain ⟨Y, rfl⟩ := Int.eq_ofNat_of_zero_le hy.1
  obtain ⟨m1, m2, m3, m4⟩ := Lib.mul64_hi X Y (by omega) (by omega)
  have ba := Lib.half_mul_le (a := X / 4294967296) (b := Y / 4294967296) (by omega) (by omega)
  have bb := Lib.half_mul_le (a := X / 4294967296) (b := Y % 4294967296) (by omega) (by omega)
  have bc := Lib.half_mul_le (a := X % 4294967296) (b := Y / 4294967296) (by omega) (by omega)
  have d1 : ((X : Int)) / 4294967296 = ((X / 4294967296 : Nat) : Int) := by omega
  have d2 : ((Y : Int)) / 4294967296 = ((Y / 4294967296 : Nat) : Int) := by omega
  have e1 : (X : Int) * (Y : Int) / 18446744073709551616 = ((X * Y / 18446744073709551616 : Nat) : Int) := by rw [← Int.natCast_mul]; omega
  have e2 : IntKind.u64.wrap ((X : Int) * (Y : Int)) = (X : Int) * (Y : Int) % 18446744073709551616 := IntKind.wrap_u64 _
  unfold bits_Mul64.f
  rw [e1, e2, mask_n X (by omega), mask_n Y (by omega), d1, d2, ← Int.natCast_mul, ← Int.natCast_mul, ← Int.natCast_mul, ← Int.natCast_mul, ← m4]
  clear e1 e2 d1 d2
  generalize X / 4294967296 * (Y / 4294967296) = p at m4 ba ⊢
  generalize X / 4294967296 * (Y % 4294967296) = q at m2 m3 m4 bb ⊢
  generalize X % 4294967296 * (Y / 4294967296) = r at m3 m4 bc ⊢
  generalize X % 4294967296 * (Y % 4294967296) = s at m1 m2 m3 m4 ⊢
  have f1 : ((s : Int)) / 4294967296 = ((s / 4294967296 : Nat) : Int) := by omega
  have f2 : (q : Int) + ((s / 4294967296 : Nat) : Int) = ((q + s / 4294967296 : Nat) : Int) := by omega
  have f3 : ((q + s / 4294967296 : Nat) : Int) / 4294967296 = (((q + s / 4294967296) / 4294967296 : Nat) : Int) := by omega
  have f4 : (((q + s / 4294967296) % 4294967296 : Nat) : Int) + (r : Int) = (((q + s / 4294967296) % 4294967296 + r : Nat) : Int) := by omega
  have f5 : (((q + s / 4294967296) % 4294967296 + r : Nat) : Int) / 4294967296 = ((((q + s / 4294967296) % 4294967296 + r) / 4294967296 : Nat) : Int) := by omega
  rw [wrap_n s m1, f1, wrap_n q (by omega), f2, wrap_n _ m2, f3, mask_n _ m2, wrap_n r (by omega), f4, wrap_n _ m3, f5, wrap_n p (by omega)]
  have hlt : p + (q + s / 4294967296) / 4294967296 + ((q + s / 4294967296) % 4294967296 + r) / 4294967296 < 18446744073709551616 := by
    rw [m4]
    have hXY : X * Y < 18446744073709551616 * 18446744073709551616 := Nat.mul_lt_mul_of_lt_of_lt (by omega) (by omega)
    omega
  have f6 : (p : Int) + (((q + s / 4294967296) / 4294967296 : Nat) : Int) = ((p + (q + s / 4294967296) / 4294967296 : Nat) : Int) := by omega
  have f7 : ((p + (q + s / 4294967296) / 4294967296 : Nat) : Int) + ((((q + s / 4294967296) % 4294967296 + r) / 4294967296 : Nat) : Int) = ((p + (q + s / 4294967296) / 4294967296 + ((q + s / 4294967296) % 4294967296 + r) / 4294967296 : Nat) : Int) := by omega
  rw [f6, wrap_n _ (by omega), f7, wrap_n _ hlt]
end Go.Proofs.Ytbmeokhoebjdbaa.F
end

section
/- quad.Mul in the print's form: the product of two wides, as four words. -/
namespace Go.Proofs.Ytbmeokhoebjdbaa.F
open Go Go.RowKit Go.Proofs.YtbmeokhoebjdbaaW.PrintWords Go.Proofs.YtbmeokhoebjdbaaW.PrintLast Go.Proofs.YtbmeokhoebjdbaaW.PrintMore
set_option linter.unusedVariables false
def quad_Mul.f (a0_0 a0_1 a1_0 a1_1 : Int) : Option (Int × Int × Int × Int) := if WOk a0_0 a0_1 ∧ WOk a1_0 a1_1 then some (qq4 (wv a0_0 a0_1 * wv a1_0 a1_1)) else none
/-- The words of a product, column by column. -/
theorem mul_cols {h00 l00 h01 l01 h10 l10 h11 l11 T : Int} (a : UOk h00) (a' : UOk l00) (b : UOk h01) (b' : UOk l01) (c : UOk h10) (c' : UOk l10) (d : UOk h11) (d' : UOk l11)
    (m00 : h00 ≤ 18446744073709551614) (m01 : h01 ≤ 18446744073709551614) (m10 : h10 ≤ 18446744073709551614) (m11 : h11 ≤ 18446744073709551614)
    (hT : T = l00 + 18446744073709551616 * (h00 + l01 + l10) + 340282366920938463463374607431768211456 * (h01 + h10 + l11) + 6277101735386680763835789423207666416102355444464034512896 * h11)
    (hlt : T < 115792089237316195423570985008687907853269984665640564039457584007913129639936) {p4 e4 p5 e5 p7 e7 p8 e8 c1 c2 : Int}
    (k4 : p4 = (l01 + h00) % 18446744073709551616) (j4 : e4 = (l01 + h00) / 18446744073709551616) (hc1 : c1 = h01 + e4)
    (k5 : p5 = (p4 + l10) % 18446744073709551616) (j5 : e5 = (p4 + l10) / 18446744073709551616) (hc2 : c2 = h10 + e5)
    (k7 : p7 = (c1 + l11) % 18446744073709551616) (j7 : e7 = (c1 + l11) / 18446744073709551616)
    (k8 : p8 = (p7 + c2) % 18446744073709551616) (j8 : e8 = (p7 + c2) / 18446744073709551616) :
    h11 + e7 + e8 < 18446744073709551616 ∧ T = qv l00 p5 p8 (h11 + e7 + e8) := by
  have r : T = qv l00 p5 p8 (h11 + e7 + e8) := by unfold qv; omega
  refine ⟨?_, r⟩
  rw [r] at hlt
  unfold qv at hlt
  omega
theorem prod_hi {x y : Int} (hx : UOk x) (hy : UOk y) : (0 ≤ x * y / 18446744073709551616 ∧ x * y / 18446744073709551616 ≤ 18446744073709551614) ∧ UOk (x * y % 18446744073709551616) := by
  obtain ⟨X, rfl⟩ := Int.eq_ofNat_of_zero_le hx.1
  obtain ⟨Y, rfl⟩ := Int.eq_ofNat_of_zero_le hy.1
  have h1 : X * Y ≤ 18446744073709551615 * 18446744073709551615 := Nat.mul_le_mul (by have := hx.2; omega) (by have := hy.2; omega)
  have h2 : (X : Int) * (Y : Int) = ((X * Y : Nat) : Int) := by rw [Int.natCast_mul]
  rw [h2]
  generalize X * Y = Z at h1 ⊢
  exact ⟨⟨by omega, by omega⟩, by omega, by omega⟩
theorem one_add (l : Int) (h : UOk l) : (0 + l + 0) % 18446744073709551616 = l ∧ (0 + l + 0) / 18446744073709551616 = 0 ∧ (l + 0 + 0) % 18446744073709551616 = l ∧ (l + 0 + 0) / 18446744073709551616 = 0 := by
  obtain ⟨h0, h1⟩ := h
  exact ⟨by omega, by omega, by omega, by omega⟩
theorem mul_amounts (A B : Nat) (n m : Bool) (hA : (A : Int) ≤ 170141183460469231731687303715884105728) (hB : (B : Int) ≤ 170141183460469231731687303715884105728) (a0 a1 b0 b1 : Int) (R : Int) (hR : R = if n = m then (A : Int) * B else -((A : Int) * B))
    (HA : ∀ w : World, Calls Try.prog 33 #[.agg #[.int .i64 a0, .int .u64 a1]] w fun e w' => e = .returned (.tuple #[.agg #[.int .u64 (q0 A), .int .u64 (q1 A)], .bool n]) ∧ Below w.heap.size w w')
    (HB : ∀ w : World, Calls Try.prog 33 #[.agg #[.int .i64 b0, .int .u64 b1]] w fun e w' => e = .returned (.tuple #[.agg #[.int .u64 (q0 B), .int .u64 (q1 B)], .bool m]) ∧ Below w.heap.size w w')
    (w : World) : Calls Try.prog 16 #[.agg #[.int .i64 a0, .int .u64 a1], .agg #[.int .i64 b0, .int .u64 b1]] w fun e w' => e = .returned (q4 (q0 R) (q1 R) (q2 R) (q3 R)) ∧ Below w.heap.size w w' := by
  have ux0 : UOk (q0 A) := by unfold q0; omega
  have ux1 : UOk (q1 A) := by unfold q1; omega
  have uy0 : UOk (q0 B) := by unfold q0; omega
  have uy1 : UOk (q1 B) := by unfold q1; omega
  have eA : (A : Int) = q0 A + 18446744073709551616 * q1 A := by unfold q0 q1; omega
  have eB : (B : Int) = q0 B + 18446744073709551616 * q1 B := by unfold q0 q1; omega
  have hlt : (A : Int) * B < 115792089237316195423570985008687907853269984665640564039457584007913129639936 := by
    have h1 : A * B ≤ 170141183460469231731687303715884105728 * 170141183460469231731687303715884105728 := Nat.mul_le_mul (by omega) (by omega)
    have h2 : (A : Int) * (B : Int) = ((A * B : Nat) : Int) := by rw [Int.natCast_mul]
    rw [h2]; generalize A * B = Z at h1 ⊢; omega
  have hT : (A : Int) * B = q0 A * q0 B + 18446744073709551616 * (q0 A * q1 B) + 18446744073709551616 * (q1 A * q0 B) + 340282366920938463463374607431768211456 * (q1 A * q1 B) := by
    have e : (A : Int) * B = (q0 A + 18446744073709551616 * q1 A) * (q0 B + 18446744073709551616 * q1 B) := by rw [← eA, ← eB]
    rw [e, Int.add_mul, Int.mul_add, Int.mul_add]
    have f1 : q0 (A : Int) * (18446744073709551616 * q1 (B : Int)) = 18446744073709551616 * (q0 A * q1 B) := by rw [← Int.mul_assoc, Int.mul_comm (q0 (A : Int)), Int.mul_assoc]
    have f2 : 18446744073709551616 * q1 (A : Int) * q0 (B : Int) = 18446744073709551616 * (q1 A * q0 B) := by rw [Int.mul_assoc]
    have f3 : 18446744073709551616 * q1 (A : Int) * (18446744073709551616 * q1 (B : Int)) = 340282366920938463463374607431768211456 * (q1 A * q1 B) := by
      rw [Int.mul_assoc, ← Int.mul_assoc (q1 (A : Int)), Int.mul_comm (q1 (A : Int)), Int.mul_assoc, ← Int.mul_assoc]; rfl
    rw [f1, f2, f3]; omega
  obtain ⟨a1_, a2_⟩ := prod_hi ux0 uy0
  obtain ⟨b1_, b2_⟩ := prod_hi ux0 uy1
  obtain ⟨c1_, c2_⟩ := prod_hi ux1 uy0
  obtain ⟨d1_, d2_⟩ := prod_hi ux1 uy1
  have M0 := fun w => bits_Mul64.calls (q0 A) (q0 B) _ _ w (mul64_f ux0 uy0)
  have M1 := fun w => bits_Mul64.calls (q0 A) (q1 B) _ _ w (mul64_f ux0 uy1)
  have M2 := fun w => bits_Mul64.calls (q1 A) (q0 B) _ _ w (mul64_f ux1 uy0)
  have M3 := fun w => bits_Mul64.calls (q1 A) (q1 B) _ _ w (mul64_f ux1 uy1)
  have z00 : q0 (A : Int) * q0 B = q0 A * q0 B % 18446744073709551616 + 18446744073709551616 * (q0 A * q0 B / 18446744073709551616) := by omega
  have z01 : q0 (A : Int) * q1 B = q0 A * q1 B % 18446744073709551616 + 18446744073709551616 * (q0 A * q1 B / 18446744073709551616) := by omega
  have z10 : q1 (A : Int) * q0 B = q1 A * q0 B % 18446744073709551616 + 18446744073709551616 * (q1 A * q0 B / 18446744073709551616) := by omega
  have z11 : q1 (A : Int) * q1 B = q1 A * q1 B % 18446744073709551616 + 18446744073709551616 * (q1 A * q1 B / 18446744073709551616) := by omega
  rw [z00, z01, z10, z11] at hT
  generalize q0 (A : Int) * q0 B / 18446744073709551616 = h00 at *
  generalize q0 (A : Int) * q0 B % 18446744073709551616 = l00 at *
  generalize q0 (A : Int) * q1 B / 18446744073709551616 = h01 at *
  generalize q0 (A : Int) * q1 B % 18446744073709551616 = l01 at *
  generalize q1 (A : Int) * q0 B / 18446744073709551616 = h10 at *
  generalize q1 (A : Int) * q0 B % 18446744073709551616 = l10 at *
  generalize q1 (A : Int) * q1 B / 18446744073709551616 = h11 at *
  generalize q1 (A : Int) * q1 B % 18446744073709551616 = l11 at *
  clear z00 z01 z10 z11 eA eB
  obtain ⟨p4, k4⟩ : ∃ z, z = (l01 + h00) % 18446744073709551616 := ⟨_, rfl⟩
  obtain ⟨e4, j4⟩ : ∃ z, z = (l01 + h00) / 18446744073709551616 := ⟨_, rfl⟩
  obtain ⟨p5, k5⟩ : ∃ z, z = (p4 + l10) % 18446744073709551616 := ⟨_, rfl⟩
  obtain ⟨e5, j5⟩ : ∃ z, z = (p4 + l10) / 18446744073709551616 := ⟨_, rfl⟩
  obtain ⟨p7, k7⟩ : ∃ z, z = (h01 + e4 + l11) % 18446744073709551616 := ⟨_, rfl⟩
  obtain ⟨e7, j7⟩ : ∃ z, z = (h01 + e4 + l11) / 18446744073709551616 := ⟨_, rfl⟩
  obtain ⟨p8, k8⟩ : ∃ z, z = (p7 + (h10 + e5)) % 18446744073709551616 := ⟨_, rfl⟩
  obtain ⟨e8, j8⟩ : ∃ z, z = (p7 + (h10 + e5)) / 18446744073709551616 := ⟨_, rfl⟩
  obtain ⟨s, e⟩ := mul_cols (T := (A : Int) * B) ⟨a1_.1, by omega⟩ a2_ ⟨b1_.1, by omega⟩ b2_ ⟨c1_.1, by omega⟩ c2_ ⟨d1_.1, by omega⟩ d2_ a1_.2 b1_.2 c1_.2 d1_.2 (by rw [hT]; omega) hlt k4 j4 rfl k5 j5 rfl k7 j7 k8 j8
  have w1 : IntKind.u64.wrap (IntKind.u64.wrap (h00 + 0) + 0) = h00 := by rw [IntKind.wrap_u64, IntKind.wrap_u64]; omega
  have w2 : IntKind.u64.wrap (IntKind.u64.wrap (IntKind.u64.wrap (h01 + 0) + e4)) = h01 + e4 := by rw [IntKind.wrap_u64, IntKind.wrap_u64, IntKind.wrap_u64]; omega
  have w3 : IntKind.u64.wrap (IntKind.u64.wrap (h10 + e5) + 0) = h10 + e5 := by rw [IntKind.wrap_u64, IntKind.wrap_u64]; omega
  have w4 : IntKind.u64.wrap (IntKind.u64.wrap (IntKind.u64.wrap (h11 + e7) + e8)) = h11 + e7 + e8 := by rw [IntKind.wrap_u64, IntKind.wrap_u64, IntKind.wrap_u64]; omega
  have u4 : UOk p4 := by omega
  have u5 : UOk p5 := by omega
  have u7 : UOk p7 := by omega
  have u8 : UOk p8 := by omega
  have uc : UOk (h01 + e4) := by omega
  have ud : UOk (h10 + e5) := by omega
  have us : UOk (h11 + e7 + e8) := by omega
  have qo : QOk l00 p5 p8 (h11 + e7 + e8) := ⟨a2_, u5, u8, us⟩
  have A64 := fun (x y : Int) (hx : UOk x) (hy : UOk y) (w : World) => add64_go x y 0 hx.1 hy.1 (by omega) (by omega) w
  obtain ⟨o1, o2, o3, o4⟩ := one_add l00 a2_
  obtain ⟨o5, o6, _, _⟩ := one_add l01 b2_
  obtain ⟨_, _, o7, o8⟩ := one_add p5 u5
  have z0 : UOk 0 := ⟨by omega, by omega⟩
  refine q_mul_w a0 a1 b0 b1 (q0 A) (q1 A) (q0 B) (q1 B) h00 l00 h01 l01 h10 l10 h11 l11 l00 0 l00 0 l01 0 p4 e4 p5 e5 p5 0 p7 e7 p8 e8 n m ⟨HA⟩ ⟨HB⟩ ⟨M0⟩ ⟨M1⟩ ⟨M2⟩ ⟨M3⟩ ?_ ?_ ?_ ?_ ?_ ?_ ?_ ?_ _ _ _ _ ⟨?_, ?_⟩ w
  · intro w; have := A64 0 l00 z0 a2_ w; rw [o1, o2] at this; exact this
  · intro w; have := A64 l00 0 a2_ z0 w; rw [o3, o4] at this; exact this
  · intro w; have := A64 0 l01 z0 b2_ w; rw [o5, o6] at this; exact this
  · intro w; rw [w1]; have := A64 l01 h00 b2_ ⟨a1_.1, by omega⟩ w; rw [show l01 + h00 + 0 = l01 + h00 by omega, ← k4, ← j4] at this; exact this
  · intro w; have := A64 p4 l10 u4 c2_ w; rw [show p4 + l10 + 0 = p4 + l10 by omega, ← k5, ← j5] at this; exact this
  · intro w; have := A64 p5 0 u5 z0 w; rw [o7, o8] at this; exact this
  · intro w; rw [w2]; have := A64 (h01 + e4) l11 uc d2_ w; rw [show h01 + e4 + l11 + 0 = h01 + e4 + l11 by omega, ← k7, ← j7] at this; exact this
  · intro w; rw [w3]; have := A64 p7 (h10 + e5) u7 ud w; rw [show p7 + (h10 + e5) + 0 = p7 + (h10 + e5) by omega, ← k8, ← j8] at this; exact this
  · intro hn
    rw [if_pos hn] at hR
    obtain ⟨v0, v1, v2, v3⟩ := q_back qo
    rw [hR, e, w4]
    exact ⟨v0, v1, v2, v3⟩
  · intro hn w
    rw [if_neg hn, e] at hR
    rw [hR, w4]
    exact q_neg_c qo w
theorem quad_Mul.calls (a0_0 a0_1 a1_0 a1_1 r1 r2 r3 r4 : Int) (w : World) (h : quad_Mul.f a0_0 a0_1 a1_0 a1_1 = some (r1, r2, r3, r4)) :
    Calls Try.prog 16 #[.agg #[.int .i64 a0_0, .int .u64 a0_1], .agg #[.int .i64 a1_0, .int .u64 a1_1]] w fun e w' => e = .returned (.agg #[.int .u64 r1, .int .u64 r2, .int .u64 r3, .int .u64 r4]) ∧ Below w.heap.size w w' := by
  unfold quad_Mul.f at h
  by_cases hb : WOk a0_0 a0_1 ∧ WOk a1_0 a1_1
  · rw [if_pos hb] at h
    obtain ⟨rfl, rfl, rfl, rfl⟩ := some4 h
    have bA : ((wv a0_0 a0_1).natAbs : Int) ≤ 170141183460469231731687303715884105728 := by have := hb.1; unfold wv; omega
    have bB : ((wv a1_0 a1_1).natAbs : Int) ≤ 170141183460469231731687303715884105728 := by have := hb.2; unfold wv; omega
    refine mul_amounts (wv a0_0 a0_1).natAbs (wv a1_0 a1_1).natAbs _ _ bA bB a0_0 a0_1 a1_0 a1_1 (wv a0_0 a0_1 * wv a1_0 a1_1) ?_ (q_apart_c hb.1) (q_apart_c hb.2) w
    rw [← Int.natCast_mul, ← Int.natAbs_mul]
    generalize wv a0_0 a0_1 = U
    generalize wv a1_0 a1_1 = V
    rcases (show U < 0 ∨ 0 ≤ U by omega) with u | u <;> rcases (show V < 0 ∨ 0 ≤ V by omega) with v | v
    · have : 0 ≤ U * V := Int.mul_nonneg_of_nonpos_of_nonpos (by omega) (by omega)
      rw [decide_eq_true u, decide_eq_true v, if_pos rfl]; omega
    · have : U * V ≤ 0 := Int.mul_nonpos_of_nonpos_of_nonneg (by omega) v
      rw [decide_eq_true u, decide_eq_false (by omega), if_neg (by simp)]; omega
    · have : U * V ≤ 0 := Int.mul_nonpos_of_nonneg_of_nonpos u (by omega)
      rw [decide_eq_false (by omega), decide_eq_true v, if_neg (by simp)]; omega
    · have : 0 ≤ U * V := Int.mul_nonneg u v
      rw [decide_eq_false (by omega), decide_eq_false (by omega), if_pos rfl]; omega
  · rw [if_neg hb] at h
    cases h
end Go.Proofs.Ytbmeokhoebjdbaa.F
end

section
/- Hexadecimal digits of a number: plain numbers and lists. -/
namespace Go.Proofs.Ytbmeokhoebjdbaa.F
open Go Go.RowKit Go.Proofs.YtbmeokhoebjdbaaW.PrintWords
set_option linter.unusedVariables false
/-- A digit's letter. -/
def hdig (d : Nat) : Nat := if d < 10 then 48 + d else 87 + d
/-- The last n digits, as letters. -/
def hchars (N : Nat) : Nat → List Int
  | 0 => []
  | n + 1 => ((hdig (N / 16 ^ n % 16) : Nat) : Int) :: hchars N n
def bcells (l : List Int) : Array Value := (l.map (Value.int .u8)).toArray
theorem hchars_len (N n : Nat) : (hchars N n).length = n := by
  induction n with
  | zero => rfl
  | succ n ih => rw [hchars, List.length_cons, ih]
/-- How many digits a number has. -/
def hlen (N : Nat) : Nat := if N < 16 then 1 else hlen (N / 16) + 1
  termination_by N
  decreasing_by omega
theorem hlen_ok (N : Nat) : 1 ≤ hlen N ∧ N / 16 ^ hlen N = 0 ∧ ∀ n, n < hlen N → 1 ≤ n → ¬ N / 16 ^ n = 0 := by
  induction N using Nat.strongRecOn with
  | ind N ih =>
    rw [hlen]
    by_cases h : N < 16
    · rw [if_pos h]
      exact ⟨by omega, by omega, fun n h1 h2 => by omega⟩
    · rw [if_neg h]
      obtain ⟨h1, h2, h3⟩ := ih (N / 16) (by omega)
      refine ⟨by omega, ?_, fun n hn h4 => ?_⟩
      · rw [Nat.pow_succ, Nat.mul_comm, ← Nat.div_div_eq_div_mul]; exact h2
      · obtain ⟨n, rfl⟩ : ∃ m, n = m + 1 := ⟨n - 1, by omega⟩
        rw [Nat.pow_succ, Nat.mul_comm, ← Nat.div_div_eq_div_mul]
        rcases Nat.eq_zero_or_pos n with h5 | h5
        · subst h5; rw [Nat.pow_zero, Nat.div_one]; omega
        · exact h3 n (by omega) h5
theorem div_pow16 (N n : Nat) : N / 16 ^ n / 16 = N / 16 ^ (n + 1) := by rw [Nat.div_div_eq_div_mul, Nat.pow_succ]
theorem hlen_le {N : Nat} (hN : N < 16 ^ 64) : hlen N ≤ 64 := by
  obtain ⟨h1, h2, h3⟩ := hlen_ok N
  rcases Nat.lt_or_ge 64 (hlen N) with h | h
  · exact absurd (Nat.div_eq_of_lt hN) (h3 64 h (by omega))
  · exact h
theorem bcells_put66 {n : Nat} (hn : n < 66) (l : List Int) (v : Int) :
    (bcells (List.replicate (66 - n) 0 ++ l)).setIfInBounds (65 - n) (.int .u8 v) = bcells (List.replicate (66 - (n + 1)) 0 ++ (v :: l)) := by
  unfold bcells
  rw [List.setIfInBounds_toArray]
  congr 1
  rw [show 66 - n = (65 - n) + 1 by omega, List.replicate_succ', List.append_assoc, show 66 - (n + 1) = 65 - n by omega, List.map_append, List.map_append, List.set_append_right _ _ (by simp)]
  simp
theorem bcells_at66 {n : Nat} (hn : n ≤ 66) (l : List Int) (hl : l.length = n) {j : Nat} (hj : j < n) : (bcells (List.replicate (66 - n) 0 ++ l))[66 - n + j]? = some (.int .u8 (l.getD j 0)) := by
  unfold bcells
  simp [hl, hj, List.getD_eq_getElem?_getD]
theorem bcells_get66 {n i : Nat} (l : List Int) (hi : i < 66 - n) : (bcells (List.replicate (66 - n) 0 ++ l))[i]? = some (.int .u8 0) := by
  unfold bcells
  simp [List.getElem?_append_left, hi]
/-- The text of a number with its sign. -/
def hext (z : Int) : ByteArray := strOfNums (if z < 0 then 45 :: hchars z.natAbs (hlen z.natAbs) else hchars z.natAbs (hlen z.natAbs))
/-- A shift by four, word by word. -/
theorem shift_word {x y : Int} (hx : UOk x) (hy : UOk y) : bits .or .u64 (x / 16) (y * 1152921504606846976 % 18446744073709551616) = x / 16 + y % 16 * 1152921504606846976 := by
  obtain ⟨X, rfl⟩ := Int.eq_ofNat_of_zero_le hx.1
  obtain ⟨Y, rfl⟩ := Int.eq_ofNat_of_zero_le hy.1
  have hx1 := hx.2
  have e1 : (X : Int) / 16 = ((X / 16 : Nat) : Int) := by omega
  have e2 : (Y : Int) * 1152921504606846976 % 18446744073709551616 = ((Y % 16 * 1152921504606846976 : Nat) : Int) := by omega
  have h1 : X / 16 < 2 ^ 60 := by omega
  rw [e1, e2, bits_or_u64_nat _ _ (by omega) (by omega), Nat.or_comm]
  have e3 : Y % 16 * 1152921504606846976 = (Y % 16) <<< 60 := by rw [Nat.shiftLeft_eq]
  rw [e3, ← Nat.shiftLeft_add_eq_or_of_lt h1, ← e3]
  omega
theorem shift_words (M : Nat) (hM : (M : Int) < 115792089237316195423570985008687907853269984665640564039457584007913129639936) : q0 ((M / 16 : Nat) : Int) = q0 M / 16 + q1 M % 16 * 1152921504606846976 ∧ q1 ((M / 16 : Nat) : Int) = q1 M / 16 + q2 M % 16 * 1152921504606846976 ∧
    q2 ((M / 16 : Nat) : Int) = q2 M / 16 + q3 M % 16 * 1152921504606846976 ∧ q3 ((M / 16 : Nat) : Int) = q3 M / 16 := by
  obtain ⟨⟨a0, a1⟩, ⟨b0, b1⟩, ⟨c0, c1⟩, ⟨d0, d1⟩⟩ := q_ok (M : Int)
  have e : (M : Int) = qv (q0 M) (q1 M) (q2 M) (q3 M) := by unfold qv q0 q1 q2 q3; omega
  have n : (((M / 16 : Nat) : Int)) = qv (q0 M / 16 + q1 M % 16 * 1152921504606846976) (q1 M / 16 + q2 M % 16 * 1152921504606846976) (q2 M / 16 + q3 M % 16 * 1152921504606846976) (q3 M / 16) := by
    rw [show (((M / 16 : Nat) : Int)) = (M : Int) / 16 by omega]
    unfold qv at e ⊢
    generalize q0 (M : Int) = a at *; generalize q1 (M : Int) = b at *; generalize q2 (M : Int) = c at *; generalize q3 (M : Int) = d at *
    rw [e]; clear e hM
    omega
  rw [n]
  exact q_back ⟨⟨by omega, by omega⟩, ⟨by omega, by omega⟩, ⟨by omega, by omega⟩, ⟨by omega, by omega⟩⟩
theorem words_zero (M : Nat) (hM : (M : Int) < 115792089237316195423570985008687907853269984665640564039457584007913129639936) : (q0 (M : Int) == 0 && (q1 (M : Int) == 0 && (q2 (M : Int) == 0 && (q3 (M : Int) == 0)))) = decide (M = 0) := by
  rw [Bool.eq_iff_iff]
  simp only [Bool.and_eq_true, beq_iff_eq, decide_eq_true_eq]
  constructor
  · rintro ⟨h0, h1, h2, h3⟩; unfold q0 q1 q2 q3 at *; omega
  · rintro rfl; exact ⟨rfl, rfl, rfl, rfl⟩
end Go.Proofs.Ytbmeokhoebjdbaa.F
end
