/- Near: the rings, one after the other, up to the first cell that is not empty. -/
import Derived.Test.YtfangodjmppooaaAbout
import Derived.Test.YtfangodjmppooaaGridN
import Derived.RangeFuncFrom
namespace Go.Proofs.Ytfangodjmppooaa.Rd
open Go Go.RowKit Go.Proofs.YtfangodjmppooaaW.PrintWords Go.Proofs.YtfangodjmppooaaW.PrintLast Go.Proofs.YtfangodjmppooaaW.PrintMore Go.Proofs.Ytfangodjmppooaa.F
attribute [local go_sem] Oper.semAt_some
set_option linter.unusedVariables false
set_option linter.unusedSimpArgs false
/-- Whatever is cells lies as it lay. -/
def CK (W W' : World) : Prop := ∀ (k : Nat) (cs : Array Value) (t : TypeId), W.heap[k]? = some (.cells cs t (0, 0)) → W'.heap[k]? = some (.cells cs t (0, 0))
theorem CK.refl (W : World) : CK W W := fun _ _ _ h => h
theorem CK.trans {A B C : World} (h : CK A B) (k : CK B C) : CK A C := fun i cs t hi => k i cs t (h i cs t hi)
theorem CK.below {W W' : World} (h : Below W.heap.size W W') : CK W W' := fun k cs t hk => blk_below hk h
theorem CK.drew (W : World) : CK W W.drew := fun _ _ _ h => h
theorem CK.grown {W W' : World} {row : Option Nat} (hg : W.grownBy W' row) (hr : ∀ r, row = some r → ∃ o : Obj, W.heap[r]? = some o ∧ o.isCells = false) : CK W W' := fun k cs t hk => blk_grown hk hg (fun e => by
  obtain ⟨o, h1, h2⟩ := hr k e.symm
  rw [hk] at h1
  cases h1
  cases h2)
abbrev mark (D : Nat) : Deferred := { target := .collected D, args := #[] }
theorem leaves_marks {P : Program} {fn : Func} {tmps : Array Value} {R : Ending → World → Prop} (n n0 : Nat) (ds : List Nat) : ∀ W : World, (∀ D, D ∈ ds → n0 ≤ D ∧ W.heap[D]? = some (.deferred (some []))) → ds.Nodup → n0 ≤ W.heap.size →
    (∀ W', Below n0 W W' → CK W W' → ∃ v, (results fn tmps).run P W' = .ok v W' ∧ R (.returned v) W') → LeavesInM Fence.wide n P fn tmps R (ds.map mark) .returning W := by
  induction ds with
  | nil => exact fun W _ _ _ h => h W (Below.refl _ _) (CK.refl _)
  | cons D ds ih =>
    intro W hD hn h0 h
    have hd := hD D List.mem_cons_self
    have hg := grownBy_putObj' W D (.deferred none)
    have hbl : Below n0 W (W.putObj D (.deferred none)) := (Below.refl n0 W).grown hg h0 (fun k e => by cases e; exact hd.1)
    refine ⟨by simp, .inl ⟨D, _, rfl, run_takeDeferred hd.2, ?_⟩⟩
    refine ih _ (fun D' hD' => ⟨(hD D' (List.mem_cons_of_mem _ hD')).1, ?_⟩) (List.nodup_cons.1 hn).2 (Nat.le_trans h0 hbl.size) (fun W' hb hc => h W' (hbl.trans hb) ((CK.grown hg (fun r e => by cases e; exact ⟨_, hd.2, rfl⟩)).trans hc))
    rw [World.putObj_heap_other (fun e => (List.nodup_cons.1 hn).1 (by subst e; exact hD'))]
    exact (hD D' (List.mem_cons_of_mem _ hD')).2
/-- slices.Min of this row is v. -/
def MinOk (h len c : Nat) (hc : Array Value) (v : Int) : Prop := ∀ W : World, W.heap[h]? = some (.cells hc 3 (0, 0)) → Calls Try.prog 23 #[.slice (some ⟨h, 0, none⟩) len c] W fun e W' => e = .returned (.int .i64 v) ∧ W' = W
def hit (n x y : Int) (mins : Nat → Option Int) (q : Int × Int) : Option Int := mins (idx n (x + Int.tmod q.1 n) (y + Int.tmod q.2 n)).toNat
/-- What Near answers. -/
def NearR (n x y : Int) (mins : Nat → Option Int) (r : Int) : Prop :=
  (∃ (f : Nat) (pre : List (Int × Int)) (p : Int × Int), (f : Int) ≤ n ∧ pre ++ [p] <+: ring f ∧ (∀ f' : Nat, f' < f → ∀ q ∈ ring f', hit n x y mins q = none) ∧ (∀ q ∈ pre, hit n x y mins q = none) ∧ hit n x y mins p = some r) ∨
  (r = -1 ∧ ∀ f : Nat, (f : Int) ≤ n → ∀ q ∈ ring f, hit n x y mins q = none)
structure NF (g b b2 b4 b5 b6 : Nat) (side n m x y : Int) (M : Nat) (cs : Array Value) (mins : Nat → Option Int) (W : World) : Prop where
  mk :: (out : W.heap[b2]? = some (.cells #[.pointer (some ⟨g, 0, none⟩)] 26 (0, 0)) ∧ W.heap[b4]? = some (.cells #[.int .i64 0] 3 (0, 0)) ∧ W.heap[b5]? = some (.cells #[.int .i64 x] 3 (0, 0)) ∧ W.heap[b6]? = some (.cells #[.int .i64 y] 3 (0, 0)) ∧
    W.heap[g]? = some (.cells #[.int .i64 side, .int .i64 n, .slice (some ⟨b, 0, none⟩) M M, .int .i64 m] 48 (0, 0)) ∧ W.heap[b]? = some (.cells cs 57 (0, 0)) ∧
    (∀ j v, mins j = some v → ∃ (h len c : Nat) (hc : Array Value), cs[j]? = some (.slice (some ⟨h, 0, none⟩) len c) ∧ 0 < len ∧ W.heap[h]? = some (.cells hc 3 (0, 0)) ∧ MinOk h len c hc v))
theorem NF.keep {g b b2 b4 b5 b6 : Nat} {side n m x y : Int} {M : Nat} {cs : Array Value} {mins : Nat → Option Int} {W W' : World} (h : NF g b b2 b4 b5 b6 side n m x y M cs mins W) (k : CK W W') : NF g b b2 b4 b5 b6 side n m x y M cs mins W' := by
  obtain ⟨a1, a2, a3, a4, a5, a6, a7⟩ := h.out
  refine ⟨k _ _ _ a1, k _ _ _ a2, k _ _ _ a3, k _ _ _ a4, k _ _ _ a5, k _ _ _ a6, fun j v hj => ?_⟩
  obtain ⟨h, len, c, hc, e1, e2, e3, e4⟩ := a7 j v hj
  exact ⟨h, len, c, hc, e1, e2, k _ _ _ e3, e4⟩
theorem NF.cells {g b b2 b4 b5 b6 : Nat} {side n m x y : Int} {M : Nat} {cs : Array Value} {mins : Nat → Option Int} {W : World} (h : NF g b b2 b4 b5 b6 side n m x y M cs mins W) :
    W.cell? ⟨b2, 0, none⟩ = some (.pointer (some ⟨g, 0, none⟩)) ∧ W.cell? ⟨b4, 0, none⟩ = some (.int .i64 0) ∧ W.frozen? ⟨b4, 0, none⟩ = false ∧ W.cell? ⟨b5, 0, none⟩ = some (.int .i64 x) ∧ W.cell? ⟨b6, 0, none⟩ = some (.int .i64 y) ∧ W.cell? ⟨g, 1, none⟩ = some (.int .i64 n) ∧ W.cell? ⟨g, 2, none⟩ = some (.slice (some ⟨b, 0, none⟩) M M) ∧ W.cell? ⟨g, 3, none⟩ = some (.int .i64 m) :=
  ⟨(blk_cell h.out.1 0).trans rfl, (blk_cell h.out.2.1 0).trans rfl, blk_frozen h.out.2.1 0, (blk_cell h.out.2.2.1 0).trans rfl, (blk_cell h.out.2.2.2.1 0).trans rfl, (blk_cell h.out.2.2.2.2.1 1).trans rfl, (blk_cell h.out.2.2.2.2.1 2).trans rfl, (blk_cell h.out.2.2.2.2.1 3).trans rfl⟩
theorem NF.start {g b : Nat} {side n m x y px py : Int} {M : Nat} {cs : Array Value} {mins : Nat → Option Int} {w w2 : World}
    (hb2 : Below (((w.alloc (.cells #[.pointer (some ⟨g, 0, none⟩)] 26)).alloc (.cells #[.int .i64 px, .int .i64 py] 23)).alloc (.cells #[.int .i64 0] 3)).heap.size (((w.alloc (.cells #[.pointer (some ⟨g, 0, none⟩)] 26)).alloc (.cells #[.int .i64 px, .int .i64 py] 23)).alloc (.cells #[.int .i64 0] 3)) w2)
    (hg : w.heap[g]? = some (.cells #[.int .i64 side, .int .i64 n, .slice (some ⟨b, 0, none⟩) M M, .int .i64 m] 48 (0, 0))) (hb : w.heap[b]? = some (.cells cs 57 (0, 0)))
    (hrows : ∀ j v, mins j = some v → ∃ (h len c : Nat) (hc : Array Value), cs[j]? = some (.slice (some ⟨h, 0, none⟩) len c) ∧ 0 < len ∧ w.heap[h]? = some (.cells hc 3 (0, 0)) ∧ MinOk h len c hc v) :
    NF g b w.heap.size (w.heap.size + 1 + 1) w2.heap.size (w2.heap.size + 1) side n m x y M cs mins ((w2.alloc (.cells #[.int .i64 x] 3)).alloc (.cells #[.int .i64 y] 3)) := by
  have s1 : (w.alloc (.cells #[.pointer (some ⟨g, 0, none⟩)] 26)).heap.size = w.heap.size + 1 := World.size_alloc _ _
  have s2 : ((w.alloc (.cells #[.pointer (some ⟨g, 0, none⟩)] 26)).alloc (.cells #[.int .i64 px, .int .i64 py] 23)).heap.size = w.heap.size + 1 + 1 := by rw [World.size_alloc, s1]
  have n4 := blk_new ((w.alloc (.cells #[.pointer (some ⟨g, 0, none⟩)] 26)).alloc (.cells #[.int .i64 px, .int .i64 py] 23)) (.cells #[.int .i64 0] 3)
  rw [s2] at n4
  have s3 : (w2.alloc (.cells #[.int .i64 x] 3)).heap.size = w2.heap.size + 1 := World.size_alloc _ _
  have n6 := blk_new (w2.alloc (.cells #[.int .i64 x] 3)) (.cells #[.int .i64 y] 3)
  rw [s3] at n6
  have up : ∀ {k : Nat} {o : Obj}, w.heap[k]? = some o → ((w2.alloc (.cells #[.int .i64 x] 3)).alloc (.cells #[.int .i64 y] 3)).heap[k]? = some o := fun h => blk_alloc (blk_alloc (blk_below (blk_alloc (blk_alloc (blk_alloc h _) _) _) hb2) _) _
  refine ⟨blk_alloc (blk_alloc (blk_below (blk_alloc (blk_alloc (blk_new w _) _) _) hb2) _) _, blk_alloc (blk_alloc (blk_below n4 hb2) _) _, blk_alloc (blk_new w2 _) _, n6, up hg, up hb, fun j v hj => ?_⟩
  obtain ⟨h, len, c, hc, e1, e2, e3, e4⟩ := hrows j v hj
  exact ⟨h, len, c, hc, e1, e2, up e3, e4⟩
theorem idx_bd {n x y : Int} (h1 : 1 ≤ n) : 0 ≤ idx n x y ∧ idx n x y < n * n := by
  have a1 : 0 ≤ (x + n) % n := Int.emod_nonneg _ (by omega)
  have a2 : (x + n) % n < n := Int.emod_lt_of_pos _ (by omega)
  have b1 : 0 ≤ (y + n) % n := Int.emod_nonneg _ (by omega)
  have b2 : (y + n) % n < n := Int.emod_lt_of_pos _ (by omega)
  unfold idx
  have m1 : 0 ≤ (x + n) % n * n := Int.mul_nonneg a1 (by omega)
  have m2 : (x + n) % n * n ≤ (n - 1) * n := Int.mul_le_mul_of_nonneg_right (by omega) (by omega)
  have m3 : (n - 1) * n = n * n - n := by rw [Int.sub_mul, Int.one_mul]
  exact ⟨by omega, by omega⟩
theorem tmod_bd {a n : Int} (h1 : 1 ≤ n) : -n < Int.tmod a n ∧ Int.tmod a n < n := by
  rcases Int.le_total 0 a with h | h
  · rw [Int.tmod_eq_emod_of_nonneg h]
    have := Int.emod_nonneg a (show n ≠ 0 by omega)
    have := Int.emod_lt_of_pos a (show 0 < n by omega)
    omega
  · have e : a = -(-a) := by omega
    rw [e, Int.neg_tmod, Int.tmod_eq_emod_of_nonneg (show 0 ≤ -a by omega)]
    have := Int.emod_nonneg (-a) (show n ≠ 0 by omega)
    have := Int.emod_lt_of_pos (-a) (show 0 < n by omega)
    omega
theorem about_c (f : Int) (w : World) : Calls Try.prog 21 #[.int .i64 f] w fun e w' => e = .returned (.func (.func 34) #[] #[.pointer (some ⟨w.heap.size, 0, none⟩)]) ∧ w' = w.alloc (.cells #[.int .i64 f] 3) := by
  have hmf : ∀ (fn : Fn) (first cap : Array Value) (w : World), (Instr.makeFunc fn first cap).run Try.prog w = .ok (.func fn first cap) w := fun _ _ _ _ => rfl
  go_enter Try.func21, Try.ntmps21
  go_wp2_with fail
  go_ret
  exact ⟨rfl, rfl⟩
end Go.Proofs.Ytfangodjmppooaa.Rd
