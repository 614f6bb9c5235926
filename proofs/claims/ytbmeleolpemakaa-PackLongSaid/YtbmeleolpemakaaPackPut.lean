/- packer.put, walked by hand: the packer's block keeps its seven cells; its first holds a slice of bytes. -/
import Derived.Test.YtbmeleolpemakaaFpacknumber
import Derived.OwnWalk
namespace Go.Proofs.Ytbmeleolpemakaa.F
open Go Go.RowKit Go.Proofs.YtbmeleolpemakaaW.PrintWords Go.Proofs.YtbmeleolpemakaaW.PrintLast Go.Proofs.YtbmeleolpemakaaW.PrintMore
set_option linter.unusedVariables false
set_option linter.unusedSimpArgs false
/-- Numbers put behind bytes. -/
def puts (k : Nat) : List Int → List Int → Option (List Int)
  | l, [] => some l
  | l, n :: ns => (pack_number.f k l n).bind fun l' => puts k l' ns
/-- Blocks that put may write: the packer's own and blocks of bytes. -/
def Off (W : World) (q i : Nat) : Prop := i = q ∨ ∃ cells, W.heap[i]? = some (.cells cells 5 (0, 0))
theorem Off.step {W W1 W2 : World} {q : Nat} (h : Kept W W1 (Off W q)) (k : Kept W1 W2 (Off W1 q)) : Kept W W2 (Off W q) :=
  h.then_ k (fun i hi => by
    by_cases g : i < W.heap.size
    · by_cases s : Off W q i
      · exact .inl s
      · rcases hi with rfl | ⟨cells, hc⟩
        · exact .inl (.inl rfl)
        · rw [h.2 i g s] at hc; exact .inl (.inr ⟨cells, hc⟩)
    · exact .inr (by omega))
/-- The packer, at q: its bytes and six numbers. -/
structure PK (w : World) (q : Nat) (s0 s1 s2 k0 k1 k2 : Int) (l : List Int) (W : World) : Prop where
  mk :: (out : Below w.heap.size w W ∧ w.heap.size ≤ q ∧ ∃ v, W.heap[q]? = some (.cells #[v, .int .i64 s0, .int .i64 s1, .int .i64 s2, .int .i64 k0, .int .i64 k1, .int .i64 k2] 52 (0, 0)) ∧ Kd.R (Kd.int .u8) 5 W w.heap.size (fun _ => True) v l)
theorem PK.drewN {w W : World} {q : Nat} {s0 s1 s2 k0 k1 k2 : Int} {l : List Int} (h : PK w q s0 s1 s2 k0 k1 k2 l W) (m : Nat) : PK w q s0 s1 s2 k0 k1 k2 l (W.drewN m) := by
  obtain ⟨v, h1, h2⟩ := h.out.2.2
  exact ⟨pw_below_drewN h.out.1 m, h.out.2.1, v, blk_drewN h1 m, Kd.R_drewN h2 m⟩
theorem PK.drew {w W : World} {q : Nat} {s0 s1 s2 k0 k1 k2 : Int} {l : List Int} (h : PK w q s0 s1 s2 k0 k1 k2 l W) : PK w q s0 s1 s2 k0 k1 k2 l W.drew := by
  obtain ⟨v, h1, h2⟩ := h.out.2.2
  exact ⟨below_drew h.out.1, h.out.2.1, v, blk_drew h1, Kd.R_drew h2⟩
theorem PK.alloc {w W : World} {q : Nat} {s0 s1 s2 k0 k1 k2 : Int} {l : List Int} (h : PK w q s0 s1 s2 k0 k1 k2 l W) (o : Obj) : PK w q s0 s1 s2 k0 k1 k2 l (W.alloc o) := by
  obtain ⟨v, h1, h2⟩ := h.out.2.2
  exact ⟨below_alloc h.out.1 o, h.out.2.1, v, blk_alloc h1 o, Kd.R_alloc h2 o⟩
theorem ty5 {t : TypeId} (ht : t ∈ 5 :: (Kd.int .u8).E) : t = 5 := by
  have h : t ∈ [(5 : TypeId)] := ht
  simpa using h
theorem PK.site {w W : World} {q : Nat} {s0 s1 s2 k0 k1 k2 : Int} {l : List Int} (h : PK w q s0 s1 s2 k0 k1 k2 l W) (a b c : Int) : PK w q a b c k0 k1 k2 l (((W.setCell ⟨q, 1, none⟩ (.int .i64 a)).setCell ⟨q, 2, none⟩ (.int .i64 b)).setCell ⟨q, 3, none⟩ (.int .i64 c)) := by
  obtain ⟨v, h1, h2⟩ := h.out.2.2
  have a1 := blk_put (cs' := #[v, .int .i64 a, .int .i64 s1, .int .i64 s2, .int .i64 k0, .int .i64 k1, .int .i64 k2]) h1 1 (.int .i64 a) rfl
  have a2 := blk_put (cs' := #[v, .int .i64 a, .int .i64 b, .int .i64 s2, .int .i64 k0, .int .i64 k1, .int .i64 k2]) a1 2 (.int .i64 b) rfl
  have a3 := blk_put (cs' := #[v, .int .i64 a, .int .i64 b, .int .i64 c, .int .i64 k0, .int .i64 k1, .int .i64 k2]) a2 3 (.int .i64 c) rfl
  exact ⟨below_set (below_set (below_set h.out.1 h.out.2.1) h.out.2.1) h.out.2.1, h.out.2.1, v, a3, Kd.R_set (Kd.R_set (Kd.R_set h2 h1 (by decide) 1 _) a1 (by decide) 2 _) a2 (by decide) 3 _⟩
/-- One number more: what 'p.b = number(p.b, n)' does. -/
theorem number_c (k : Nat) (w W : World) (q : Nat) (s0 s1 s2 k0 k1 k2 : Int) (l r : List Int) (n : Int) (v : Value) (hb : Below w.heap.size w W) (hq : w.heap.size ≤ q) (hv : W.heap[q]? = some (.cells #[v, .int .i64 s0, .int .i64 s1, .int .i64 s2, .int .i64 k0, .int .i64 k1, .int .i64 k2] 52 (0, 0))) (hR : Kd.R (Kd.int .u8) 5 W w.heap.size (fun _ => True) v l) (h : pack_number.f k l n = some r) :
    Calls Try.prog 21 #[v, .int .i64 n] W fun e W1 => ∃ (A1 : Option Addr) (c1 : Nat), e = .returned (.slice A1 r.length c1) ∧ Kept W W1 (Off W q) ∧ W1.heap[q]? = some (.cells #[v, .int .i64 s0, .int .i64 s1, .int .i64 s2, .int .i64 k0, .int .i64 k1, .int .i64 k2] 52 (0, 0)) ∧ PK w q s0 s1 s2 k0 k1 k2 r (W1.setCell ⟨q, 0, none⟩ (.slice A1 r.length c1)) ∧ Kept W (W1.setCell ⟨q, 0, none⟩ (.slice A1 r.length c1)) (Off W q) := by
  have hT := Kd.R_bound hR
  refine (pack_number.calls k _ v l n r w W hb hT h).mono ?_
  rintro e W1 ⟨v1, rfl, hR1, hb1, hk⟩
  obtain ⟨A1, c1, rfl⟩ := Kd.R_slice hR1
  have hk1 : Kept W W1 (Off W q) := hk.mono (fun i hi => by
    obtain ⟨_, _, _, t, ht, cells, hc⟩ := hi
    obtain rfl := ty5 ht
    exact .inr ⟨cells, hc⟩)
  have hq1 : W1.heap[q]? = some (.cells #[v, .int .i64 s0, .int .i64 s1, .int .i64 s2, .int .i64 k0, .int .i64 k1, .int .i64 k2] 52 (0, 0)) := blk_kept hv hk (fun hi => by
    obtain ⟨_, _, _, t, ht, cells, hc⟩ := hi
    obtain rfl := ty5 ht
    exact blk_ne hv hc (by decide) rfl)
  refine ⟨A1, c1, rfl, hk1, hq1, ⟨below_set hb1 hq, hq, _, blk_put hq1 0 _ rfl, ?_⟩, hk1.setCell (.inl (.inl rfl)) _⟩
  exact Kd.R_set (Kd.R_mono hR1 (fun _ _ => trivial)) hq1 (by decide) 0 _
set_option maxHeartbeats 4000000 in
theorem put_c (k : Nat) (w W : World) (q : Nat) (s0 s1 s2 k0 k1 k2 : Int) (l ns r : List Int) (b : Nat) (hP : PK w q s0 s1 s2 k0 k1 k2 l W) (hb : W.heap[b]? = some (.cells (ns.map (Value.int .i64)).toArray 3 (0, 0))) (hn : ns.length < 1000) (h : puts k l ns = some r) :
    Calls Try.prog 22 #[.pointer (some ⟨q, 0, none⟩), .slice (some ⟨b, 0, none⟩) ns.length ns.length] W fun e W' => (∃ v, e = .returned v) ∧ PK w q s0 s1 s2 k0 k1 k2 r W' ∧ Kept W W' (Off W q) := by
  have HP := Aside0.mk hP
  have HB := Aside0.mk hb
  have HN := Aside0.mk hn
  have H := Aside0.mk h
  clear hP hb h
  obtain ⟨N, hN⟩ : ∃ N : Int, N = (ns.length : Int) := ⟨_, rfl⟩
  go_enter Try.func22, Try.ntmps22
  go_wp2
  go_loopw [8] (fun t8 wr => ∃ (i : Nat) (lx : List Int), i ≤ ns.length ∧ t8 = .int .i64 i ∧ puts k lx (ns.drop i) = some r ∧ PK w q s0 s1 s2 k0 k1 k2 lx wr ∧ Kept W wr (Off W q)) (fun t8 _ => ns.length - (intOf t8).toNat)
  case atStart => exact ⟨0, l, Nat.zero_le _, rfl, H.out, HP.out, Kept.refl _ _⟩
  case round =>
    obtain ⟨i, lx, hi, rfl, hPs, hPK, hK⟩ := hrel
    have HPK := Aside0.mk hPK
    have HK := Aside0.mk hK
    clear hPK hK
    have hbl : wr.heap[b]? = some (.cells (ns.map (Value.int .i64)).toArray 3 (0, 0)) := blk_kept HB.out HK.out (fun ho => by
      rcases ho with rfl | ⟨cells, hc⟩
      · obtain ⟨v, h1, h2⟩ := HP.out.out.2.2
        exact blk_ne HB.out h1 (by decide) rfl
      · exact blk_ne HB.out hc (by decide) rfl)
    by_cases hlt : i < ns.length
    · have hd : ns.drop i = ns[i] :: ns.drop (i + 1) := List.drop_eq_getElem_cons hlt
      rw [hd] at hPs
      obtain ⟨l1, h1, h2⟩ := Option.bind_eq_some_iff.1 hPs
      have H1 := Aside0.mk h1
      have H2 := Aside0.mk h2
      clear h1 h2 hPs hd
      have hcb : wr.cell? ⟨b, i, none⟩ = some (.int .i64 ns[i]) := by
        refine (blk_cell hbl i).trans ?_
        simp [hlt]
      obtain ⟨v, hv, hR⟩ := HPK.out.out.2.2
      have hcq : wr.cell? ⟨q, 0, none⟩ = some v := (blk_cell hv 0).trans rfl
      have HV := Aside0.mk (And.intro hv hR)
      generalize hx : ns[i] = x at H1 hcb
      clear hv hR hbl
      obtain ⟨I, hI⟩ : ∃ I : Int, I = (i : Int) := ⟨_, rfl⟩
      have hdec : decide ((i : Int) < (ns.length : Int)) = true := decide_eq_true (by omega)
      go_wp2_with (first | (with_reducible go_at_call 21; with_reducible refine (number_c k w _ q s0 s1 s2 k0 k1 k2 lx l1 x v HPK.out.out.1 HPK.out.out.2.1 HV.out.1 HV.out.2 H1.out).mono ?_; rintro e W1 ⟨A1, c1, rfl, hk1, hq1, hP1, hk2⟩; have HS := Aside0.mk (And.intro hP1 (Off.step HK.out hk2)); have hfz := blk_frozen hq1 0; have hcz : W1.cell? ⟨q, 0, none⟩ = some v := (blk_cell hq1 0).trans rfl; clear hk1 hq1 hP1 hk2) | fail)
      refine ⟨⟨i + 1, l1, by omega, rfl, H2.out, HS.out.1, HS.out.2⟩, ?_⟩
      show ns.length - ((i : Int) + 1).toNat < ns.length - (i : Int).toNat
      omega
    · have hdec : decide ((i : Int) < (ns.length : Int)) = false := decide_eq_false (by omega)
      have hd : ns.drop i = [] := List.drop_eq_nil_of_le (by omega)
      rw [hd] at hPs
      obtain rfl := Option.some.inj hPs
      go_wp2_with fail
      go_end0
      exact ⟨⟨_, rfl⟩, HPK.out, HK.out⟩
theorem put_cs (k : Nat) (w W : World) (q : Nat) (s0 s1 s2 k0 k1 k2 : Int) (l ns r : List Int) (b : Nat) (cs : Array Value) (m : Nat) (hm : m = ns.length) (hcs : (ns.map (Value.int .i64)).toArray = cs) (hP : PK w q s0 s1 s2 k0 k1 k2 l W) (hb : W.heap[b]? = some (.cells cs 3 (0, 0))) (hn : m < 1000) (h : puts k l ns = some r) :
    Calls Try.prog 22 #[.pointer (some ⟨q, 0, none⟩), .slice (some ⟨b, 0, none⟩) m m] W fun e W' => (∃ v, e = .returned v) ∧ PK w q s0 s1 s2 k0 k1 k2 r W' ∧ Kept W W' (Off W q) := by
  subst hm hcs
  exact put_c k w W q s0 s1 s2 k0 k1 k2 l ns r b hP hb hn h
end Go.Proofs.Ytbmeleolpemakaa.F
