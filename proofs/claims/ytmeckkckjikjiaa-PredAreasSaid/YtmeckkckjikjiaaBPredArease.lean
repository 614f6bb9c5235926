/- PredAreas: own texts in one (part 5 of 5): contracts of the functions that the law reaches. -/
import Derived.Test.YtmeckkckjikjiaaBPredAreasd

section
namespace Go.Proofs.Ytmeckkckjikjiaa.D8
open Go RowKit YtmeckkckjikjiaaW.PrintWords Ytmeckkckjikjiaa.F
set_option linter.unusedVariables false
theorem P16 : P 16 = 340282366920938463463374607431768211456 := by decide
theorem of_step (k : Nat) (l : List Int) (i : Nat) (hi : i < 8) (hl : l.length = 16) (h x : Int) (x0 : 0 ≤ x) (x1 : x < 18446744073709551616) :
  zelligeref01_Of.l0 (k + 1) l (i : Int) h x = zelligeref01_Of.l0 k ((l.set i (dd x i)).set (8 + i) (dd (IntKind.u64.wrap h) i)) ((i + 1 : Nat) : Int) h x := by
 have w := IntKind.wrap_u64 h
 have e1 : (IntKind.u64.wrap (wrap64 (8 * (i : Int)))) = ((8 * i : Nat) : Int) := by rw [w64 (by omega) (by omega), IntKind.wrap_u64]; omega
 have e2 := Aside0.mk (show wrap64 (8 + (i : Int)) = ((8 + i : Nat) : Int) by rw [w64 (by omega) (by omega)]; omega)
 have e3 := Aside0.mk (show wrap64 ((i : Int) + 1) = ((i + 1 : Nat) : Int) by rw [w64 (by omega) (by omega)]; omega)
 have b1 := Aside0.mk (byte_go x x0 x1 i hi)
 have b2 := Aside0.mk (byte_go (IntKind.u64.wrap h) (by omega) (by omega) i hi)
 rw [zelligeref01_Of.l0, if_pos (by omega), if_pos (by rw [e1]; omega), if_pos (by omega), if_pos (by omega), e2.out, if_pos (by omega), if_pos (by omega), b1.out, b2.out, e3.out, Int.toNat_natCast, Int.toNat_natCast]
def digs (h x : Int) : List Int := [dd x 0, dd x 1, dd x 2, dd x 3, dd x 4, dd x 5, dd x 6, dd x 7, dd h 0, dd h 1, dd h 2, dd h 3, dd h 4, dd h 5, dd h 6, dd h 7]
theorem rof_f {h x : Int} (ok : WOk h x) {k : Nat} (hk : 9 ≤ k) : ∃ l, zelligeref01_Of.f k h x = some l ∧ l.length = 16 ∧ Dg l ∧ val l = wv h x % P 16 := by
 obtain ⟨⟨h1, h2⟩, x0, x1⟩ := ok
 have w := IntKind.wrap_u64 h
 obtain ⟨k, rfl⟩ : ∃ m, k = m + 9 := ⟨k - 9, by omega⟩
 refine ⟨digs (IntKind.u64.wrap h) x, ?_, rfl, ?_, ?_⟩
 ·unfold zelligeref01_Of.f
  rw [if_pos (by omega)]
  have s := fun (k i : Nat) (l : List Int) (hi : i < 8) (hl : l.length = 16) => of_step k l i hi hl h x x0 x1
  rw [show (0 : Int) = ((0 : Nat) : Int) from rfl, show k + 9 = k + 8 + 1 from rfl, s (k + 8) 0 _ (by omega) (by simp), show k + 8 = k + 7 + 1 from rfl, s (k + 7) 1 _ (by omega) (by simp), show k + 7 = k + 6 + 1 from rfl, s (k + 6) 2 _ (by omega) (by simp),
   show k + 6 = k + 5 + 1 from rfl, s (k + 5) 3 _ (by omega) (by simp), show k + 5 = k + 4 + 1 from rfl, s (k + 4) 4 _ (by omega) (by simp), show k + 4 = k + 3 + 1 from rfl, s (k + 3) 5 _ (by omega) (by simp), show k + 3 = k + 2 + 1 from rfl, s (k + 2) 6 _ (by omega) (by simp),
   show k + 2 = k + 1 + 1 from rfl, s (k + 1) 7 _ (by omega) (by simp), zelligeref01_Of.l0, if_neg (by omega)]
  rfl
 ·intro d hd
  simp only [digs, List.mem_cons, List.not_mem_nil, or_false] at hd
  rcases hd with rfl | rfl | rfl | rfl | rfl | rfl | rfl | rfl | rfl | rfl | rfl | rfl | rfl | rfl | rfl | rfl <;> exact dd_bd _ _
 ·have e1 := eight x x0 x1
  have e2 := eight (IntKind.u64.wrap h) (by omega) (by omega)
  unfold digs
  simp only [val]
  rw [P16]
  unfold wv
  generalize dd x 0 = a0 at *; generalize dd x 1 = a1 at *; generalize dd x 2 = a2 at *; generalize dd x 3 = a3 at *; generalize dd x 4 = a4 at *; generalize dd x 5 = a5 at *; generalize dd x 6 = a6 at *; generalize dd x 7 = a7 at *
  generalize dd (IntKind.u64.wrap h) 0 = b0 at *; generalize dd (IntKind.u64.wrap h) 1 = b1 at *; generalize dd (IntKind.u64.wrap h) 2 = b2 at *; generalize dd (IntKind.u64.wrap h) 3 = b3 at *; generalize dd (IntKind.u64.wrap h) 4 = b4 at *; generalize dd (IntKind.u64.wrap h) 5 = b5 at *; generalize dd (IntKind.u64.wrap h) 6 = b6 at *; generalize dd (IntKind.u64.wrap h) 7 = b7 at *
  omega
theorem rbelow_f {l : List Int} (hD : Dg l) (n0 : 0 < l.length) (n1 : l.length ≤ 1000) : zelligeref01_Below.f l = some (decide (P l.length ≤ 2 * val l)) := by
 have e := Aside0.mk (show wrap64 ((l.length : Int) - 1) = ((l.length - 1 : Nat) : Int) by rw [w64 (by omega) (by omega)]; omega)
 unfold zelligeref01_Below.f
 rw [e.out, if_pos (by omega), if_pos (by omega), rd_nat]
 have v := val_take_drop l (l.length - 1) (by omega)
 have v2 := val_drop (l := l) (i := l.length - 1) (by omega)
 rw [val_drop_all (i := l.length - 1 + 1) (by omega)] at v2
 have b := val_lt (Dg_take hD (l.length - 1))
 rw [List.length_take, Nat.min_eq_left (by omega)] at b
 have z := val_nonneg (Dg_take hD (l.length - 1))
 have g := Dg_get hD (l.length - 1)
 have hP : P l.length = 256 * P (l.length - 1) := by
  conv => lhs; rw [show l.length = l.length - 1 + 1 by omega]
  rw [P]
 have pp := P_pos (l.length - 1)
 congr 1
 rw [decide_eq_decide]
 rw [v, v2, hP]
 generalize P (l.length - 1) = p at *
 generalize l.getD (l.length - 1) 0 = d at *
 constructor
 ·intro h
  have := Int.mul_le_mul_of_nonneg_left (show (128 : Int) ≤ d + 256 * 0 by omega) (show 0 ≤ p by omega)
  omega
 ·intro h
  rcases Int.lt_or_le d 128 with k | k
  ·have := Int.mul_le_mul_of_nonneg_left (show d + 256 * 0 ≤ 127 by omega) (show 0 ≤ p by omega)
   omega
  ·exact k
end Go.Proofs.Ytmeckkckjikjiaa.D8
end
section
namespace Go.Proofs.Ytmeckkckjikjiaa.F
open Go RowKit YtmeckkckjikjiaaW.PrintWords YtmeckkckjikjiaaW.PrintLast YtmeckkckjikjiaaW.PrintMore Ytmeckkckjikjiaa.D8
set_option linter.unusedVariables false
set_option linter.unusedSimpArgs false
def zelligeref02_Of.f (a0_0 a0_1 a0_2 a0_3 : Int) : Option (List Int) := if QOk a0_0 a0_1 a0_2 a0_3 then some (qdg a0_0 a0_1 a0_2 a0_3) else none
structure OfRel (w : World) (gb : Nat) (v : Value) (a b c d : Int) (t4 : Value) (wr : World) : Prop where
 out : ∃ (n : Nat) (x : Int), n ≤ 32 ∧ x = n ∧ t4 = .int .i64 x ∧ Kd.R (Kd.int .i64) 3 wr w.heap.size (fun _ => True) v ((qdg a b c d).take n ++ List.replicate (32 - n) 0) ∧ wr.heap[gb]? = some (.cells #[.int .u64 a, .int .u64 b, .int .u64 c, .int .u64 d] 50 (0, 0)) ∧ Below w.heap.size w wr
theorem word_cell {w : World} {gb : Nat} {a b c d : Int} (h : w.heap[gb]? = some (.cells #[.int .u64 a, .int .u64 b, .int .u64 c, .int .u64 d] 50 (0, 0))) {j : Nat} (hj : j < 4) : w.cell? ⟨gb, j, none⟩ = some (.int .u64 ([a, b, c, d].getD j 0)) := by
 have : j = 0 ∨ j = 1 ∨ j = 2 ∨ j = 3 := by omega
 rcases this with rfl | rfl | rfl | rfl
 ·exact blk_cell h 0
 ·exact blk_cell h 1
 ·exact blk_cell h 2
 ·exact blk_cell h 3
set_option maxHeartbeats 2000000 in
theorem ref_of_w (a b c d : Int) (ok : Aside0 (QOk a b c d)) (w : World) :
  Calls Try.prog 61 #[.agg #[.int .u64 a, .int .u64 b, .int .u64 c, .int .u64 d]] w fun e w' => ∃ v0_ : Value, e = .returned v0_ ∧ Kd.R (Kd.int .i64) 3 w' w.heap.size (fun _ => True) v0_ (qdg a b c d) ∧ Below w.heap.size w w' := by
 have HB := Aside0.mk (Below.refl w.heap.size w)
 go_enter Try.func61, Try.ntmps61
 go_wp2_with (first | ((with_reducible refine gate_dst (N := 1) rfl ?_); refine bx 1 #[.int .u64 a, .int .u64 b, .int .u64 c, .int .u64 d] 50 ?_; intro gb hg w3 hbox hb; have n0_ := Aside0.mk (below_step HB.out hb); have n1_ := Aside0.mk hbox; have n2_ := Aside0.mk ((by rw [hg]; exact (below_size HB.out)) : w.heap.size ≤ gb); clear HB; have HB := n0_; have BK := n1_; have GE := n2_; clear n0_ n1_ n2_; clear hb hbox hg) | ((with_reducible refine gate_dst (N := 5) rfl ?_); refine Kd.R_make (Kd.int .i64) _ 3 rfl (N := 5) rfl 30 _ _ rfl 32 rfl rfl Try.underlying30 (.int .i64 0) 8 info3 rfl (by decide) (by omega) 0 (ok := fun _ => True) (okp := fun _ => True) rfl (fun _ hk => hk) trivial (by omega) (by omega) (Below.refl _ _) (Nat.le_refl _) ?_; intro v5 w4 ho5 hb hg_ hnew_; clear hg_ hnew_; (try simp only [Int.reduceToNat] at ho5); have n0_ := Aside0.mk (Kd.R_lower ho5 (below_size HB.out)); have n1_ := Aside0.mk (blk_below BK.out hb); have n2_ := Aside0.mk (below_step HB.out hb); clear BK; clear HB; have HO := n0_; have BK := n1_; have HB := n2_; clear n0_ n1_ n2_; clear hb ho5) | fail)
 go_loopw [4] (fun t4 wr => OfRel w gb v5 a b c d t4 wr) (fun t4 _ => 32 - (intOf t4).toNat)
 case atStart => exact ⟨0, 0, by omega, rfl, rfl, HO.out, BK.out, HB.out⟩
 case round =>
  obtain ⟨n, x, hn, hx_, rfl, ho_, bk_, hb_⟩ := hrel
  have HO := Aside0.mk ho_
  have BK := Aside0.mk bk_
  have HB := Aside0.mk hb_
  clear ho_ bk_ hb_
  by_cases h32 : n = 32
  ·have hlt : decide (x < 32) = false := decide_eq_false (by omega)
   have e : (qdg a b c d).take n ++ List.replicate (32 - n) 0 = qdg a b c d := by rw [h32, List.take_of_length_le (by rw [qdg_len]; omega)]; simp
   have HO2 := Aside0.mk (e ▸ HO.out)
   clear h32 e HO hx_
   go_wp2_with fail
   go_ret
   exact ⟨_, rfl, HO2.out, HB.out⟩
  ·have hlt : decide (x < 32) = true := decide_eq_true (by omega)
   have hn32 := Aside0.mk (show n < 32 by omega)
   have hW := word_cell BK.out (show n / 8 < 4 by omega)
   have hF := blk_frozen BK.out (n / 8)
   obtain ⟨J, hJ⟩ : ∃ j : Int, ((n / 8 : Nat) : Int) = j := ⟨_, rfl⟩
   have hJn : n / 8 = J.toNat := by omega
   have j0 : 0 ≤ J := by omega
   have j1 : J < 4 := by omega
   have hJd : Int.tdiv x 8 = J := by rw [hx_, Int.tdiv_eq_ediv_of_nonneg (by omega)]; omega
   obtain ⟨M, hM⟩ : ∃ j : Int, ((n % 8 : Nat) : Int) = j := ⟨_, rfl⟩
   have hMd : Int.tmod x 8 = M := by rw [hx_, Int.tmod_eq_emod_of_nonneg (by omega)]; omega
   have hx : UOk ([a, b, c, d].getD (n / 8) 0) := by
    obtain ⟨k0, k1, k2, k3⟩ := ok.out
    have : n / 8 = 0 ∨ n / 8 = 1 ∨ n / 8 = 2 ∨ n / 8 = 3 := by omega
    rcases this with h | h | h | h <;> rw [h]
    ·exact k0
    ·exact k1
    ·exact k2
    ·exact k3
   have hV := byte_go ([a, b, c, d].getD (n / 8) 0) hx.1 hx.2 (n % 8) (Nat.mod_lt _ (by omega))
   rw [hM] at hV
   have HV0 := Aside0.mk (qdg_step a b c d (show n < 32 by omega) hV)
   obtain ⟨X, hX⟩ : ∃ z, [a, b, c, d].getD (n / 8) 0 = z := ⟨_, rfl⟩
   rw [hX] at hW HV0
   rw [hJn] at hW hF
   obtain ⟨S, hS⟩ : ∃ z, IntKind.u64.wrap (wrap64 (8 * M)) = z := ⟨_, rfl⟩
   have s0 : 0 ≤ S := by rw [← hS, IntKind.wrap_u64]; omega
   have s1 : decide (0 ≤ S) = true := decide_eq_true s0
   rw [hS] at HV0
   obtain ⟨Y, hY⟩ : ∃ z, shr .u64 X S = z := ⟨_, rfl⟩
   have hY_ : (X / 2 ^ min S.toNat 64) = Y := hY
   have hYz : S ≤ 64 → (X / 2 ^ S.toNat) = Y := shr_small hY
   rw [hY] at HV0
   obtain ⟨L, hL⟩ : ∃ l, (qdg a b c d).take n ++ List.replicate (32 - n) 0 = l := ⟨_, rfl⟩
   have hLl : L.length = 32 := by rw [← hL]; simp [qdg_len]; omega
   rw [hL] at HO HV0
   have xn : x.toNat = n := by omega
   rw [← xn] at HV0
   have p0 : 0 ≤ x := by omega
   have q0 : x < ((L.length : Nat) : Int) := by omega
   have p1 : decide (0 ≤ x) = true := decide_eq_true p0
   have q1 : decide (x < ((L.length : Nat) : Int)) = true := decide_eq_true q0
   obtain ⟨go, co, eo, gb2, gl, cl, HG⟩ := Kd.R_form HO.out (by omega)
   cases eo
   obtain ⟨hx0, hf0⟩ := Kd.R_celln 0 HO.out x p0 q0
   have HP := Kd.R_putg HO.out x (wrap64 (Go.bits .and .u64 Y 255))
   have GB := Aside0.mk gb2
   have NE := Kd.R_ne HO.out BK.out (by decide)
   have NE' := Aside0.mk NE
   have HP' := Aside0.mk HP
   have HV := Aside0.mk HV0.out
   have HXN := Aside0.mk hx_
   clear gb2 gl cl HG HV0 hJn hV hx hn hX NE HP h32 hL xn hx_ hLl
   have hSM : S = 8 * M := by rw [← hS, IntKind.wrap_u64]; have : M = ((n % 8 : Nat) : Int) := hM.symm; unfold wrap64; omega
   have eY : X / 2 ^ (8 * M).toNat = Y := by rw [← hSM]; exact hYz (by rw [hSM, ← hM]; omega)
   have EY := Aside0.mk eY
   clear eY hSM
   go_wp2_with fail
   rw [EY.out]
   have hx1 : wrap64 (x + 1) = ((n + 1 : Nat) : Int) := by have := HXN.out; have := hn32.out; unfold wrap64; omega
   have xn : x.toNat = n := by have := HXN.out; omega
   refine ⟨⟨n + 1, _, by have := hn32.out; omega, hx1, rfl, ?_, ?_, below_set HB.out GB.out⟩, by simp only [intOf, hx1]; have := HXN.out; have := hn32.out; omega⟩
   ·have := HP'.out.1
    rw [HV.out, xn] at this
    rw [xn]
    exact this
   ·exact blk_grown BK.out HP'.out.2 NE'.out
theorem zelligeref02_Of.calls (a0_0 a0_1 a0_2 a0_3 : Int) (r : List Int) (w : World) (h : zelligeref02_Of.f a0_0 a0_1 a0_2 a0_3 = some r) :
  Calls Try.prog 61 #[.agg #[.int .u64 a0_0, .int .u64 a0_1, .int .u64 a0_2, .int .u64 a0_3]] w fun e w' => ∃ v0_ : Value, e = .returned (v0_) ∧ Kd.R (Kd.int .i64) 3 w' w.heap.size (fun _ => True) v0_ r ∧ Below w.heap.size w w' := by
 unfold zelligeref02_Of.f at h
 by_cases hb : QOk a0_0 a0_1 a0_2 a0_3
 ·rw [if_pos hb] at h
  obtain rfl := Option.some.inj h
  exact ref_of_w _ _ _ _ ⟨hb⟩ w
 ·rw [if_neg hb] at h
  cases h
end Go.Proofs.Ytmeckkckjikjiaa.F
end
section
namespace Go.Proofs.Ytmeckkckjikjiaa.F
open Go RowKit YtmeckkckjikjiaaW.PrintWords YtmeckkckjikjiaaW.PrintLast YtmeckkckjikjiaaW.PrintMore Ytmeckkckjikjiaa.D8
set_option linter.unusedVariables false
set_option linter.unusedSimpArgs false
def zelligeref02_Quad.f (l0 : List Int) : Option (Int × Int × Int × Int) := if l0.length = 32 ∧ Dg l0 then some (qq4 (val l0)) else none
def wj (l : List Int) (p j : Nat) : Int := val ((l.take (8 * j + 8)).drop (max (8 * j) p))
theorem wj_bound {l : List Int} (hl : l.length = 32) (hD : Dg l) (p j : Nat) : UOk (wj l p j) := by
 unfold wj
 have h := Dg_drop (Dg_take hD (8 * j + 8)) (max (8 * j) p)
 have h1 := val_lt h
 have h2 : P ((l.take (8 * j + 8)).drop (max (8 * j) p)).length ≤ P 8 := P_mono (by simp; omega)
 have e : P 8 = 18446744073709551616 := by decide
 exact ⟨val_nonneg h, by omega⟩
theorem wj_top {l : List Int} (hl : l.length = 32) {j : Nat} (hj : j < 4) : wj l 32 j = 0 := by
 unfold wj
 exact val_drop_all (by simp; omega)
theorem wj_old {l : List Int} {p j : Nat} (h : p / 8 ≠ j) (hl : l.length = 32) (hp : p < 32) : wj l p j = wj l (p + 1) j := by
 unfold wj
 rcases Nat.lt_or_ge (p / 8) j with h1 | h1
 ·rw [show max (8 * j) p = max (8 * j) (p + 1) by omega]
 ·rw [val_drop_all (by simp; omega), val_drop_all (by simp; omega)]
theorem wj_new {l : List Int} {p : Nat} (hl : l.length = 32) (hp : p < 32) : wj l p (p / 8) = l.getD p 0 + 256 * wj l (p + 1) (p / 8) := by
 unfold wj
 rw [show max (8 * (p / 8)) p = p by omega, show max (8 * (p / 8)) (p + 1) = p + 1 by omega, val_drop (by simp; omega)]
 congr 1
 simp [List.getD_eq_getElem?_getD, List.getElem?_take, show p < 8 * (p / 8) + 8 by omega]
theorem wj_all {l : List Int} (hl : l.length = 32) : val l = qv (wj l 0 0) (wj l 0 1) (wj l 0 2) (wj l 0 3) := by
 unfold wj qv
 have e8 : P 8 = 18446744073709551616 := by decide
 have a := val_take_drop l 8 (by omega)
 have b := val_take_drop (l.drop 8) 8 (by simp; omega)
 have c := val_take_drop (l.drop 16) 8 (by simp; omega)
 rw [List.drop_drop] at b c
 rw [a, b, c, e8]
 simp only [Nat.mul_zero, Nat.zero_add, Nat.max_zero, Nat.reduceMul, Nat.reduceAdd, List.drop_zero, List.drop_take, Nat.reduceSub]
 rw [show (l.drop 24).take 8 = l.drop 24 from List.take_of_length_le (by simp; omega)]
structure QuadRel (w : World) (gb : Nat) (l : List Int) (t4 : Value) (wr : World) : Prop where
 out : ∃ (p : Nat) (x : Int), p ≤ 32 ∧ x = p - 1 ∧ t4 = .int .i64 x ∧ wr.heap[gb]? = some (.cells #[.int .u64 (wj l p 0), .int .u64 (wj l p 1), .int .u64 (wj l p 2), .int .u64 (wj l p 3)] 50 (0, 0)) ∧ wr.heap[w.heap.size]? = some (.cells #[.int .u64 0, .int .u64 0, .int .u64 0, .int .u64 0] 50 (0, 0)) ∧ Below w.heap.size w wr
theorem words_put {l : List Int} (hl : l.length = 32) {p : Nat} (hp : p < 32) {V : Int} (hV : V = wj l p (p / 8)) : (#[.int .u64 (wj l (p + 1) 0), .int .u64 (wj l (p + 1) 1), .int .u64 (wj l (p + 1) 2), .int .u64 (wj l (p + 1) 3)] : Array Value).setIfInBounds (p / 8) (.int .u64 V) = #[.int .u64 (wj l p 0), .int .u64 (wj l p 1), .int .u64 (wj l p 2), .int .u64 (wj l p 3)] := by
 subst hV
 have : p / 8 = 0 ∨ p / 8 = 1 ∨ p / 8 = 2 ∨ p / 8 = 3 := by omega
 rcases this with h | h | h | h <;> rw [h]
 ·rw [wj_old (j := 1) (by omega) hl hp, wj_old (j := 2) (by omega) hl hp, wj_old (j := 3) (by omega) hl hp]; rfl
 ·rw [wj_old (j := 0) (by omega) hl hp, wj_old (j := 2) (by omega) hl hp, wj_old (j := 3) (by omega) hl hp]; rfl
 ·rw [wj_old (j := 0) (by omega) hl hp, wj_old (j := 1) (by omega) hl hp, wj_old (j := 3) (by omega) hl hp]; rfl
 ·rw [wj_old (j := 0) (by omega) hl hp, wj_old (j := 1) (by omega) hl hp, wj_old (j := 2) (by omega) hl hp]; rfl
set_option maxHeartbeats 2000000 in
theorem ref_quad_w (A0 : Option Addr) (c0 : Nat) (l0 : List Int) (hl : l0.length = 32) (hD : Aside0 (Dg l0)) (w : World) (hr0 : Kd.C (Kd.int .i64) w A0 l0.length l0) (hc0 : l0.length ≤ c0) :
  Calls Try.prog 40 #[.slice A0 l0.length c0] w fun e w' => e = .returned (q4 (wj l0 0 0) (wj l0 0 1) (wj l0 0 2) (wj l0 0 3)) ∧ Below w.heap.size w w' := by
 have HR0 := Aside0.mk hr0
 have HC0 := Aside0.mk hc0
 have HL := Aside0.mk hl
 clear hr0 hc0 hl
 go_enter Try.func40, Try.ntmps40
 go_wp2_with fail
 refine hideW (T := fun w' => w'.heap[w.heap.size + 1]? = some (.cells #[.int .u64 (wj l0 32 0), .int .u64 (wj l0 32 1), .int .u64 (wj l0 32 2), .int .u64 (wj l0 32 3)] 50 (0, 0)) ∧ w'.heap[w.heap.size]? = some (.cells #[.int .u64 0, .int .u64 0, .int .u64 0, .int .u64 0] 50 (0, 0)) ∧ Below w.heap.size w w') ?hid ?_
 case hid =>
  rw [wj_top HL.out (j := 0) (by omega), wj_top HL.out (j := 1) (by omega), wj_top HL.out (j := 2) (by omega), wj_top HL.out (j := 3) (by omega)]
  exact ⟨two_new w _ _, blk_alloc (blk_new w _) _, two_all w _ _⟩
 rintro w1 ⟨hb1, hb2, hb3⟩
 have BK := Aside0.mk hb1
 have RS := Aside0.mk hb2
 have HB := Aside0.mk hb3
 clear hb1 hb2 hb3
 go_loopw [4] (fun t4 wr => QuadRel w (w.heap.size + 1) l0 t4 wr) (fun t4 _ => (intOf t4 + 1).toNat)
 case atStart => exact ⟨32, 31, by omega, by omega, rfl, BK.out, RS.out, HB.out⟩
 case round =>
  obtain ⟨p, x, hp, hx_, rfl, bk_, rs_, hb_⟩ := hrel
  have BK := Aside0.mk bk_
  have RS := Aside0.mk rs_
  have HB := Aside0.mk hb_
  clear bk_ rs_ hb_
  by_cases h0 : p = 0
  ·subst h0
   have hlt : decide (0 ≤ x) = false := decide_eq_false (by omega)
   obtain ⟨⟨z0, z1, z2, z3⟩, f0, f1, f2, f3⟩ := (Four.mk BK.out).cells
   obtain ⟨⟨y0, y1, y2, y3⟩, g0, g1, g2, g3⟩ := (Four.mk RS.out).cells
   clear hx_ hp
   go_wp2_with fail
   refine bodyPost_ret (results_c1 rfl _ _ w.heap.size 50 _ (0, 0) _ rfl ((Four.mk RS.out).put _ _ _ _) Try.underlying50 rfl (by kernel_rfl)) rfl ?_
   exact ⟨rfl, put_below HB.out (by omega) _ _ _ _⟩
  ·obtain ⟨n, rfl⟩ : ∃ n, p = n + 1 := ⟨p - 1, by omega⟩
   have hn32 := Aside0.mk (show n < 32 by omega)
   have HX := Aside0.mk (show x = (n : Int) by omega)
   have hlt : decide (0 ≤ x) = true := decide_eq_true (by omega)
   have hW := word_cell BK.out (show n / 8 < 4 by omega)
   have hF := blk_frozen BK.out (n / 8)
   obtain ⟨J, hJ⟩ : ∃ j : Int, ((n / 8 : Nat) : Int) = j := ⟨_, rfl⟩
   have hJn : n / 8 = J.toNat := by omega
   have j0 : 0 ≤ J := by omega
   have j1 : J < 4 := by omega
   have hJd : Int.tdiv x 8 = J := by rw [HX.out, Int.tdiv_eq_ediv_of_nonneg (by omega)]; omega
   obtain ⟨X, hX⟩ : ∃ z, [wj l0 (n + 1) 0, wj l0 (n + 1) 1, wj l0 (n + 1) 2, wj l0 (n + 1) 3].getD (n / 8) 0 = z := ⟨_, rfl⟩
   have hXw : X = wj l0 (n + 1) (n / 8) := by
    rw [← hX]
    have : n / 8 = 0 ∨ n / 8 = 1 ∨ n / 8 = 2 ∨ n / 8 = 3 := by omega
    rcases this with h | h | h | h <;> rw [h] <;> rfl
   rw [hX] at hW
   have HXw := Aside0.mk hXw
   have HJ := Aside0.mk hJn
   rw [hJn] at hW hF
   have p0 : 0 ≤ x := by omega
   have q0 : x < ((l0.length : Nat) : Int) := by rw [HL.out]; omega
   have p1 : decide (0 ≤ x) = true := decide_eq_true p0
   have q1 : decide (x < ((l0.length : Nat) : Int)) = true := decide_eq_true q0
   obtain ⟨ad, eA, hxc⟩ := Kd.at_int (Kd.C_below HR0.out HB.out) x p0 q0
   cases eA
   have hrd : rd l0 x = l0.getD n 0 := by rw [HX.out]; unfold rd; simp
   obtain ⟨D, hDg⟩ : ∃ z, rd l0 x = z := ⟨_, rfl⟩
   rw [hDg] at hxc hrd
   have HD := Aside0.mk hrd
   clear hX hXw hJn hJ hrd hDg hx_ h0 hp
   go_wp2_with fail
   go_region
   go_wp2
   have hx1 : wrap64 (x - 1) = (n : Int) - 1 := by have := HX.out; have := hn32.out; unfold wrap64; omega
   have hD0 := Dg_get hD.out n
   have hB := wj_bound HL.out hD.out n (n / 8)
   have hV : IntKind.u64.wrap (IntKind.u64.wrap (X * 256) + IntKind.u64.wrap D) = wj l0 n (n / 8) := by
    have e := wj_new HL.out hn32.out
    rw [← HXw.out, ← HD.out] at e
    rw [← HD.out] at hD0
    rw [IntKind.wrap_u64, IntKind.wrap_u64, IntKind.wrap_u64]
    omega
   refine ⟨⟨n, _, by have := hn32.out; omega, hx1, rfl, ?_, ?_, below_drew1 (below_set HB.out (by omega))⟩, by simp only [intOf, hx1]; have := HX.out; omega⟩
   ·rw [← HJ.out]
    exact blk_drew (blk_put BK.out _ _ (words_put HL.out hn32.out hV))
   ·exact blk_drew (blk_set_ne RS.out (by omega) _ _)
theorem zelligeref02_Quad.calls (A0 : Option Addr) (c0 : Nat) (l0 : List Int) (r1 r2 r3 r4 : Int) (w : World) (hr0 : Kd.C (Kd.int .i64) w A0 l0.length l0) (hc0 : l0.length ≤ c0) (h : zelligeref02_Quad.f l0 = some (r1, r2, r3, r4)) :
  Calls Try.prog 40 #[.slice A0 l0.length c0] w fun e w' => e = .returned (.agg #[.int .u64 r1, .int .u64 r2, .int .u64 r3, .int .u64 r4]) ∧ Below w.heap.size w w' := by
 unfold zelligeref02_Quad.f at h
 by_cases hb : l0.length = 32 ∧ Dg l0
 ·rw [if_pos hb] at h
  obtain ⟨rfl, rfl, rfl, rfl⟩ := some4 h
  obtain ⟨k0, k1, k2, k3⟩ := q_back ⟨wj_bound hb.1 hb.2 0 0, wj_bound hb.1 hb.2 0 1, wj_bound hb.1 hb.2 0 2, wj_bound hb.1 hb.2 0 3⟩
  rw [wj_all hb.1, k0, k1, k2, k3]
  exact ref_quad_w A0 c0 l0 hb.1 ⟨hb.2⟩ w hr0 hc0
 ·rw [if_neg hb] at h
  cases h
end Go.Proofs.Ytmeckkckjikjiaa.F
end
section
namespace Go.Proofs.Ytmeckkckjikjiaa.F
open RowKit YtmeckkckjikjiaaW.PrintWords YtmeckkckjikjiaaW.PrintLast YtmeckkckjikjiaaW.PrintMore
set_option linter.unusedVariables false
set_option linter.unusedSimpArgs false
mutual
def zelligeref02_Long.j0 : Nat → List Int → Int → Option (List Int)
 | 0, _, _ => none
 | k + 1, x3, x4 => zelligeref02_Long.l0 k x3 x4
def zelligeref02_Long.l0 : Nat → List Int → Int → Option (List Int)
 | 0, _, _ => none
 | k + 1, x3, x4 => if (x3.length : Int) < 32 then (if x3.length < 17592186044416 then (zelligeref02_Long.l0 k (x3 ++ [x4]) x4) else (none)) else (some x3)
end
def zelligeref02_Long.f (k : Nat) (a0_0 : Int) (a0_1 : Int) : Option (List Int) := (zelligeref01_Of.f k a0_0 a0_1).bind fun t573 => ((zelligeref01_Below.f t573).bind fun t576 => (if t576 = true then (zelligeref02_Long.j0 k t573 255) else (zelligeref02_Long.j0 k t573 0)))
theorem zelligeref02_Long.mono_l : ∀ k, (∀ y0 y1, LeO (zelligeref02_Long.j0 k y0 y1) (zelligeref02_Long.j0 (k + 1) y0 y1)) ∧ (∀ y0 y1, LeO (zelligeref02_Long.l0 k y0 y1) (zelligeref02_Long.l0 (k + 1) y0 y1))
 | 0 => ⟨fun _ _ r h => by simp [zelligeref02_Long.j0] at h, fun _ _ r h => by simp [zelligeref02_Long.l0] at h⟩
 | k + 1 => by
  obtain ⟨ih0, ih1⟩ := zelligeref02_Long.mono_l k
  refine ⟨?_, ?_⟩
  ·intro y0 y1
   unfold zelligeref02_Long.j0
   repeat' first
   | (with_reducible exact ih0 _ _)
   | (with_reducible exact ih1 _ _)
   | (with_reducible exact zelligeref01_Of.mono _ _ _)
   | (with_reducible exact LeO.refl _)
   | (with_reducible exact LeO.none _)
   | (with_reducible refine LeO.ite ?_ ?_)
   | (with_reducible refine LeO.bind ?_ (fun _ => ?_))
   | exact ih0 _ _
   | exact ih1 _ _
   | exact zelligeref01_Of.mono _ _ _
   | exact LeO.none _
   | refine LeO.ite ?_ ?_
   | refine LeO.bind ?_ (fun _ => ?_)
  ·intro y0 y1
   unfold zelligeref02_Long.l0
   repeat' first
   | (with_reducible exact ih0 _ _)
   | (with_reducible exact ih1 _ _)
   | (with_reducible exact zelligeref01_Of.mono _ _ _)
   | (with_reducible exact LeO.refl _)
   | (with_reducible exact LeO.none _)
   | (with_reducible refine LeO.ite ?_ ?_)
   | (with_reducible refine LeO.bind ?_ (fun _ => ?_))
   | exact ih0 _ _
   | exact ih1 _ _
   | exact zelligeref01_Of.mono _ _ _
   | exact LeO.none _
   | refine LeO.ite ?_ ?_
   | refine LeO.bind ?_ (fun _ => ?_)
theorem zelligeref02_Long.mono : ∀ a0 a1 k, LeO (zelligeref02_Long.f k a0 a1) (zelligeref02_Long.f (k + 1) a0 a1) := by
 intro a0 a1 k
 obtain ⟨ih0, ih1⟩ := zelligeref02_Long.mono_l k
 unfold zelligeref02_Long.f
 repeat' first
   | (with_reducible exact ih0 _ _)
   | (with_reducible exact ih1 _ _)
   | (with_reducible exact zelligeref01_Of.mono _ _ _)
   | (with_reducible exact LeO.refl _)
   | (with_reducible exact LeO.none _)
   | (with_reducible refine LeO.ite ?_ ?_)
   | (with_reducible refine LeO.bind ?_ (fun _ => ?_))
   | exact ih0 _ _
   | exact ih1 _ _
   | exact zelligeref01_Of.mono _ _ _
   | exact LeO.none _
   | refine LeO.ite ?_ ?_
   | refine LeO.bind ?_ (fun _ => ?_)
set_option maxHeartbeats 8000000 in
set_option maxRecDepth 100000 in
theorem zelligeref02_Long.calls (k : Nat) (a0_0 : Int) (a0_1 : Int) (r : List Int) (w : World) (h : zelligeref02_Long.f k a0_0 a0_1 = some r) :
  Calls Try.prog 41 #[.agg #[.int .i64 a0_0, .int .u64 a0_1]] w fun e w' => ∃ v0_ : Value, e = .returned (v0_) ∧ Kd.R (Kd.int .i64) 3 w' w.heap.size (fun _ => True) v0_ r ∧ Below w.heap.size w w' := by
 have hu37 := Try.underlying37
 have HB := Aside0.mk (Below.refl w.heap.size w)
 have H : ((zelligeref01_Of.f k a0_0 a0_1).bind fun t573 => ((zelligeref01_Below.f t573).bind fun t576 => (if t576 = true then (zelligeref02_Long.j0 k t573 255) else (zelligeref02_Long.j0 k t573 0)))) = some r := h
 clear h
 replace H := Option.bind_eq_some_iff.mp H
 obtain ⟨t573, A20, H⟩ := H
 try dsimp only at H
 have A2 := Aside0.mk A20
 clear A20
 replace H := Option.bind_eq_some_iff.mp H
 obtain ⟨t576, A30, H⟩ := H
 try dsimp only at H
 have A3 := Aside0.mk A30
 clear A30
 have HC4 := Aside0.mk H
 clear H
 go_enter Try.func41, Try.ntmps41
 go_upto_if 8 with (first | ((with_reducible refine gate_dst (N := 1) rfl ?_); refine bx 1 #[.int .i64 a0_0, .int .u64 a0_1] 37 ?_; intro gb572 hg w5 hbox hb; have BK572 := Aside0.mk hbox; have GW572 := u3 hg HB; have GE572 := u3 hg HB; replace HB := u2 HB hb; clear hb hbox hg; obtain ⟨hcz6_0, hcz6_1, hfz6_0, hfz6_1⟩ := p2 BK572) | ((with_reducible refine gate_callee (f := 65) rfl ?_); refine gL (some 6) Try.func65 #[.agg #[.int .i64 a0_0, .int .u64 a0_1]] rfl ?_; (with_reducible refine (zelligeref01_Of.calls k a0_0 a0_1 t573 _ A2.out).mono ?_); rintro e w7 ⟨v574, rfl, ho0, hb⟩; refine ⟨_, rfl, ?_⟩; have n0_ := Aside0.mk (Kd.R_lower ho0 (below_size (bw HB.out))); have n1_ := u1 BK572 hb; have n2_ := u2 HB hb; clear BK572; clear HB; have HO575 := n0_; have BK572 := n1_; have HB := n2_; clear n0_ n1_ n2_; (try clear hb); (try clear hb2); (try clear hk); (try clear hi); (try clear ho0); obtain ⟨Ao8, co8, eo8⟩ := Kd.R_slice HO575.out; subst eo8) | ((with_reducible refine gate_callee (f := 62) rfl ?_); refine gL (some 8) Try.func62 #[.slice Ao8 t573.length co8] rfl ?_; (with_reducible refine (zelligeref01_Below.calls _ _ t573 t576 _ ?side1 ?side2 A3.out).mono ?_); (case side1 => repeat (first | exact (Kd.R_reads' HO575.out).2.2 | (with_reducible refine Kd.C_alloc ?_ _) | (with_reducible refine Kd.C_drewN ?_ _) | (with_reducible refine Kd.C_drew ?_))); (case side2 => exact (Kd.R_reads' HO575.out).2.1); rintro e w' ⟨rfl, ⟨nd, rfl⟩⟩; refine ⟨_, rfl, ?_⟩))
 (try simp only [Act.put, List.setIfInBounds_toArray, List.set_cons_zero, List.set_cons_succ])
 go_cut [4] (fun v4 wc => ∃ (kq : Nat) (x4_3 : Int), v4 = .int .i64 x4_3 ∧ Aside0 (zelligeref02_Long.j0 kq t573 x4_3 = some r) ∧ Aside0 (kq ≤ k) ∧ Aside0 (Kd.R (Kd.int .i64) 3 wc w.heap.size (fun _ => True) (.slice Ao8 t573.length co8) t573) ∧ Aside0 (wc.heap[gb572]? = some (.cells #[.int .i64 a0_0, .int .u64 a0_1] 37 (0, 0))) ∧ Aside0 (Below w.heap.size w wc))
 case first =>
  have H := HC4.out
  clear HC4
  by_cases c9 : t576 = true
  ·subst c9
   rw [if_pos rfl] at H
   have H' := Aside0.mk H
   clear H
   go_wp2
   go_meet
   case rel => exact ⟨_, (255), (by first | rfl | (simp; done) | (simp [*]; done)), H', ⟨by first | omega | exact Nat.le_refl _⟩, ⟨by (with_reducible repeat (first | apply Kd.R_alloc | apply Kd.R_drewN | apply Kd.R_drew)); exact HO575.out⟩, ⟨bk BK572.out⟩, ⟨bw HB.out⟩⟩
  ·replace c9 := Bool.eq_false_iff.mpr c9
   subst c9
   rw [if_neg (show ¬ (false = true) by decide)] at H
   have H' := Aside0.mk H
   clear H
   go_wp2
   go_meet
   case rel => exact ⟨_, (0), (by first | rfl | (simp; done) | (simp [*]; done)), H', ⟨by first | omega | exact Nat.le_refl _⟩, ⟨by (with_reducible repeat (first | apply Kd.R_alloc | apply Kd.R_drewN | apply Kd.R_drew)); exact HO575.out⟩, ⟨bk BK572.out⟩, ⟨bw HB.out⟩⟩
 case rest =>
  clear HC4
  try clear p2
  try clear c4
  try clear c6
  try clear c9
  try clear hcz6_0
  try clear hcz6_1
  try clear hfz6_0
  try clear hfz6_1
  obtain ⟨kq, x4_3, rfl, HA, HJ3, HO_3, BK572, HB⟩ := hcut
  cases kq with
  | zero => exact absurd HA.out (by simp [zelligeref02_Long.j0])
  | succ kj3 =>
   have H := HA.out
   clear HA
   simp only [zelligeref02_Long.j0] at H
   have H' := Aside0.mk H
   clear H
   go_wp2
   go_loopg [3] kj3 (fun kq v3 w' => ∃ (x3_2 : List Int), Aside0 (zelligeref02_Long.l0 kq x3_2 x4_3 = some r) ∧ Aside0 (kq ≤ kj3) ∧ Aside0 (Kd.R (Kd.int .i64) 3 w' w.heap.size (fun _ => True) v3 x3_2) ∧ Aside0 (w'.heap[gb572]? = some (.cells #[.int .i64 a0_0, .int .u64 a0_1] 37 (0, 0))) ∧ Aside0 (Below w.heap.size w w'))
   case atStart => exact ⟨(t573), H', ⟨Nat.le_refl _⟩, ⟨by (with_reducible repeat (first | apply Kd.R_alloc | apply Kd.R_drewN | apply Kd.R_drew)); exact HO_3.out⟩, ⟨bk BK572.out⟩, ⟨bw HB.out⟩⟩
   case round =>
    clear H'
    try clear p2
    try clear c4
    try clear c6
    try clear c9
    try clear hcz6_0
    try clear hcz6_1
    try clear hfz6_0
    try clear hfz6_1
    try clear p2
    obtain ⟨x3_2, HA, HK2, HO_3, BK572, HB⟩ := hrel
    cases gk with
    | zero => exact absurd HA.out (by simp [zelligeref02_Long.l0])
    | succ k2 =>
     have H := HA.out
     clear HA
     simp only [zelligeref02_Long.l0] at H
     by_cases c10 : (x3_2.length : Int) < 32
     ·rw [if_pos c10] at H
      have c10b0 : decide ((x3_2.length : Int) < 32) = true := decide_eq_true c10
      have c10b1 : decide (x3_2.length < 32) = true := decide_eq_true (by omega)
      clear c10
      by_cases c11 : x3_2.length < 17592186044416
      ·rw [if_pos c11] at H
       have LMc11 := Aside0.mk c11
       clear c11
       obtain ⟨y577, hy577⟩ : ∃ y_ : List Int, y_ = (x3_2 ++ [x4_3]) := ⟨_, rfl⟩
       replace H : (zelligeref02_Long.l0 k2 y577 x4_3) = some r := by first | (rw [hy577]; with_reducible exact H) | (have H2_ := (Option.bind_some _ _).symm.trans H; rw [hy577]; with_reducible exact H2_) | (have H2_ := (Option.bind_some _ _).symm.trans H; with_reducible exact H2_) | with_reducible exact H | (rw [hy577]; exact H) | exact H
       have Ny577 := Aside0.mk hy577
       clear hy577
       have H' := Aside0.mk H
       clear H
       obtain ⟨Ao12, co12, eo12⟩ := Kd.R_slice HO_3.out
       subst eo12
       go_wp2_with (first | ((with_reducible refine gate_builtin (b := .append) (xs := #[.tmp 12, .tmp 14]) rfl ?_); at_builtin; refine Kd.R_append (Kd.int .i64) (w0 := w) w.heap.size rfl (.tmp 12) (.tmp 14) 62 3 (.int .i64 0) 8 rfl Try.underlying62 info3 rfl (by decide) (by omega) (.slice Ao12 x3_2.length co12) x3_2 x4_3 [.int .i64 x4_3] (fun _ => True) (fun _ => False) rfl rfl ?aP (fun _ hk => hk.elim) ?aF ?aO ?aB ?aS ?aL ?_; (case aP => exact rfl); (case aB => exact (bw HB.out)); (case aF => exact (fun _ _ => trivial)); (case aO => exact (by (with_reducible repeat (first | apply Kd.R_alloc | apply Kd.R_drewN | apply Kd.R_drew)); exact HO_3.out)); (case aS => exact (below_size (bw HB.out))); (case aL => have := LMc11.out; omega); intro v578 w13 ho hb hg hat; rw [← Ny577.out] at ho; have n0_ := Aside0.mk (blk_grown (bk BK572.out) hg (Kd.R_ne HO_3.out BK572.out (by decide))); have n1_ := Aside0.mk (hb); have n2_ := Aside0.mk (ho); clear BK572; clear HB; clear HO_3; have BK572 := n0_; have HB := n1_; have HO579 := n2_; clear n0_ n1_ n2_; clear ho hb hg hat))
       go_roundg k2
       case measure => have := HJ3.out; have := HK2.out; omega
       case rel => exact ⟨(y577), H', ⟨by have := HJ3.out; have := HK2.out; omega⟩, ⟨by (with_reducible repeat (first | apply Kd.R_alloc | apply Kd.R_drewN | apply Kd.R_drew)); exact HO579.out⟩, ⟨bk BK572.out⟩, ⟨bw HB.out⟩⟩
      ·rw [if_neg c11] at H
       exact absurd H (by simp)
     ·rw [if_neg c10] at H
      have c10b0 : decide ((x3_2.length : Int) < 32) = false := decide_eq_false c10
      have c10b1 : decide (x3_2.length < 32) = false := decide_eq_false (by omega)
      clear c10
      obtain rfl := Option.some.inj H
      obtain ⟨Ao14, co14, eo14⟩ := Kd.R_slice HO_3.out
      subst eo14
      go_wp2
      go_ret
      exact ⟨_, by first | rfl | (simp [*, errW_none, errW_some] <;> rfl), by (with_reducible repeat (first | apply Kd.R_alloc | apply Kd.R_drewN | apply Kd.R_drew)); exact HO_3.out, bw HB.out⟩
end Go.Proofs.Ytmeckkckjikjiaa.F
end
section
namespace Go.Proofs.Ytmeckkckjikjiaa.Qd
open Go RowKit YtmeckkckjikjiaaW.PrintWords Ytmeckkckjikjiaa.F Ytmeckkckjikjiaa.D8
set_option linter.unusedVariables false
attribute [local irreducible] val P
theorem qof_f {a b c d : Int} (h : QOk a b c d) : zelligeref02_Of.f a b c d = some (qdg a b c d) := by unfold zelligeref02_Of.f; rw [if_pos h]
theorem rquad_f {l : List Int} (hl : l.length = 32) (hD : Dg l) : zelligeref02_Quad.f l = some (qq4 (val l)) := by unfold zelligeref02_Quad.f; rw [if_pos ⟨hl, hD⟩]
theorem val_rep (x : Int) (n : Nat) : val (List.replicate n x) * 255 = x * (P n - 1) := by
 induction n with
 | zero => rw [List.replicate_zero, show val [] = 0 by rw [val], show P 0 = 1 by rw [P]]; omega
 | succ n ih =>
  rw [List.replicate_succ, show val (x :: List.replicate n x) = x + 256 * val (List.replicate n x) by rw [val], show P (n + 1) = 256 * P n by rw [P]]
  have e : x * (256 * P n - 1) = 256 * (x * (P n - 1)) + 255 * x := by
   rw [Int.mul_sub, Int.mul_sub, ← Int.mul_assoc, Int.mul_comm x 256, Int.mul_assoc]; omega
  rw [e, ← ih]; omega
theorem long_l0 (u : Int) : ∀ (d k : Nat) (x : List Int), 32 - x.length = d → x.length ≤ 32 → d < k → zelligeref02_Long.l0 k x u = some (x ++ List.replicate d u) := by
 intro d
 induction d with
 | zero =>
  intro k x h1 h2 h3
  obtain ⟨k, rfl⟩ : ∃ m, k = m + 1 := ⟨k - 1, by omega⟩
  rw [zelligeref02_Long.l0, if_neg (by omega), List.replicate_zero, List.append_nil]
 | succ d ih =>
  intro k x h1 h2 h3
  obtain ⟨k, rfl⟩ : ∃ m, k = m + 1 := ⟨k - 1, by omega⟩
  rw [zelligeref02_Long.l0, if_pos (by omega), if_pos (by omega), ih k (x ++ [u]) (by simp; omega) (by simp; omega) (by omega), List.append_assoc]
  rfl
theorem long_f {h x : Int} (ok : WOk h x) {k : Nat} (hk : 100 ≤ k) : ∃ l, zelligeref02_Long.f k h x = some l ∧ l.length = 32 ∧ Dg l ∧ val l = wv h x % P 32 := by
 obtain ⟨l, l1, l2, l3, l4⟩ := rof_f ok (k := k) (by omega)
 obtain ⟨k, rfl⟩ : ∃ m, k = m + 1 := ⟨k - 1, by omega⟩
 have hb := rbelow_f l3 (by omega) (by omega)
 have v0 := val_nonneg l3
 have v1 := val_lt l3
 rw [l2] at hb v1
 rw [P16] at hb l4 v1
 have w : -170141183460469231731687303715884105728 ≤ wv h x ∧ wv h x < 170141183460469231731687303715884105728 := by unfold wv; omega
 unfold zelligeref02_Long.f
 rw [l1, Option.bind_some, hb, Option.bind_some]
 by_cases n : 340282366920938463463374607431768211456 ≤ 2 * val l
 ·rw [if_pos (decide_eq_true n), zelligeref02_Long.j0, long_l0 255 16 k l (by omega) (by omega) (by omega)]
  refine ⟨_, rfl, by simp [l2], Dg_app.2 ⟨l3, fun d hd => by have := (List.mem_replicate.1 hd).2; omega⟩, ?_⟩
  have r := val_rep 255 16
  rw [val_app, l2, P32]
  rw [P16] at r ⊢
  generalize val (List.replicate 16 255) = R at *
  omega
 ·rw [if_neg (by rw [decide_eq_true_eq]; exact n), zelligeref02_Long.j0, long_l0 0 16 k l (by omega) (by omega) (by omega)]
  refine ⟨_, rfl, by simp [l2], Dg_app.2 ⟨l3, fun d hd => by have := (List.mem_replicate.1 hd).2; omega⟩, ?_⟩
  have r := val_rep 0 16
  rw [val_app, l2, P32]
  rw [P16] at r ⊢
  generalize val (List.replicate 16 0) = R at *
  omega
end Go.Proofs.Ytmeckkckjikjiaa.Qd
end
section
namespace Go.Proofs.Ytmeckkckjikjiaa.F
end Go.Proofs.Ytmeckkckjikjiaa.F
end
section
namespace Go.Proofs.Ytmeckkckjikjiaa.F
end Go.Proofs.Ytmeckkckjikjiaa.F
end
section
namespace Go.Proofs.Ytmeckkckjikjiaa.F
end Go.Proofs.Ytmeckkckjikjiaa.F
end
section
namespace Go.Proofs.Ytmeckkckjikjiaa.Whole
open Go RowKit YtmeckkckjikjiaaW.PrintWords YtmeckkckjikjiaaW.PrintLast YtmeckkckjikjiaaW.PrintMore Ytmeckkckjikjiaa.F Ytmeckkckjikjiaa.Dig
set_option linter.unusedVariables false
theorem make1_p {s : Int} {n : Nat} : zelligeref04_make1.f s (dig n) = some (if n = 0 then 0 else s, dig n) := by
 unfold zelligeref04_make1.f
 by_cases h : n = 0
 ·subst h; rw [dig_zero, if_pos (by simp), if_pos rfl]
 ·have h1 : (dig n).length ≠ 0 := fun e => h (dig_nil.1 (List.length_eq_zero_iff.1 e))
  rw [if_neg (by omega), if_neg h]
end Go.Proofs.Ytmeckkckjikjiaa.Whole
end
section
namespace Go.Proofs.Ytmeckkckjikjiaa.F
open RowKit YtmeckkckjikjiaaW.PrintWords YtmeckkckjikjiaaW.PrintLast YtmeckkckjikjiaaW.PrintMore
set_option linter.unusedVariables false
set_option linter.unusedSimpArgs false
mutual
def zelligeref04_Quad.j0 : Nat → List Int → Int → Option (Int × List Int)
 | 0, _, _ => none
 | k + 1, x3, x4 => zelligeref04_Quad.l0 k x3 x4 (([] : List Int)) 0
def zelligeref04_Quad.l0 : Nat → List Int → Int → List Int → Int → Option (Int × List Int)
 | 0, _, _, _, _ => none
 | k + 1, x3, x4, x5, x6 => if x6 < 32 then (if 0 ≤ x6 then (if x6 < (x3.length : Int) then (if 0 ≤ (wrap64 (x6 + 1)) then (if (wrap64 (x6 + 1)) < (x3.length : Int) then (if x5.length < 17592186044416 then (zelligeref04_Quad.l0 k x3 x4 (x5 ++ [wrap64 ((rd x3 x6) + (wrap64 (256 * (rd x3 (wrap64 (x6 + 1))))))]) (wrap64 (x6 + 2))) else (none)) else (none)) else (none)) else (none)) else (none)) else ((zelligeref03_Trim.f k x5).bind fun t559 => ((zelligeref04_make1.f x4 t559).bind fun bt562 => (some (bt562.1, bt562.2))))
end
def zelligeref04_Quad.f (k : Nat) (a0_0 : Int) (a0_1 : Int) (a0_2 : Int) (a0_3 : Int) : Option (Int × List Int) := (zelligeref02_Of.f a0_0 a0_1 a0_2 a0_3).bind fun t544 => ((zelligeref01_Below.f t544).bind fun t547 => (if t547 = true then ((zelligeref01_Neg.f k t544).bind fun t548 => (zelligeref04_Quad.j0 k t548 (-1))) else (zelligeref04_Quad.j0 k t544 1)))
theorem zelligeref04_Quad.mono_l : ∀ k, (∀ y0 y1, LeO (zelligeref04_Quad.j0 k y0 y1) (zelligeref04_Quad.j0 (k + 1) y0 y1)) ∧ (∀ y0 y1 y2 y3, LeO (zelligeref04_Quad.l0 k y0 y1 y2 y3) (zelligeref04_Quad.l0 (k + 1) y0 y1 y2 y3))
 | 0 => ⟨fun _ _ r h => by simp [zelligeref04_Quad.j0] at h, fun _ _ _ _ r h => by simp [zelligeref04_Quad.l0] at h⟩
 | k + 1 => by
  obtain ⟨ih0, ih1⟩ := zelligeref04_Quad.mono_l k
  refine ⟨?_, ?_⟩
  ·intro y0 y1
   unfold zelligeref04_Quad.j0
   repeat' first
   | (with_reducible exact ih0 _ _)
   | (with_reducible exact ih1 _ _ _ _)
   | (with_reducible exact zelligeref01_Neg.mono _ _)
   | (with_reducible exact zelligeref03_Trim.mono _ _)
   | (with_reducible exact LeO.refl _)
   | (with_reducible exact LeO.none _)
   | (with_reducible refine LeO.ite ?_ ?_)
   | (with_reducible refine LeO.bind ?_ (fun _ => ?_))
   | exact ih0 _ _
   | exact ih1 _ _ _ _
   | exact zelligeref01_Neg.mono _ _
   | exact zelligeref03_Trim.mono _ _
   | exact LeO.none _
   | refine LeO.ite ?_ ?_
   | refine LeO.bind ?_ (fun _ => ?_)
  ·intro y0 y1 y2 y3
   unfold zelligeref04_Quad.l0
   repeat' first
   | (with_reducible exact ih0 _ _)
   | (with_reducible exact ih1 _ _ _ _)
   | (with_reducible exact zelligeref01_Neg.mono _ _)
   | (with_reducible exact zelligeref03_Trim.mono _ _)
   | (with_reducible exact LeO.refl _)
   | (with_reducible exact LeO.none _)
   | (with_reducible refine LeO.ite ?_ ?_)
   | (with_reducible refine LeO.bind ?_ (fun _ => ?_))
   | exact ih0 _ _
   | exact ih1 _ _ _ _
   | exact zelligeref01_Neg.mono _ _
   | exact zelligeref03_Trim.mono _ _
   | exact LeO.none _
   | refine LeO.ite ?_ ?_
   | refine LeO.bind ?_ (fun _ => ?_)
theorem zelligeref04_Quad.mono : ∀ a0 a1 a2 a3 k, LeO (zelligeref04_Quad.f k a0 a1 a2 a3) (zelligeref04_Quad.f (k + 1) a0 a1 a2 a3) := by
 intro a0 a1 a2 a3 k
 obtain ⟨ih0, ih1⟩ := zelligeref04_Quad.mono_l k
 unfold zelligeref04_Quad.f
 repeat' first
   | (with_reducible exact ih0 _ _)
   | (with_reducible exact ih1 _ _ _ _)
   | (with_reducible exact zelligeref01_Neg.mono _ _)
   | (with_reducible exact zelligeref03_Trim.mono _ _)
   | (with_reducible exact LeO.refl _)
   | (with_reducible exact LeO.none _)
   | (with_reducible refine LeO.ite ?_ ?_)
   | (with_reducible refine LeO.bind ?_ (fun _ => ?_))
   | exact ih0 _ _
   | exact ih1 _ _ _ _
   | exact zelligeref01_Neg.mono _ _
   | exact zelligeref03_Trim.mono _ _
   | exact LeO.none _
   | refine LeO.ite ?_ ?_
   | refine LeO.bind ?_ (fun _ => ?_)
def zelligeref04_Quad.T8 : Bool × List (List Nat × List Nat) := (true, [([], []), ([], []), ([], []), ([1, 2], [1, 2]), ([3], [3]), ([], []), ([], []), ([6], [6]), ([5, 7], [5, 7]), ([8], [8]), ([9], [9]), ([4, 10], [4, 10]), ([11], [11]), ([0, 12], [0, 12]), ([13, 13, 0, 1, 2, 3, 4, 5, 6, 7, 8, 9, 10, 11, 12, 13], [0, 13])])
def zelligeref04_Quad.B8 : List Nat := [0, 0, 0, 6, 14, 0, 0, 64, 224, 480, 992, 2046, 4094, 8191, 16383]
theorem zelligeref04_Quad.tab8 : rtab .any (opsOf Try.f39 8) = zelligeref04_Quad.T8 := by kernel_rfl
theorem zelligeref04_Quad.bits8 : waitsOk zelligeref04_Quad.T8.2 zelligeref04_Quad.B8 = true := by kernel_rfl
set_option maxHeartbeats 8000000 in
set_option maxRecDepth 100000 in
theorem zelligeref04_Quad.calls (k : Nat) (a0_0 : Int) (a0_1 : Int) (a0_2 : Int) (a0_3 : Int) (r1 : Int) (r2 : List Int) (w : World) (h : zelligeref04_Quad.f k a0_0 a0_1 a0_2 a0_3 = some (r1, r2)) :
  Calls Try.prog 39 #[.agg #[.int .u64 a0_0, .int .u64 a0_1, .int .u64 a0_2, .int .u64 a0_3]] w fun e w' => ∃ v1_ : Value, e = .returned (.agg #[.int .i64 r1, v1_]) ∧ Kd.R (Kd.int .i64) 3 w' w.heap.size (fun _ => True) v1_ r2 ∧ Below w.heap.size w w' := by
 have hu50 := Try.underlying50
 have hu33 := Try.underlying33
 have HB := Aside0.mk (Below.refl w.heap.size w)
 have H : ((zelligeref02_Of.f a0_0 a0_1 a0_2 a0_3).bind fun t544 => ((zelligeref01_Below.f t544).bind fun t547 => (if t547 = true then ((zelligeref01_Neg.f k t544).bind fun t548 => (zelligeref04_Quad.j0 k t548 (-1))) else (zelligeref04_Quad.j0 k t544 1)))) = some (r1, r2) := h
 clear h
 replace H := Option.bind_eq_some_iff.mp H
 obtain ⟨t544, A20, H⟩ := H
 try dsimp only at H
 have A2 := Aside0.mk A20
 clear A20
 replace H := Option.bind_eq_some_iff.mp H
 obtain ⟨t547, A30, H⟩ := H
 try dsimp only at H
 have A3 := Aside0.mk A30
 clear A30
 have HC4 := Aside0.mk H
 clear H
 go_enter Try.func39, Try.ntmps39
 go_upto_if 10 with (first | ((with_reducible refine gate_dst (N := 1) rfl ?_); refine bx 1 #[.int .u64 a0_0, .int .u64 a0_1, .int .u64 a0_2, .int .u64 a0_3] 50 ?_; intro gb542 hg w5 hbox hb; have BK542 := Aside0.mk hbox; have GW542 := u3 hg HB; have GE542 := u3 hg HB; replace HB := u2 HB hb; clear hb hbox hg) | ((with_reducible refine gate_dst (N := 2) rfl ?_); refine bx 2 #[.int .i64 0, .slice none 0 0] 33 ?_; intro gb543 hg w6 hbox hb; have BK543 := Aside0.mk hbox; have GW543 := u3 hg HB; have GE543 := u3 hg HB; have NB542_543 := u4 hg BK542; have NB543_542 := u5 hg BK542; replace BK542 := u1 BK542 hb; replace HB := u2 HB hb; clear hb hbox hg; have hnb7 := NB542_543.out; have hnc7 := NB543_542.out; obtain ⟨hcz8_0, hcz8_1, hcz8_2, hcz8_3, hfz8_0, hfz8_1, hfz8_2, hfz8_3⟩ := p4 BK542) | ((with_reducible refine gate_callee (f := 61) rfl ?_); refine gL (some 8) Try.func61 #[.agg #[.int .u64 a0_0, .int .u64 a0_1, .int .u64 a0_2, .int .u64 a0_3]] rfl ?_; (with_reducible refine (zelligeref02_Of.calls a0_0 a0_1 a0_2 a0_3 t544 _ A2.out).mono ?_); rintro e w9 ⟨v545, rfl, ho0, hb⟩; refine ⟨_, rfl, ?_⟩; have n0_ := Aside0.mk (Kd.R_lower ho0 (below_size (bw HB.out))); have n1_ := u1 BK542 hb; have n2_ := u1 BK543 hb; have n3_ := u2 HB hb; clear BK542; clear BK543; clear HB; have HO546 := n0_; have BK542 := n1_; have BK543 := n2_; have HB := n3_; clear n0_ n1_ n2_ n3_; (try clear hb); (try clear hb2); (try clear hk); (try clear hi); (try clear ho0); obtain ⟨Ao10, co10, eo10⟩ := Kd.R_slice HO546.out; subst eo10) | ((with_reducible refine gate_callee (f := 62) rfl ?_); refine gL (some 10) Try.func62 #[.slice Ao10 t544.length co10] rfl ?_; (with_reducible refine (zelligeref01_Below.calls _ _ t544 t547 _ ?side1 ?side2 A3.out).mono ?_); (case side1 => repeat (first | exact (Kd.R_reads' HO546.out).2.2 | (with_reducible refine Kd.C_alloc ?_ _) | (with_reducible refine Kd.C_drewN ?_ _) | (with_reducible refine Kd.C_drew ?_))); (case side2 => exact (Kd.R_reads' HO546.out).2.1); rintro e w' ⟨rfl, ⟨nd, rfl⟩⟩; refine ⟨_, rfl, ?_⟩))
 (try simp only [Act.put, List.setIfInBounds_toArray, List.set_cons_zero, List.set_cons_succ])
 go_cut [3, 4] (fun v3 v4 wc => ∃ (kq : Nat) (x3_3 : List Int) (x4_3 : Int), v4 = .int .i64 x4_3 ∧ Aside0 (zelligeref04_Quad.j0 kq x3_3 x4_3 = some (r1, r2)) ∧ Aside0 (kq ≤ k) ∧ Aside0 (Kd.R (Kd.int .i64) 3 wc w.heap.size (fun _ => True) v3 x3_3) ∧ Aside0 (wc.heap[gb542]? = some (.cells #[.int .u64 a0_0, .int .u64 a0_1, .int .u64 a0_2, .int .u64 a0_3] 50 (0, 0))) ∧ Aside0 (wc.heap[gb543]? = some (.cells #[.int .i64 0, (.slice none 0 0)] 33 (0, 0))) ∧ Aside0 (Below w.heap.size w wc))
 case first =>
  have H := HC4.out
  clear HC4
  by_cases c11 : t547 = true
  ·subst c11
   rw [if_pos rfl] at H
   replace H := Option.bind_eq_some_iff.mp H
   obtain ⟨t548, A120, H⟩ := H
   try dsimp only at H
   have A12 := Aside0.mk A120
   clear A120
   have H' := Aside0.mk H
   clear H
   go_wp2_with (first | ((with_reducible refine gate_callee (f := 63) rfl ?_); refine gL (some 12) Try.func63 #[.slice Ao10 t544.length co10] rfl ?_; (with_reducible refine (zelligeref01_Neg.calls k _ _ t544 t548 _ ?side1 ?side2 A12.out).mono ?_); (case side1 => repeat (first | exact (Kd.R_reads' HO546.out).2.2 | (with_reducible refine Kd.C_alloc ?_ _) | (with_reducible refine Kd.C_drewN ?_ _) | (with_reducible refine Kd.C_drew ?_))); (case side2 => exact (Kd.R_reads' HO546.out).2.1); rintro e w13 ⟨v549, rfl, ho0, hb⟩; refine ⟨_, rfl, ?_⟩; have n0_ := Aside0.mk (Kd.R_elder' (by (with_reducible repeat (first | apply Kd.R_alloc | apply Kd.R_drewN | apply Kd.R_drew)); exact HO546.out) (Kd.R_base ho0) hb); have n1_ := Aside0.mk (Kd.R_lower (Kd.R_new' ho0 (Kd.R_lt (by (with_reducible repeat (first | apply Kd.R_alloc | apply Kd.R_drewN | apply Kd.R_drew)); exact HO546.out))) (below_size (bw HB.out))); have n2_ := u1 BK542 hb; have n3_ := u1 BK543 hb; have n4_ := u2 HB hb; clear HO546; clear BK542; clear BK543; clear HB; have HO546 := n0_; have HO550 := n1_; have BK542 := n2_; have BK543 := n3_; have HB := n4_; clear n0_ n1_ n2_ n3_ n4_; (try clear hb); (try clear hb2); (try clear hk); (try clear hi); (try clear ho0)))
   go_meet
   case rel => exact ⟨_, (t548), ((-1)), (by first | rfl | (simp; done) | (simp [*]; done)), H', ⟨by first | omega | exact Nat.le_refl _⟩, ⟨by (with_reducible repeat (first | apply Kd.R_alloc | apply Kd.R_drewN | apply Kd.R_drew)); exact Kd.R_mono HO550.out (fun _ hk => trivial)⟩, ⟨bk BK542.out⟩, ⟨bk BK543.out⟩, ⟨bw HB.out⟩⟩
  ·replace c11 := Bool.eq_false_iff.mpr c11
   subst c11
   rw [if_neg (show ¬ (false = true) by decide)] at H
   have H' := Aside0.mk H
   clear H
   go_wp2
   go_meet
   case rel => exact ⟨_, (t544), (1), (by first | rfl | (simp; done) | (simp [*]; done)), H', ⟨by first | omega | exact Nat.le_refl _⟩, ⟨by (with_reducible repeat (first | apply Kd.R_alloc | apply Kd.R_drewN | apply Kd.R_drew)); exact HO546.out⟩, ⟨bk BK542.out⟩, ⟨bk BK543.out⟩, ⟨bw HB.out⟩⟩
 case rest =>
  clear HC4
  try clear c1
  try clear p2
  try clear c3
  try clear c6
  try clear c7
  try clear c11
  try clear hcz8_0
  try clear hcz8_1
  try clear hcz8_2
  try clear hcz8_3
  try clear hfz8_0
  try clear hfz8_1
  try clear hfz8_2
  try clear hfz8_3
  obtain ⟨kq, x3_3, x4_3, rfl, HA, HJ3, HO_3, BK542, BK543, HB⟩ := hcut
  cases kq with
  | zero => exact absurd HA.out (by simp [zelligeref04_Quad.j0])
  | succ kj3 =>
   have H := HA.out
   clear HA
   simp only [zelligeref04_Quad.j0] at H
   obtain ⟨y551, hy551⟩ : ∃ y_ : List Int, y_ = (([] : List Int)) := ⟨_, rfl⟩
   replace H : (zelligeref04_Quad.l0 kj3 x3_3 x4_3 y551 0) = some (r1, r2) := by first | (rw [hy551]; with_reducible exact H) | (have H2_ := (Option.bind_some _ _).symm.trans H; rw [hy551]; with_reducible exact H2_) | (have H2_ := (Option.bind_some _ _).symm.trans H; with_reducible exact H2_) | with_reducible exact H | (rw [hy551]; exact H) | exact H
   have Ny551 := Aside0.mk hy551
   clear hy551
   have H' := Aside0.mk H
   clear H
   go_wp2_with (first | ((with_reducible refine gate_dst (N := 13) rfl ?_); refine Kd.R_lit (Kd.int .i64) _ 3 ?hg (N := 13) ?hd (xs := ([] : List Int)) (inner := []) (ok := fun _ => True) (okp := fun _ => True) ?hr ?hp (fun _ hk => hk) trivial (Below.refl _ _) (Nat.le_refl _) (by simp) ?_; (case hd => rfl); (case hg => rfl); (case hr => first | (go_simp; done) | (go_simp; rfl)); (case hp => exact (Reps.none _ _)); intro v552 w14 ho15 hb hg_ hnew_; clear hg_ hnew_; (first | rw [← Ny551.out] at ho15 | (simp only [Int.reduceToNat] at ho15; rw [← Ny551.out] at ho15)); have n0_ := Aside0.mk (Kd.R_elder' (by (with_reducible repeat (first | apply Kd.R_alloc | apply Kd.R_drewN | apply Kd.R_drew)); exact HO_3.out) (Kd.R_base ho15) hb); have n1_ := Aside0.mk (Kd.R_lower (Kd.R_new' ho15 (Kd.R_lt (by (with_reducible repeat (first | apply Kd.R_alloc | apply Kd.R_drewN | apply Kd.R_drew)); exact HO_3.out))) (below_size (bw HB.out))); have n2_ := u1 BK542 hb; have n3_ := u1 BK543 hb; have n4_ := u2 HB hb; clear HO_3; clear BK542; clear BK543; clear HB; have HO_3 := n0_; have HO553 := n1_; have BK542 := n2_; have BK543 := n3_; have HB := n4_; clear n0_ n1_ n2_ n3_ n4_; clear hb ho15))
   go_loopg [5, 6] kj3 (fun kq v5 v6 w' => ∃ (x5_2 : List Int) (x6_2 : Int), v6 = .int .i64 x6_2 ∧ Aside0 (zelligeref04_Quad.l0 kq x3_3 x4_3 x5_2 x6_2 = some (r1, r2)) ∧ Aside0 (kq ≤ kj3) ∧ Aside0 (Kd.R (Kd.int .i64) 3 w' w.heap.size (fun k_ => some k_ ≠ (v5 : Value).ownBlock) u3 x3_3) ∧ Aside0 (Kd.R (Kd.int .i64) 3 w' w.heap.size (fun k_ => some k_ ≠ (u3 : Value).ownBlock) v5 x5_2) ∧ Aside0 (w'.heap[gb542]? = some (.cells #[.int .u64 a0_0, .int .u64 a0_1, .int .u64 a0_2, .int .u64 a0_3] 50 (0, 0))) ∧ Aside0 (w'.heap[gb543]? = some (.cells #[.int .i64 0, (.slice none 0 0)] 33 (0, 0))) ∧ Aside0 (Below w.heap.size w w'))
   case atStart => exact ⟨(y551), (0), (by first | rfl | (simp; done) | (simp [*]; done)), H', ⟨Nat.le_refl _⟩, ⟨by (with_reducible repeat (first | apply Kd.R_alloc | apply Kd.R_drewN | apply Kd.R_drew)); exact Kd.R_mono HO_3.out (fun _ hk => hk.2)⟩, ⟨by (with_reducible repeat (first | apply Kd.R_alloc | apply Kd.R_drewN | apply Kd.R_drew)); exact Kd.R_mono HO553.out (fun _ hk => hk.2)⟩, ⟨bk BK542.out⟩, ⟨bk BK543.out⟩, ⟨bw HB.out⟩⟩
   case round =>
    clear H'
    try clear c1
    try clear p2
    try clear c3
    try clear c6
    try clear c7
    try clear c11
    try clear hcz8_0
    try clear hcz8_1
    try clear hcz8_2
    try clear hcz8_3
    try clear hfz8_0
    try clear hfz8_1
    try clear hfz8_2
    try clear hfz8_3
    try clear p2
    obtain ⟨x5_2, x6_2, rfl, HA, HK2, HO_3, HO_5, BK542, BK543, HB⟩ := hrel
    cases gk with
    | zero => exact absurd HA.out (by simp [zelligeref04_Quad.l0])
    | succ k2 =>
     have H := HA.out
     clear HA
     simp only [zelligeref04_Quad.l0] at H
     by_cases c16 : x6_2 < 32
     ·rw [if_pos c16] at H
      have c16b0 : decide (x6_2 < 32) = true := decide_eq_true c16
      clear c16
      by_cases c17 : 0 ≤ x6_2
      ·rw [if_pos c17] at H
       have c17b0 : decide (0 ≤ x6_2) = true := decide_eq_true c17
       clear c17
       by_cases c18 : x6_2 < (x3_3.length : Int)
       ·rw [if_pos c18] at H
        have c18b0 : decide (x6_2 < (x3_3.length : Int)) = true := decide_eq_true c18
        clear c18
        obtain ⟨ji19, hji19⟩ : ∃ j_ : Int, (wrap64 (x6_2 + 1)) = j_ := ⟨_, rfl⟩
        replace H : (if 0 ≤ (ji19) then (if (ji19) < (x3_3.length : Int) then (if x5_2.length < 17592186044416 then (zelligeref04_Quad.l0 k2 x3_3 x4_3 (x5_2 ++ [wrap64 ((rd x3_3 x6_2) + (wrap64 (256 * (rd x3_3 (ji19)))))]) (wrap64 (x6_2 + 2))) else (none)) else (none)) else (none)) = some (r1, r2) := by first | (rw [hji19] at H; exact H) | (simp only [hji19] at H ⊢; exact H)
        have hji19w : (IntKind.i64.wrap (x6_2 + 1)) = ji19 := (i64_w _).trans hji19
        by_cases c20 : 0 ≤ (ji19)
        ·rw [if_pos c20] at H
         have c20b0 : decide (0 ≤ (ji19)) = true := decide_eq_true c20
         clear c20
         by_cases c21 : (ji19) < (x3_3.length : Int)
         ·rw [if_pos c21] at H
          have c21b0 : decide ((ji19) < (x3_3.length : Int)) = true := decide_eq_true c21
          clear c21
          by_cases c22 : x5_2.length < 17592186044416
          ·rw [if_pos c22] at H
           have LMc22 := Aside0.mk c22
           clear c22
           obtain ⟨y556, hy556⟩ : ∃ y_ : List Int, y_ = (x5_2 ++ [wrap64 ((rd x3_3 x6_2) + (wrap64 (256 * (rd x3_3 (ji19)))))]) := ⟨_, rfl⟩
           replace H : (zelligeref04_Quad.l0 k2 x3_3 x4_3 y556 (wrap64 (x6_2 + 2))) = some (r1, r2) := by first | (rw [hy556]; with_reducible exact H) | (have H2_ := (Option.bind_some _ _).symm.trans H; rw [hy556]; with_reducible exact H2_) | (have H2_ := (Option.bind_some _ _).symm.trans H; with_reducible exact H2_) | with_reducible exact H | (rw [hy556]; exact H) | exact H
           have Ny556 := Aside0.mk hy556
           clear hy556
           have H' := Aside0.mk H
           clear H
           try go_wp2
           have n0_ := Aside0.mk (Kd.R_drew HO_3.out)
           have n1_ := Aside0.mk (Kd.R_drew HO_5.out)
           have n2_ := Aside0.mk (blk_drew BK542.out)
           have n3_ := Aside0.mk (blk_drew BK543.out)
           have n4_ := Aside0.mk (below_drew1 HB.out)
           clear HO_3
           clear HO_5
           clear BK542
           clear BK543
           clear HB
           have HO_3 := n0_
           have HO_5 := n1_
           have BK542 := n2_
           have BK543 := n3_
           have HB := n4_
           clear n0_ n1_ n2_ n3_ n4_
           obtain ⟨Ao24, co24, eo24⟩ := Kd.R_slice HO_3.out
           (first | subst eo24 | (injection eo24 with f1_ f2_ f3_; have f4_ := f1_.symm; have f5_ := f3_.symm; clear f1_ f2_ f3_; subst f4_; subst f5_))
           have p554 : 0 ≤ (x6_2 : Int) := dt_
           have q554 : x6_2 < (x3_3.length : Int) := dt_
           obtain ⟨ad554, e554, hx554_0⟩ := Kd.at_int (Kd.R_reads' HO_3.out).2.2 x6_2 p554 q554
           cases e554
           replace p554 := eq_true p554
           replace q554 := eq_true q554
           have p555 : 0 ≤ ((ji19) : Int) := dt_
           have q555 : (ji19) < (x3_3.length : Int) := dt_
           obtain ⟨ad555, e555, hx555_0⟩ := Kd.at_int (Kd.R_reads' HO_3.out).2.2 (ji19) p555 q555
           obtain rfl : ad554 = ad555 := (by injection e555)
           replace p555 := eq_true p555
           replace q555 := eq_true q555
           refine start_ (n := 15) (S := fun w' => w'.cell? (ad554.add (x6_2).toNat) = some (.int .i64 (rd x3_3 x6_2)) ∧ w'.cell? (ad554.add ((ji19)).toNat) = some (.int .i64 (rd x3_3 (ji19)))) (ds := [12, 13]) #[F_,F_,F_,F_,F_,F_,F_,F_,F_,F_,F_,F_,F_,F_,F_] (by kernel_rfl) rfl rfl ⟨hx554_0, hx555_0⟩ (fun hHeld => ?_); refine with_tabW zelligeref04_Quad.tab8 zelligeref04_Quad.bits8 (fun HT_ HW_ => ?_)
           generalize wr.drew = w23 at HO_3 HO_5 BK542 BK543 HB hx554_0 hx555_0 hHeld ⊢
           refine pA (i := 0) (N := some 18) (v := ?_) (a' := ?_) #[T_,F_,F_,F_,F_,F_,F_,F_,F_,F_,F_,F_,F_,F_,F_] rfl rfl HT_ (Or.inl ⟨by rfl, ?_⟩) ?_ ?_
           rotate_left
           ·intro w'
            go_simp
            with_reducible rfl
           rotate_left
           ·simp only [Act.put, s1, s2, s3, i64_w, i32_w]
            rfl
           refine pA (i := 1) (N := some 19) (v := ?_) (a' := ?_) #[T_,T_,F_,F_,F_,F_,F_,F_,F_,F_,F_,F_,F_,F_,F_] rfl rfl HT_ (Or.inl ⟨by rfl, ?_⟩) ?_ ?_
           rotate_left
           ·intro w'
            go_simp
            with_reducible rfl
           rotate_left
           ·simp only [Act.put, s1, s2, s3, i64_w, i32_w]
            rfl
           refine pA (i := 2) (N := some 20) (v := ?_) (a' := ?_) #[T_,T_,T_,F_,F_,F_,F_,F_,F_,F_,F_,F_,F_,F_,F_] rfl rfl HT_ (Or.inl ⟨by rfl, ?_⟩) ?_ ?_
           rotate_left
           ·intro w'
            go_simp
            with_reducible rfl
           rotate_left
           ·simp only [Act.put, s1, s2, s3, i64_w, i32_w]
            rfl
           refine pA (i := 3) (N := some 21) (v := ?_) (a' := ?_) #[T_,T_,T_,T_,F_,F_,F_,F_,F_,F_,F_,F_,F_,F_,F_] rfl rfl HT_ (Or.inl ⟨by rfl, ?_⟩) ?_ ?_
           rotate_left
           ·intro w'
            go_simp
            with_reducible rfl
           rotate_left
           ·simp only [Act.put, s1, s2, s3, i64_w, i32_w]
            rfl
           refine pA (i := 5) (N := some 23) (v := ?_) (a' := ?_) #[T_,T_,T_,T_,F_,T_,F_,F_,F_,F_,F_,F_,F_,F_,F_] rfl rfl HT_ (Or.inl ⟨by rfl, ?_⟩) ?_ ?_
           rotate_left
           ·intro w'
            go_simp
            with_reducible rfl
           rotate_left
           ·simp only [Act.put, s1, s2, s3, i64_w, i32_w]
            rfl
           refine pA (i := 6) (N := some 24) (v := ?_) (a' := ?_) #[T_,T_,T_,T_,F_,T_,T_,F_,F_,F_,F_,F_,F_,F_,F_] rfl rfl HT_ (Or.inl ⟨by rfl, ?_⟩) ?_ ?_
           rotate_left
           ·intro w'
            go_simp
            with_reducible rfl
           rotate_left
           ·simp only [Act.put, s1, s2, s3, i64_w, i32_w]
            rfl
           refine pA (i := 7) (N := some 25) (v := ?_) (a' := ?_) #[T_,T_,T_,T_,F_,T_,T_,T_,F_,F_,F_,F_,F_,F_,F_] rfl rfl HT_ (Or.inl ⟨by rfl, ?_⟩) ?_ ?_
           rotate_left
           ·intro w'
            go_simp
            with_reducible rfl
           rotate_left
           ·simp only [Act.put, s1, s2, s3, i64_w, i32_w]
            rfl
           refine pA (i := 8) (N := some 26) (v := ?_) (a' := ?_) #[T_,T_,T_,T_,F_,T_,T_,T_,T_,F_,F_,F_,F_,F_,F_] rfl rfl HT_ (Or.inl ⟨by rfl, ?_⟩) ?_ ?_
           rotate_left
           ·intro w'
            go_simp
            with_reducible rfl
           rotate_left
           ·simp only [Act.put, s1, s2, s3, i64_w, i32_w]
            rfl
           refine tA (i := 4) (N := some 22) (v := ?_) (a' := ?_) #[T_,T_,T_,T_,T_,T_,T_,T_,T_,F_,F_,F_,F_,F_,F_] rfl rfl HT_ HW_ (Or.inl ⟨by rfl, ?_⟩) hHeld ?_ ?_
           rotate_left
           ·rintro w' ⟨s0, s1⟩
            go_simp
            with_reducible rfl
           rotate_left
           ·simp only [Act.put, s1, s2, s3, i64_w, i32_w]
            rfl
           refine tA (i := 9) (N := some 27) (v := ?_) (a' := ?_) #[T_,T_,T_,T_,T_,T_,T_,T_,T_,T_,F_,F_,F_,F_,F_] rfl rfl HT_ HW_ (Or.inl ⟨by rfl, ?_⟩) hHeld ?_ ?_
           rotate_left
           ·rintro w' ⟨s0, s1⟩
            go_simp
            with_reducible rfl
           rotate_left
           ·simp only [Act.put, s1, s2, s3, i64_w, i32_w]
            rfl
           refine pA (i := 10) (N := some 28) (v := ?_) (a' := ?_) #[T_,T_,T_,T_,T_,T_,T_,T_,T_,T_,T_,F_,F_,F_,F_] rfl rfl HT_ (Or.inl ⟨by rfl, ?_⟩) ?_ ?_
           rotate_left
           ·intro w'
            go_simp
            with_reducible rfl
           rotate_left
           ·simp only [Act.put, s1, s2, s3, i64_w, i32_w]
            rfl
           refine pA (i := 11) (N := some 29) (v := ?_) (a' := ?_) #[T_,T_,T_,T_,T_,T_,T_,T_,T_,T_,T_,T_,F_,F_,F_] rfl rfl HT_ (Or.inl ⟨by rfl, ?_⟩) ?_ ?_
           rotate_left
           ·intro w'
            go_simp
            with_reducible rfl
           rotate_left
           ·simp only [Act.put, s1, s2, s3, i64_w, i32_w]
            rfl
           refine last_ (i := 12) (N := some 30) #[T_,T_,T_,T_,T_,T_,T_,T_,T_,T_,T_,T_,T_,F_,F_] rfl rfl (one_of HT_.out (by kernel_rfl)) (by decide) (fun K hK => ?_)
           refine value_ (w1 := ?_) (v := ?_) (by rfl) rfl ?_ ?_
           rotate_left 2
           ·go_simp
            constructor
            ·rfl
            ·rfl
           refine hK.out _ _ ?_
           clear hK K
           refine norm_ (a' := ?_) ?_ ?_
           rotate_left
           ·show Act.put _ (some 30) _ = _
            simp only [Act.put, s1, s2, s3, i64_w, i32_w]
            rfl
           refine last_ (i := 13) (N := some 31) #[T_,T_,T_,T_,T_,T_,T_,T_,T_,T_,T_,T_,T_,T_,F_] rfl rfl (one_of HT_.out (by kernel_rfl)) (by decide) (fun K hK => ?_)
           refine Kd.R_append_step (Kd.int .i64) (w0 := w) w.heap.size (by rfl) (.tmp 18) (.tmp 30) 30 3 (.int .i64 0) 8 rfl Try.underlying30 info3 rfl (by decide) (by omega) u5 x5_2 (wrap64 ((rd x3_3 x6_2) + (wrap64 (256 * (rd x3_3 (ji19)))))) [.int .i64 (wrap64 ((rd x3_3 x6_2) + (wrap64 (256 * (rd x3_3 (ji19))))))] (fun k_ => some k_ ≠ (.slice (some ad554) x3_3.length co24 : Value).ownBlock) (fun _ => False) rfl rfl ?aP (fun _ hk => hk.elim) ?aF ?aO ?aB ?aS ?aL ?_
           (case aP => exact rfl)
           (case aB => exact (bw HB.out))
           (case aF => exact (fun k_ hk => Kd.fresh' (Kd.R_lt (by (with_reducible repeat (first | apply Kd.R_alloc | apply Kd.R_drewN | apply Kd.R_drew)); exact HO_3.out)) k_ hk))
           (case aO => exact (by (with_reducible repeat (first | apply Kd.R_alloc | apply Kd.R_drewN | apply Kd.R_drew)); exact HO_5.out))
           (case aS => exact (below_size (bw HB.out)))
           (case aL => have := LMc22.out; omega)
           intro v557 w25 ho hb hg hat
           rw [← Ny556.out] at ho
           have n0_ := Aside0.mk (Kd.R_after (ok := (fun _ => True)) (by (with_reducible repeat (first | apply Kd.R_alloc | apply Kd.R_drewN | apply Kd.R_drew)); exact Kd.R_mono HO_3.out (fun _ hk => ⟨trivial, hk⟩)) hg hat)
           have n1_ := Aside0.mk (blk_grown (bk BK542.out) hg (Kd.R_ne HO_5.out BK542.out (by decide)))
           have n2_ := Aside0.mk (blk_grown (bk BK543.out) hg (Kd.R_ne HO_5.out BK543.out (by decide)))
           have n3_ := Aside0.mk (hb)
           have n4_ := Aside0.mk (ho)
           clear HO_3
           clear BK542
           clear BK543
           clear HB
           clear HO_5
           have HO_3 := n0_
           have BK542 := n1_
           have BK543 := n2_
           have HB := n3_
           have HO558 := n4_
           clear n0_ n1_ n2_ n3_ n4_
           clear ho hb hg hat
           refine hK.out _ _ ?_
           clear hK K
           refine norm_ (a' := ?_) ?_ ?_
           rotate_left
           ·show Act.put _ (some 31) _ = _
            simp only [Act.put, s1, s2, s3, i64_w, i32_w]
            rfl
           refine pA (i := 14) (N := some 5) (v := ?_) (a' := ?_) #[T_,T_,T_,T_,T_,T_,T_,T_,T_,T_,T_,T_,T_,T_,T_] rfl rfl HT_ (Or.inl ⟨by rfl, ?_⟩) ?_ ?_
           rotate_left
           ·intro w'
            go_simp
            with_reducible rfl
           rotate_left
           ·simp only [Act.put, s1, s2, s3, i64_w, i32_w]
            rfl
           refine done_ (done_of HT_.out (by kernel_rfl)) ?_
           try go_wp2
           go_roundg k2
           case measure => have := HJ3.out; have := HK2.out; omega
           case rel => exact ⟨(y556), (wrap64 (x6_2 + 2)), (by first | rfl | (simp; done) | (simp [*]; done)), H', ⟨by have := HJ3.out; have := HK2.out; omega⟩, ⟨by (with_reducible repeat (first | apply Kd.R_alloc | apply Kd.R_drewN | apply Kd.R_drew)); exact Kd.R_mono HO_3.out (fun _ hk => hk.2)⟩, ⟨by (with_reducible repeat (first | apply Kd.R_alloc | apply Kd.R_drewN | apply Kd.R_drew)); exact HO558.out⟩, ⟨bk BK542.out⟩, ⟨bk BK543.out⟩, ⟨bw HB.out⟩⟩
          ·rw [if_neg c22] at H
           exact absurd H (by simp)
         ·rw [if_neg c21] at H
          exact absurd H (by simp)
        ·rw [if_neg c20] at H
         exact absurd H (by simp)
       ·rw [if_neg c18] at H
        exact absurd H (by simp)
      ·rw [if_neg c17] at H
       exact absurd H (by simp)
     ·rw [if_neg c16] at H
      have c16b0 : decide (x6_2 < 32) = false := decide_eq_false c16
      clear c16
      replace H := Option.bind_eq_some_iff.mp H
      obtain ⟨t559, A260, H⟩ := H
      try dsimp only at H
      have A26 := Aside0.mk A260
      clear A260
      replace H := Option.bind_eq_some_iff.mp H
      obtain ⟨⟨t562, t563⟩, A270, H⟩ := H
      try dsimp only at H
      have A27 := Aside0.mk A270
      clear A270
      simp only [Option.some.injEq, Prod.mk.injEq] at H
      obtain ⟨rfl, rfl⟩ := H
      obtain ⟨Ao28, co28, eo28⟩ := Kd.R_slice HO_5.out
      subst eo28
      go_wp2_with (first | ((with_reducible refine gate_callee (f := 64) rfl ?_); refine gL (some 34) Try.func64 #[.slice Ao28 x5_2.length co28] rfl ?_; (with_reducible refine (zelligeref03_Trim.calls k2 (fun k_ => some k_ = (.slice Ao28 x5_2.length co28 : Value).ownBlock) (.slice Ao28 x5_2.length co28) x5_2 t559 w _ ?side1 ?side2 A26.out).mono ?_); (case side1 => repeat (first | (with_reducible first | exact HB.out | apply below_alloc | apply pw_below_drewN | apply below_drew1 | refine below_set ?_ GE542.out | refine below_set ?_ GE543.out) | exact HB.out)); (case side2 => exact Kd.R_tight rfl HO_5.out); rintro e w29 ⟨v560, rfl, ho0, hb, hkp⟩; refine ⟨_, rfl, ?_⟩; have n0_ := Aside0.mk (Kd.R_mono (ok' := fun k_ => some k_ ≠ (v560 : Value).ownBlock) (Kd.R_keptB (HO_3.out) hkp (fun k_ hk_ hs_ => (hk_) hs_)) (fun k_ hk_ => fun e_ => Or.elim (ho0.1 k_ e_.symm) (fun hs_ => hk_.2.1 hs_) (fun hn_ => Nat.not_le.2 hk_.2.2 hn_))); have n1_ := Aside0.mk (blk_kept (bk BK542.out) hkp (fun hs_ => (fun e_ => (Kd.R_ne HO_5.out BK542.out (by decide)) e_) hs_)); have n2_ := Aside0.mk (blk_kept (bk BK543.out) hkp (fun hs_ => (fun e_ => (Kd.R_ne HO_5.out BK543.out (by decide)) e_) hs_)); have n3_ := Aside0.mk (Kd.R_mono (ok' := fun k_ => some k_ ≠ (u3 : Value).ownBlock) ho0 (fun k_ hk_ => Or.elim hk_ (fun hs_ => fun e_ => (((HO_3.out).1 k_ e_.symm)) hs_) (fun hn_ => (Kd.fresh' (Kd.R_lt (by (with_reducible repeat (first | apply Kd.R_alloc | apply Kd.R_drewN | apply Kd.R_drew)); exact HO_3.out)) k_ hn_)))); have n4_ := Aside0.mk (hb); clear HO_3; clear BK542; clear BK543; clear HB; clear HO_5; have HO_3 := n0_; have BK542 := n1_; have BK543 := n2_; have HO561 := n3_; have HB := n4_; clear n0_ n1_ n2_ n3_ n4_; (try clear hb); (try clear hkp); (try clear ho0); obtain ⟨Ao30, co30, eo30⟩ := Kd.R_slice HO561.out; subst eo30) | ((with_reducible refine gate_callee (f := 54) rfl ?_); refine gL (some 35) Try.func54 #[.int .i64 x4_3, .slice Ao30 t559.length co30] rfl ?_; (with_reducible refine (zelligeref04_make1.calls x4_3 (fun k_ => some k_ = (.slice Ao30 t559.length co30 : Value).ownBlock) (.slice Ao30 t559.length co30) t559 t562 t563 w _ ?side1 ?side2 A27.out).mono ?_); (case side1 => repeat (first | (with_reducible first | exact HB.out | apply below_alloc | apply pw_below_drewN | apply below_drew1 | refine below_set ?_ GE542.out | refine below_set ?_ GE543.out) | exact HB.out)); (case side2 => exact Kd.R_tight rfl HO561.out); rintro e w31 ⟨v564, rfl, ho0, hb, hkp⟩; refine ⟨_, rfl, ?_⟩; have n0_ := Aside0.mk (Kd.R_mono (ok' := fun k_ => some k_ ≠ (v564 : Value).ownBlock) (Kd.R_keptB (HO_3.out) hkp (fun k_ hk_ hs_ => (hk_) hs_)) (fun k_ hk_ => fun e_ => Or.elim (ho0.1 k_ e_.symm) (fun hs_ => hk_.2.1 hs_) (fun hn_ => Nat.not_le.2 hk_.2.2 hn_))); have n1_ := Aside0.mk (blk_kept (bk BK542.out) hkp (fun hs_ => (fun e_ => (Kd.R_ne HO561.out BK542.out (by decide)) e_) hs_)); have n2_ := Aside0.mk (blk_kept (bk BK543.out) hkp (fun hs_ => (fun e_ => (Kd.R_ne HO561.out BK543.out (by decide)) e_) hs_)); have n3_ := Aside0.mk (Kd.R_mono (ok' := fun k_ => some k_ ≠ (u3 : Value).ownBlock) ho0 (fun k_ hk_ => Or.elim hk_ (fun hs_ => fun e_ => (((HO_3.out).1 k_ e_.symm)) hs_) (fun hn_ => (Kd.fresh' (Kd.R_lt (by (with_reducible repeat (first | apply Kd.R_alloc | apply Kd.R_drewN | apply Kd.R_drew)); exact HO_3.out)) k_ hn_)))); have n4_ := Aside0.mk (hb); clear HO_3; clear BK542; clear BK543; clear HB; clear HO561; have HO_3 := n0_; have BK542 := n1_; have BK543 := n2_; have HO565 := n3_; have HB := n4_; clear n0_ n1_ n2_ n3_ n4_; (try clear hb); (try clear hkp); (try clear ho0); have hnb32 := NB543_542.out; have hnc32 := NB542_543.out; obtain ⟨_, _, _, _⟩ := p2 BK543; obtain ⟨Ao34, co34, eo34⟩ := Kd.R_slice HO565.out; subst eo34))
      refine bodyPost_ret (results_cell_row rfl _ _ gb543 33 #[.int .i64 t562, .slice Ao34 t563.length co34] (0, 0) _ rfl (by (with_reducible repeat (first | refine blk_drewN ?_ _ | refine blk_drew ?_ | refine blk_alloc ?_ _)); refine blk_put (cs := #[.int .i64 t562, .slice none 0 0]) ?_ 1 _ rfl; refine blk_put (cs := #[.int .i64 0, .slice none 0 0]) ?_ 0 _ rfl; (with_reducible repeat (first | refine blk_drewN ?_ _ | refine blk_drew ?_ | refine blk_alloc ?_ _)); exact BK543.out) Try.underlying33 rfl (by kernel_rfl)) rfl ?_
      exact ⟨_, by first | rfl | (simp [*, errW_none, errW_some] <;> rfl), by (with_reducible repeat (first | apply Kd.R_alloc | apply Kd.R_drewN | apply Kd.R_drew)); exact Kd.R_mono (Kd.R_far (p := ⟨gb543, 1, none⟩) (Kd.R_far (p := ⟨gb543, 0, none⟩) (Kd.R_types HO565.out BK543.out (by decide)) (fun _ hk => hk.2) (.int .i64 t562)) (fun _ hk => hk.2) (.slice Ao34 t563.length co34)) (fun _ hk => trivial), by repeat (first | (with_reducible first | exact HB.out | apply below_alloc | apply pw_below_drewN | apply below_drew1 | refine below_set ?_ GE542.out | refine below_set ?_ GE543.out) | exact HB.out)⟩
end Go.Proofs.Ytmeckkckjikjiaa.F
end
section
namespace Go.Proofs.Ytmeckkckjikjiaa.F
open RowKit YtmeckkckjikjiaaW.PrintWords YtmeckkckjikjiaaW.PrintLast YtmeckkckjikjiaaW.PrintMore
set_option linter.unusedVariables false
set_option linter.unusedSimpArgs false
def zelligelaw07_wide.f (k : Nat) (a0_0 : Int) (a0_1 : Int) : Option (Int × List Int) := (zelligeref02_Long.f k a0_0 a0_1).bind fun t582 => ((zelligeref02_Quad.f t582).bind fun bt585 => ((zelligeref04_Quad.f k bt585.1 bt585.2.1 bt585.2.2.1 bt585.2.2.2).bind fun bt589 => (some (bt589.1, bt589.2))))
theorem zelligelaw07_wide.mono : ∀ a0 a1 k, LeO (zelligelaw07_wide.f k a0 a1) (zelligelaw07_wide.f (k + 1) a0 a1) := by
 intro a0 a1 k
 unfold zelligelaw07_wide.f
 repeat' first
   | (with_reducible exact zelligeref02_Long.mono _ _ _)
   | (with_reducible exact zelligeref04_Quad.mono _ _ _ _ _)
   | (with_reducible exact LeO.refl _)
   | (with_reducible exact LeO.none _)
   | (with_reducible refine LeO.ite ?_ ?_)
   | (with_reducible refine LeO.bind ?_ (fun _ => ?_))
   | exact zelligeref02_Long.mono _ _ _
   | exact zelligeref04_Quad.mono _ _ _ _ _
   | exact LeO.none _
   | refine LeO.ite ?_ ?_
   | refine LeO.bind ?_ (fun _ => ?_)
set_option maxHeartbeats 8000000 in
set_option maxRecDepth 100000 in
theorem zelligelaw07_wide.calls (k : Nat) (a0_0 : Int) (a0_1 : Int) (r1 : Int) (r2 : List Int) (w : World) (h : zelligelaw07_wide.f k a0_0 a0_1 = some (r1, r2)) :
  Calls Try.prog 15 #[.agg #[.int .i64 a0_0, .int .u64 a0_1]] w fun e w' => ∃ v1_ : Value, e = .returned (.agg #[.int .i64 r1, v1_]) ∧ Kd.R (Kd.int .i64) 3 w' w.heap.size (fun _ => True) v1_ r2 ∧ Below w.heap.size w w' := by
 have hu37 := Try.underlying37
 have hu33 := Try.underlying33
 have HB := Aside0.mk (Below.refl w.heap.size w)
 have H : ((zelligeref02_Long.f k a0_0 a0_1).bind fun t582 => ((zelligeref02_Quad.f t582).bind fun bt585 => ((zelligeref04_Quad.f k bt585.1 bt585.2.1 bt585.2.2.1 bt585.2.2.2).bind fun bt589 => (some (bt589.1, bt589.2))))) = some (r1, r2) := h
 clear h
 replace H := Option.bind_eq_some_iff.mp H
 obtain ⟨t582, A20, H⟩ := H
 try dsimp only at H
 have A2 := Aside0.mk A20
 clear A20
 replace H := Option.bind_eq_some_iff.mp H
 obtain ⟨⟨t585, t586, t587, t588⟩, A30, H⟩ := H
 try dsimp only at H
 have A3 := Aside0.mk A30
 clear A30
 replace H := Option.bind_eq_some_iff.mp H
 obtain ⟨⟨t589, t590⟩, A40, H⟩ := H
 try dsimp only at H
 have A4 := Aside0.mk A40
 clear A40
 simp only [Option.some.injEq, Prod.mk.injEq] at H
 obtain ⟨rfl, rfl⟩ := H
 go_enter Try.func15, Try.ntmps15
 go_wp2_with (first | ((with_reducible refine gate_dst (N := 1) rfl ?_); refine bx 1 #[.int .i64 a0_0, .int .u64 a0_1] 37 ?_; intro gb580 hg w5 hbox hb; have BK580 := Aside0.mk hbox; have GW580 := u3 hg HB; have GE580 := u3 hg HB; replace HB := u2 HB hb; clear hb hbox hg) | ((with_reducible refine gate_dst (N := 2) rfl ?_); refine bx 2 #[.int .i64 0, .slice none 0 0] 33 ?_; intro gb581 hg w6 hbox hb; have BK581 := Aside0.mk hbox; have GW581 := u3 hg HB; have GE581 := u3 hg HB; have NB580_581 := u4 hg BK580; have NB581_580 := u5 hg BK580; replace BK580 := u1 BK580 hb; replace HB := u2 HB hb; clear hb hbox hg; have hnb7 := NB580_581.out; have hnc7 := NB581_580.out; obtain ⟨_, _, _, _⟩ := p2 BK580) | ((with_reducible refine gate_callee (f := 41) rfl ?_); refine gL (some 4) Try.func41 #[.agg #[.int .i64 a0_0, .int .u64 a0_1]] rfl ?_; (with_reducible refine (zelligeref02_Long.calls k a0_0 a0_1 t582 _ A2.out).mono ?_); rintro e w9 ⟨v583, rfl, ho0, hb⟩; refine ⟨_, rfl, ?_⟩; have n0_ := Aside0.mk (Kd.R_lower ho0 (below_size (bw HB.out))); have n1_ := u1 BK580 hb; have n2_ := u1 BK581 hb; have n3_ := u2 HB hb; clear BK580; clear BK581; clear HB; have HO584 := n0_; have BK580 := n1_; have BK581 := n2_; have HB := n3_; clear n0_ n1_ n2_ n3_; (try clear hb); (try clear hb2); (try clear hk); (try clear hi); (try clear ho0); obtain ⟨Ao10, co10, eo10⟩ := Kd.R_slice HO584.out; subst eo10) | ((with_reducible refine gate_callee (f := 40) rfl ?_); refine gL (some 5) Try.func40 #[.slice Ao10 t582.length co10] rfl ?_; (with_reducible refine (zelligeref02_Quad.calls _ _ t582 t585 t586 t587 t588 _ ?side1 ?side2 A3.out).mono ?_); (case side1 => repeat (first | exact (Kd.R_reads' HO584.out).2.2 | (with_reducible refine Kd.C_alloc ?_ _) | (with_reducible refine Kd.C_drewN ?_ _) | (with_reducible refine Kd.C_drew ?_))); (case side2 => exact (Kd.R_reads' HO584.out).2.1); rintro e w11 ⟨rfl, hb⟩; refine ⟨_, rfl, ?_⟩; have n0_ := Aside0.mk (Kd.R_below (by (with_reducible repeat (first | apply Kd.R_alloc | apply Kd.R_drewN | apply Kd.R_drew)); exact HO584.out) hb); have n1_ := u1 BK580 hb; have n2_ := u1 BK581 hb; have n3_ := u2 HB hb; clear HO584; clear BK580; clear BK581; clear HB; have HO584 := n0_; have BK580 := n1_; have BK581 := n2_; have HB := n3_; clear n0_ n1_ n2_ n3_; clear hb) | ((with_reducible refine gate_callee (f := 39) rfl ?_); refine gL (some 6) Try.func39 #[.agg #[.int .u64 t585, .int .u64 t586, .int .u64 t587, .int .u64 t588]] rfl ?_; (with_reducible refine (zelligeref04_Quad.calls k t585 t586 t587 t588 t589 t590 _ A4.out).mono ?_); rintro e w12 ⟨v591, rfl, ho0, hb⟩; refine ⟨_, rfl, ?_⟩; have n0_ := Aside0.mk (Kd.R_elder' (by (with_reducible repeat (first | apply Kd.R_alloc | apply Kd.R_drewN | apply Kd.R_drew)); exact HO584.out) (Kd.R_base ho0) hb); have n1_ := Aside0.mk (Kd.R_lower (Kd.R_new' ho0 (Kd.R_lt (by (with_reducible repeat (first | apply Kd.R_alloc | apply Kd.R_drewN | apply Kd.R_drew)); exact HO584.out))) (below_size (bw HB.out))); have n2_ := u1 BK580 hb; have n3_ := u1 BK581 hb; have n4_ := u2 HB hb; clear HO584; clear BK580; clear BK581; clear HB; have HO584 := n0_; have HO592 := n1_; have BK580 := n2_; have BK581 := n3_; have HB := n4_; clear n0_ n1_ n2_ n3_ n4_; (try clear hb); (try clear hb2); (try clear hk); (try clear hi); (try clear ho0); obtain ⟨_, _, _, _⟩ := p2 BK581; obtain ⟨Ao14, co14, eo14⟩ := Kd.R_slice HO592.out; subst eo14))
 refine bodyPost_ret (results_cell_row rfl _ _ gb581 33 #[.int .i64 t589, .slice Ao14 t590.length co14] (0, 0) _ rfl (by (with_reducible repeat (first | refine blk_drewN ?_ _ | refine blk_drew ?_ | refine blk_alloc ?_ _)); refine blk_put (cs := #[.int .i64 t589, .slice none 0 0]) ?_ 1 _ rfl; refine blk_put (cs := #[.int .i64 0, .slice none 0 0]) ?_ 0 _ rfl; (with_reducible repeat (first | refine blk_drewN ?_ _ | refine blk_drew ?_ | refine blk_alloc ?_ _)); exact BK581.out) Try.underlying33 rfl (by kernel_rfl)) rfl ?_
 exact ⟨_, by first | rfl | (simp [*, errW_none, errW_some] <;> rfl), by (with_reducible repeat (first | apply Kd.R_alloc | apply Kd.R_drewN | apply Kd.R_drew)); exact Kd.R_mono (Kd.R_far (p := ⟨gb581, 1, none⟩) (Kd.R_far (p := ⟨gb581, 0, none⟩) (Kd.R_types HO592.out BK581.out (by decide)) (fun _ hk => hk.2) (.int .i64 t589)) (fun _ hk => hk.2) (.slice Ao14 t590.length co14)) (fun _ hk => trivial), by repeat (first | (with_reducible first | exact HB.out | apply below_alloc | apply pw_below_drewN | apply below_drew1 | refine below_set ?_ GE580.out | refine below_set ?_ GE581.out) | exact HB.out)⟩
end Go.Proofs.Ytmeckkckjikjiaa.F
end
section
namespace Go.Proofs.Ytmeckkckjikjiaa.F
open RowKit YtmeckkckjikjiaaW.PrintWords YtmeckkckjikjiaaW.PrintLast YtmeckkckjikjiaaW.PrintMore
set_option linter.unusedVariables false
set_option linter.unusedSimpArgs false
def pred_Area2.f (k : Nat) (a0_0 : Int) (a0_1 : Int) (a1_0 : Int) (a1_1 : Int) (a2_0 : Int) (a2_1 : Int) : Option (Int × Int) := (pred_can.f k (([(⟨a0_0, a0_1⟩ : S23), (⟨a1_0, a1_1⟩ : S23), (⟨a2_0, a2_1⟩ : S23)] : List (S23)))).bind fun t600 => (if t600 = true then ((pred_way.f a0_0 a0_1 a1_0 a1_1).bind fun bt601 => ((pred_way.f a0_0 a0_1 a2_0 a2_1).bind fun bt603 => ((pred_across.f bt601.1 bt601.2 bt603.1 bt603.2).bind fun bt605 => (some (bt605.1, bt605.2))))) else (some (0, 0)))
theorem pred_Area2.mono : ∀ a0 a1 a2 a3 a4 a5 k, LeO (pred_Area2.f k a0 a1 a2 a3 a4 a5) (pred_Area2.f (k + 1) a0 a1 a2 a3 a4 a5) := by
 intro a0 a1 a2 a3 a4 a5 k
 unfold pred_Area2.f
 repeat' first
   | (with_reducible exact pred_can.mono _ _)
   | (with_reducible exact LeO.refl _)
   | (with_reducible exact LeO.none _)
   | (with_reducible refine LeO.ite ?_ ?_)
   | (with_reducible refine LeO.bind ?_ (fun _ => ?_))
   | exact pred_can.mono _ _
   | exact LeO.none _
   | refine LeO.ite ?_ ?_
   | refine LeO.bind ?_ (fun _ => ?_)
def pred_Area2.T3 : Bool × List (List Nat × List Nat) := (true, [([], []), ([], []), ([0, 1], [0, 1]), ([], []), ([], []), ([3, 4, 2], [3, 4]), ([2, 5, 5], [2, 5]), ([6, 6, 0, 1, 2, 3, 4, 5, 6], [6])])
def pred_Area2.B3 : List Nat := [0, 0, 3, 0, 0, 31, 63, 127]
theorem pred_Area2.tab3 : rtab .any (opsOf Try.f16 3) = pred_Area2.T3 := by kernel_rfl
theorem pred_Area2.bits3 : waitsOk pred_Area2.T3.2 pred_Area2.B3 = true := by kernel_rfl
set_option maxHeartbeats 8000000 in
set_option maxRecDepth 100000 in
theorem pred_Area2.calls (k : Nat) (a0_0 : Int) (a0_1 : Int) (a1_0 : Int) (a1_1 : Int) (a2_0 : Int) (a2_1 : Int) (r1 : Int) (r2 : Int) (w : World) (h : pred_Area2.f k a0_0 a0_1 a1_0 a1_1 a2_0 a2_1 = some (r1, r2)) :
  Calls Try.prog 16 #[.agg #[.int .i64 a0_0, .int .i64 a0_1], .agg #[.int .i64 a1_0, .int .i64 a1_1], .agg #[.int .i64 a2_0, .int .i64 a2_1]] w fun e w' => e = .returned (.agg #[.int .i64 r1, .int .u64 r2]) ∧ Below w.heap.size w w' := by
 have hu23 := Try.underlying23
 have hu37 := Try.underlying37
 have HB := Aside0.mk (Below.refl w.heap.size w)
 have H : ((pred_can.f k (([(⟨a0_0, a0_1⟩ : S23), (⟨a1_0, a1_1⟩ : S23), (⟨a2_0, a2_1⟩ : S23)] : List (S23)))).bind fun t600 => (if t600 = true then ((pred_way.f a0_0 a0_1 a1_0 a1_1).bind fun bt601 => ((pred_way.f a0_0 a0_1 a2_0 a2_1).bind fun bt603 => ((pred_across.f bt601.1 bt601.2 bt603.1 bt603.2).bind fun bt605 => (some (bt605.1, bt605.2))))) else (some (0, 0)))) = some (r1, r2) := h
 clear h
 obtain ⟨y597, hy597⟩ : ∃ y_ : List (S23), y_ = (([(⟨a0_0, a0_1⟩ : S23), (⟨a1_0, a1_1⟩ : S23), (⟨a2_0, a2_1⟩ : S23)] : List (S23))) := ⟨_, rfl⟩
 replace H : ((pred_can.f k y597).bind fun t600 => (if t600 = true then ((pred_way.f a0_0 a0_1 a1_0 a1_1).bind fun bt601 => ((pred_way.f a0_0 a0_1 a2_0 a2_1).bind fun bt603 => ((pred_across.f bt601.1 bt601.2 bt603.1 bt603.2).bind fun bt605 => (some (bt605.1, bt605.2))))) else (some (0, 0)))) = some (r1, r2) := by first | (rw [hy597]; with_reducible exact H) | (have H2_ := (Option.bind_some _ _).symm.trans H; rw [hy597]; with_reducible exact H2_) | (have H2_ := (Option.bind_some _ _).symm.trans H; with_reducible exact H2_) | with_reducible exact H | (rw [hy597]; exact H) | exact H
 have Ny597 := Aside0.mk hy597
 clear hy597
 replace H := Option.bind_eq_some_iff.mp H
 obtain ⟨t600, A40, H⟩ := H
 try dsimp only at H
 have A4 := Aside0.mk A40
 clear A40
 by_cases c5 : t600 = true
 ·subst c5
  rw [if_pos rfl] at H
  replace H := Option.bind_eq_some_iff.mp H
  obtain ⟨⟨t601, t602⟩, A60, H⟩ := H
  try dsimp only at H
  have A6 := Aside0.mk A60
  clear A60
  replace H := Option.bind_eq_some_iff.mp H
  obtain ⟨⟨t603, t604⟩, A70, H⟩ := H
  try dsimp only at H
  have A7 := Aside0.mk A70
  clear A70
  replace H := Option.bind_eq_some_iff.mp H
  obtain ⟨⟨t605, t606⟩, A80, H⟩ := H
  try dsimp only at H
  have A8 := Aside0.mk A80
  clear A80
  simp only [Option.some.injEq, Prod.mk.injEq] at H
  obtain ⟨rfl, rfl⟩ := H
  go_enter Try.func16, Try.ntmps16
  try go_wp2_with (first | ((with_reducible refine gate_dst (N := 3) rfl ?_); refine bx 3 #[.int .i64 a0_0, .int .i64 a0_1] 23 ?_; intro gb593 hg w9 hbox hb; have BK593 := Aside0.mk hbox; have GW593 := u3 hg HB; have GE593 := u3 hg HB; replace HB := u2 HB hb; clear hb hbox hg) | ((with_reducible refine gate_dst (N := 4) rfl ?_); refine bx 4 #[.int .i64 a1_0, .int .i64 a1_1] 23 ?_; intro gb594 hg w10 hbox hb; have BK594 := Aside0.mk hbox; have GW594 := u3 hg HB; have GE594 := u3 hg HB; have NB593_594 := u4 hg BK593; have NB594_593 := u5 hg BK593; replace BK593 := u1 BK593 hb; replace HB := u2 HB hb; clear hb hbox hg) | ((with_reducible refine gate_dst (N := 5) rfl ?_); refine bx 5 #[.int .i64 a2_0, .int .i64 a2_1] 23 ?_; intro gb595 hg w11 hbox hb; have BK595 := Aside0.mk hbox; have GW595 := u3 hg HB; have GE595 := u3 hg HB; have NB593_595 := u4 hg BK593; have NB595_593 := u5 hg BK593; have NB594_595 := u4 hg BK594; have NB595_594 := u5 hg BK594; replace BK593 := u1 BK593 hb; replace BK594 := u1 BK594 hb; replace HB := u2 HB hb; clear hb hbox hg) | ((with_reducible refine gate_dst (N := 6) rfl ?_); refine bx 6 #[.int .i64 0, .int .u64 0] 37 ?_; intro gb596 hg w12 hbox hb; have BK596 := Aside0.mk hbox; have GW596 := u3 hg HB; have GE596 := u3 hg HB; have NB593_596 := u4 hg BK593; have NB596_593 := u5 hg BK593; have NB594_596 := u4 hg BK594; have NB596_594 := u5 hg BK594; have NB595_596 := u4 hg BK595; have NB596_595 := u5 hg BK595; replace BK593 := u1 BK593 hb; replace BK594 := u1 BK594 hb; replace BK595 := u1 BK595 hb; replace HB := u2 HB hb; clear hb hbox hg; have hnb13 := NB593_594.out; have hnc13 := NB594_593.out; have hnb14 := NB593_595.out; have hnc14 := NB595_593.out; have hnb15 := NB593_596.out; have hnc15 := NB596_593.out; obtain ⟨_, _, _, _⟩ := p2 BK593; have hnb17 := NB594_595.out; have hnc17 := NB595_594.out; have hnb18 := NB594_596.out; have hnc18 := NB596_594.out; obtain ⟨_, _, _, _⟩ := p2 BK594; have hnb20 := NB595_596.out; have hnc20 := NB596_595.out; obtain ⟨_, _, _, _⟩ := p2 BK595) | ((with_reducible refine gate_dst (N := 10) rfl ?_); refine Kd.R_lit k23 _ 23 ?hg (N := 10) ?hd (xs := ([(⟨a0_0, a0_1⟩ : S23), (⟨a1_0, a1_1⟩ : S23), (⟨a2_0, a2_1⟩ : S23)] : List (S23))) (inner := [.int .i64 a0_0, .int .i64 a0_1, .int .i64 a1_0, .int .i64 a1_1, .int .i64 a2_0, .int .i64 a2_1]) (ok := fun _ => True) (okp := fun _ => True) ?hr ?hp (fun _ hk => hk) trivial (Below.refl _ _) (Nat.le_refl _) (by simp) ?_; (case hd => rfl); (case hg => rfl); (case hr => first | (go_simp; done) | (go_simp; rfl)); (case hp => exact (Reps.c2 (show Kd.M k23 _ _ _ (⟨a0_0, a0_1⟩ : S23) [.int .i64 a0_0, .int .i64 a0_1] from (k23_mkM _ _ _ (⟨a0_0, a0_1⟩ : S23) )) (Reps.c2 (show Kd.M k23 _ _ _ (⟨a1_0, a1_1⟩ : S23) [.int .i64 a1_0, .int .i64 a1_1] from (k23_mkM _ _ _ (⟨a1_0, a1_1⟩ : S23) )) (Reps.c2 (show Kd.M k23 _ _ _ (⟨a2_0, a2_1⟩ : S23) [.int .i64 a2_0, .int .i64 a2_1] from (k23_mkM _ _ _ (⟨a2_0, a2_1⟩ : S23) )) (Reps.none _ _))))); intro v598 w22 ho23 hb hg_ hnew_; clear hg_ hnew_; (first | rw [← Ny597.out] at ho23 | (simp only [Int.reduceToNat] at ho23; rw [← Ny597.out] at ho23)); have n0_ := Aside0.mk (Kd.R_lower (Kd.R_newB (Kd.R_newB (Kd.R_newB ho23 (bk BK593.out)) (bk BK594.out)) (bk BK595.out)) (below_size (bw HB.out))); have n1_ := u1 BK593 hb; have n2_ := u1 BK594 hb; have n3_ := u1 BK595 hb; have n4_ := u1 BK596 hb; have n5_ := u2 HB hb; clear BK593; clear BK594; clear BK595; clear BK596; clear HB; have HO599 := n0_; have BK593 := n1_; have BK594 := n2_; have BK595 := n3_; have BK596 := n4_; have HB := n5_; clear n0_ n1_ n2_ n3_ n4_ n5_; clear hb ho23; obtain ⟨Ao24, co24, eo24⟩ := Kd.R_slice HO599.out; subst eo24) | ((with_reducible refine gate_callee (f := 23) rfl ?_); refine gL (some 11) Try.func23 #[.slice Ao24 y597.length co24] rfl ?_; (with_reducible refine (pred_can.calls k _ _ y597 true _ ?side1 ?side2 A4.out).mono ?_); (case side1 => repeat (first | exact (Kd.R_reads' HO599.out).2.2 | (with_reducible refine Kd.C_alloc ?_ _) | (with_reducible refine Kd.C_drewN ?_ _) | (with_reducible refine Kd.C_drew ?_))); (case side2 => exact (Kd.R_reads' HO599.out).2.1); rintro e w25 ⟨rfl, hb⟩; refine ⟨_, rfl, ?_⟩; have n0_ := Aside0.mk (Kd.R_below (by (with_reducible repeat (first | apply Kd.R_alloc | apply Kd.R_drewN | apply Kd.R_drew)); exact HO599.out) hb); have n1_ := u1 BK593 hb; have n2_ := u1 BK594 hb; have n3_ := u1 BK595 hb; have n4_ := u1 BK596 hb; have n5_ := u2 HB hb; clear HO599; clear BK593; clear BK594; clear BK595; clear BK596; clear HB; have HO599 := n0_; have BK593 := n1_; have BK594 := n2_; have BK595 := n3_; have BK596 := n4_; have HB := n5_; clear n0_ n1_ n2_ n3_ n4_ n5_; clear hb))
  have n0_ := Aside0.mk (Kd.R_drew HO599.out)
  have n1_ := Aside0.mk (blk_drew BK593.out)
  have n2_ := Aside0.mk (blk_drew BK594.out)
  have n3_ := Aside0.mk (blk_drew BK595.out)
  have n4_ := Aside0.mk (blk_drew BK596.out)
  have n5_ := Aside0.mk (below_drew1 HB.out)
  clear HO599
  clear BK593
  clear BK594
  clear BK595
  clear BK596
  clear HB
  have HO599 := n0_
  have BK593 := n1_
  have BK594 := n2_
  have BK595 := n3_
  have BK596 := n4_
  have HB := n5_
  clear n0_ n1_ n2_ n3_ n4_ n5_
  refine start_ (n := 8) (S := fun w' => w'.cell? ⟨gb593, 0, none⟩ = some (.int .i64 a0_0) ∧ w'.cell? ⟨gb593, 1, none⟩ = some (.int .i64 a0_1) ∧ w'.cell? ⟨gb594, 0, none⟩ = some (.int .i64 a1_0) ∧ w'.cell? ⟨gb594, 1, none⟩ = some (.int .i64 a1_1) ∧ w'.cell? ⟨gb595, 0, none⟩ = some (.int .i64 a2_0) ∧ w'.cell? ⟨gb595, 1, none⟩ = some (.int .i64 a2_1)) (ds := []) #[F_,F_,F_,F_,F_,F_,F_,F_] (by kernel_rfl) rfl rfl ⟨(p2 BK593).1, (p2 BK593).2.1, (p2 BK594).1, (p2 BK594).2.1, (p2 BK595).1, (p2 BK595).2.1⟩ (fun hHeld => ?_); refine with_tabW pred_Area2.tab3 pred_Area2.bits3 (fun HT_ HW_ => ?_)
  generalize w25.drew = w26 at HO599 BK593 BK594 BK595 BK596 HB hHeld ⊢
  refine tA (i := 0) (N := some 14) (v := ?_) (a' := ?_) #[T_,F_,F_,F_,F_,F_,F_,F_] rfl rfl HT_ HW_ (Or.inl ⟨by rfl, ?_⟩) hHeld ?_ ?_
  rotate_left
  ·rintro w' ⟨s0, s1, s2, s3, s4, s5⟩
   go_simp
   with_reducible rfl
  rotate_left
  ·simp only [Act.put, s1, s2, s3, i64_w, i32_w]
   rfl
  refine tA (i := 1) (N := some 15) (v := ?_) (a' := ?_) #[T_,T_,F_,F_,F_,F_,F_,F_] rfl rfl HT_ HW_ (Or.inl ⟨by rfl, ?_⟩) hHeld ?_ ?_
  rotate_left
  ·rintro w' ⟨s0, s1, s2, s3, s4, s5⟩
   go_simp
   with_reducible rfl
  rotate_left
  ·simp only [Act.put, s1, s2, s3, i64_w, i32_w]
   rfl
  refine tA (i := 3) (N := some 17) (v := ?_) (a' := ?_) #[T_,T_,F_,T_,F_,F_,F_,F_] rfl rfl HT_ HW_ (Or.inl ⟨by rfl, ?_⟩) hHeld ?_ ?_
  rotate_left
  ·rintro w' ⟨s0, s1, s2, s3, s4, s5⟩
   go_simp
   with_reducible rfl
  rotate_left
  ·simp only [Act.put, s1, s2, s3, i64_w, i32_w]
   rfl
  refine tA (i := 4) (N := some 18) (v := ?_) (a' := ?_) #[T_,T_,F_,T_,T_,F_,F_,F_] rfl rfl HT_ HW_ (Or.inl ⟨by rfl, ?_⟩) hHeld ?_ ?_
  rotate_left
  ·rintro w' ⟨s0, s1, s2, s3, s4, s5⟩
   go_simp
   with_reducible rfl
  rotate_left
  ·simp only [Act.put, s1, s2, s3, i64_w, i32_w]
   rfl
  refine one_ (i := 2) (N := some 16) #[T_,T_,T_,T_,T_,F_,F_,F_] rfl rfl (one_of HT_.out (by kernel_rfl)) (by decide) (fun K hK => ?_)
  refine goes_ Try.func24 (by kernel_rfl) rfl #[.agg #[.int .i64 a0_0, .int .i64 a0_1], .agg #[.int .i64 a1_0, .int .i64 a1_1]] (by rfl) rfl rfl (by (try simp only [List.map_toArray, List.map_cons, List.map_nil]); first | done | rfl | (simp only [List.length_drop, List.length_take]; rfl)) ?_
  with_reducible refine (pred_way.calls a0_0 a0_1 a1_0 a1_1 t601 t602 _ A6.out).mono ?_
  rintro e w27 ⟨rfl, hb⟩
  refine ⟨_, rfl, ?_⟩
  have n0_ := Aside0.mk (Kd.R_below (by (with_reducible repeat (first | apply Kd.R_alloc | apply Kd.R_drewN | apply Kd.R_drew)); exact HO599.out) hb)
  have n1_ := u1 BK593 hb
  have n2_ := u1 BK594 hb
  have n3_ := u1 BK595 hb
  have n4_ := u1 BK596 hb
  have n5_ := Aside0.mk (below_step (bw HB.out) hb)
  clear HO599
  clear BK593
  clear BK594
  clear BK595
  clear BK596
  clear HB
  have HO599 := n0_
  have BK593 := n1_
  have BK594 := n2_
  have BK595 := n3_
  have BK596 := n4_
  have HB := n5_
  clear n0_ n1_ n2_ n3_ n4_ n5_
  (try clear hb)
  (try clear hb2)
  (try clear hk)
  (try clear hi)
  refine hK.out _ _ ⟨(p2 BK593).1, (p2 BK593).2.1, (p2 BK594).1, (p2 BK594).2.1, (p2 BK595).1, (p2 BK595).2.1⟩ (fun hHeld => ?_)
  clear hK K
  refine norm_ (a' := ?_) ?_ ?_
  rotate_left
  ·show Act.put _ (some 16) _ = _
   simp only [Act.put, s1, s2, s3, i64_w, i32_w]
   rfl
  refine one_ (i := 5) (N := some 19) #[T_,T_,T_,T_,T_,T_,F_,F_] rfl rfl (one_of HT_.out (by kernel_rfl)) (by decide) (fun K hK => ?_)
  refine goes_ Try.func24 (by kernel_rfl) rfl #[.agg #[.int .i64 a0_0, .int .i64 a0_1], .agg #[.int .i64 a2_0, .int .i64 a2_1]] (by rfl) rfl rfl (by (try simp only [List.map_toArray, List.map_cons, List.map_nil]); first | done | rfl | (simp only [List.length_drop, List.length_take]; rfl)) ?_
  with_reducible refine (pred_way.calls a0_0 a0_1 a2_0 a2_1 t603 t604 _ A7.out).mono ?_
  rintro e w28 ⟨rfl, hb⟩
  refine ⟨_, rfl, ?_⟩
  have n0_ := Aside0.mk (Kd.R_below (by (with_reducible repeat (first | apply Kd.R_alloc | apply Kd.R_drewN | apply Kd.R_drew)); exact HO599.out) hb)
  have n1_ := u1 BK593 hb
  have n2_ := u1 BK594 hb
  have n3_ := u1 BK595 hb
  have n4_ := u1 BK596 hb
  have n5_ := Aside0.mk (below_step (bw HB.out) hb)
  clear HO599
  clear BK593
  clear BK594
  clear BK595
  clear BK596
  clear HB
  have HO599 := n0_
  have BK593 := n1_
  have BK594 := n2_
  have BK595 := n3_
  have BK596 := n4_
  have HB := n5_
  clear n0_ n1_ n2_ n3_ n4_ n5_
  (try clear hb)
  (try clear hb2)
  (try clear hk)
  (try clear hi)
  refine hK.out _ _ ⟨(p2 BK593).1, (p2 BK593).2.1, (p2 BK594).1, (p2 BK594).2.1, (p2 BK595).1, (p2 BK595).2.1⟩ (fun hHeld => ?_)
  clear hK K
  refine norm_ (a' := ?_) ?_ ?_
  rotate_left
  ·show Act.put _ (some 19) _ = _
   simp only [Act.put, s1, s2, s3, i64_w, i32_w]
   rfl
  refine one_ (i := 6) (N := some 20) #[T_,T_,T_,T_,T_,T_,T_,F_] rfl rfl (one_of HT_.out (by kernel_rfl)) (by decide) (fun K hK => ?_)
  refine goes_ Try.func27 (by kernel_rfl) rfl #[.agg #[.int .i64 t601, .int .i64 t602], .agg #[.int .i64 t603, .int .i64 t604]] (by rfl) rfl rfl (by (try simp only [List.map_toArray, List.map_cons, List.map_nil]); first | done | rfl | (simp only [List.length_drop, List.length_take]; rfl)) ?_
  with_reducible refine (pred_across.calls t601 t602 t603 t604 t605 t606 _ A8.out).mono ?_
  rintro e w29 ⟨rfl, hb⟩
  refine ⟨_, rfl, ?_⟩
  have n0_ := Aside0.mk (Kd.R_below (by (with_reducible repeat (first | apply Kd.R_alloc | apply Kd.R_drewN | apply Kd.R_drew)); exact HO599.out) hb)
  have n1_ := u1 BK593 hb
  have n2_ := u1 BK594 hb
  have n3_ := u1 BK595 hb
  have n4_ := u1 BK596 hb
  have n5_ := Aside0.mk (below_step (bw HB.out) hb)
  clear HO599
  clear BK593
  clear BK594
  clear BK595
  clear BK596
  clear HB
  have HO599 := n0_
  have BK593 := n1_
  have BK594 := n2_
  have BK595 := n3_
  have BK596 := n4_
  have HB := n5_
  clear n0_ n1_ n2_ n3_ n4_ n5_
  (try clear hb)
  (try clear hb2)
  (try clear hk)
  (try clear hi)
  refine hK.out _ _ ⟨(p2 BK593).1, (p2 BK593).2.1, (p2 BK594).1, (p2 BK594).2.1, (p2 BK595).1, (p2 BK595).2.1⟩ (fun hHeld => ?_)
  clear hK K
  refine norm_ (a' := ?_) ?_ ?_
  rotate_left
  ·show Act.put _ (some 20) _ = _
   simp only [Act.put, s1, s2, s3, i64_w, i32_w]
   rfl
  refine one_ (i := 7) (N := none) #[T_,T_,T_,T_,T_,T_,T_,T_] rfl rfl (one_of HT_.out (by kernel_rfl)) (by decide) (fun K hK => ?_)
  have hs30 : w29.cell? ⟨gb596, 0, none⟩ = some (.int .i64 0) := (blk_cell BK596.out 0).trans rfl
  have hfs30 := blk_frozen BK596.out 0
  have hns30_0 := NB593_596.out
  have hns30_1 := NB594_596.out
  have hns30_2 := NB595_596.out
  have hms30_0 := NB596_593.out
  have hms30_1 := NB596_594.out
  have hms30_2 := NB596_595.out
  have hs31 : w29.cell? ⟨gb596, 1, none⟩ = some (.int .u64 0) := (blk_cell BK596.out 1).trans rfl
  have hfs31 := blk_frozen BK596.out 1
  have hns31_0 := NB593_596.out
  have hns31_1 := NB594_596.out
  have hns31_2 := NB595_596.out
  have hms31_0 := NB596_593.out
  have hms31_1 := NB596_594.out
  have hms31_2 := NB596_595.out
  refine skip_ (w1 := ?_) (by rfl) rfl ?_ ?_
  rotate_left
  ·go_simp
   rfl
  refine hK.out _ _ ⟨((cell_far (p := ⟨gb596, _, none⟩) NB593_596.out _).trans (((cell_far (p := ⟨gb596, _, none⟩) NB593_596.out _).trans (hHeld.1)))), ((cell_far (p := ⟨gb596, _, none⟩) NB593_596.out _).trans (((cell_far (p := ⟨gb596, _, none⟩) NB593_596.out _).trans (hHeld.2.1)))), ((cell_far (p := ⟨gb596, _, none⟩) NB594_596.out _).trans (((cell_far (p := ⟨gb596, _, none⟩) NB594_596.out _).trans (hHeld.2.2.1)))), ((cell_far (p := ⟨gb596, _, none⟩) NB594_596.out _).trans (((cell_far (p := ⟨gb596, _, none⟩) NB594_596.out _).trans (hHeld.2.2.2.1)))), ((cell_far (p := ⟨gb596, _, none⟩) NB595_596.out _).trans (((cell_far (p := ⟨gb596, _, none⟩) NB595_596.out _).trans (hHeld.2.2.2.2.1)))), ((cell_far (p := ⟨gb596, _, none⟩) NB595_596.out _).trans (((cell_far (p := ⟨gb596, _, none⟩) NB595_596.out _).trans (hHeld.2.2.2.2.2))))⟩ (fun hHeld => ?_)
  clear hK K
  refine done_ (done_of HT_.out (by kernel_rfl)) ?_
  try go_wp2
  refine bodyPost_ret (results_cell_row rfl _ _ gb596 37 #[.int .i64 t605, .int .u64 t606] (0, 0) _ rfl (by (with_reducible repeat (first | refine blk_drewN ?_ _ | refine blk_drew ?_ | refine blk_alloc ?_ _)); refine blk_put (cs := #[.int .i64 t605, .int .u64 0]) ?_ 1 _ rfl; refine blk_put (cs := #[.int .i64 0, .int .u64 0]) ?_ 0 _ rfl; (with_reducible repeat (first | refine blk_drewN ?_ _ | refine blk_drew ?_ | refine blk_alloc ?_ _)); exact BK596.out) Try.underlying37 rfl (by kernel_rfl)) rfl ?_
  exact ⟨by first | rfl | (simp [*, errW_none, errW_some] <;> rfl), by repeat (first | (with_reducible first | exact HB.out | apply below_alloc | apply pw_below_drewN | apply below_drew1 | refine below_set ?_ GE593.out | refine below_set ?_ GE594.out | refine below_set ?_ GE595.out | refine below_set ?_ GE596.out) | exact HB.out)⟩
 ·replace c5 := Bool.eq_false_iff.mpr c5
  subst c5
  rw [if_neg (show ¬ (false = true) by decide)] at H
  simp only [Option.some.injEq, Prod.mk.injEq] at H
  obtain ⟨rfl, rfl⟩ := H
  go_enter Try.func16, Try.ntmps16
  go_wp2_with (first | ((with_reducible refine gate_dst (N := 3) rfl ?_); refine bx 3 #[.int .i64 a0_0, .int .i64 a0_1] 23 ?_; intro gb593 hg w32 hbox hb; have BK593 := Aside0.mk hbox; have GW593 := u3 hg HB; have GE593 := u3 hg HB; replace HB := u2 HB hb; clear hb hbox hg) | ((with_reducible refine gate_dst (N := 4) rfl ?_); refine bx 4 #[.int .i64 a1_0, .int .i64 a1_1] 23 ?_; intro gb594 hg w33 hbox hb; have BK594 := Aside0.mk hbox; have GW594 := u3 hg HB; have GE594 := u3 hg HB; have NB593_594 := u4 hg BK593; have NB594_593 := u5 hg BK593; replace BK593 := u1 BK593 hb; replace HB := u2 HB hb; clear hb hbox hg) | ((with_reducible refine gate_dst (N := 5) rfl ?_); refine bx 5 #[.int .i64 a2_0, .int .i64 a2_1] 23 ?_; intro gb595 hg w34 hbox hb; have BK595 := Aside0.mk hbox; have GW595 := u3 hg HB; have GE595 := u3 hg HB; have NB593_595 := u4 hg BK593; have NB595_593 := u5 hg BK593; have NB594_595 := u4 hg BK594; have NB595_594 := u5 hg BK594; replace BK593 := u1 BK593 hb; replace BK594 := u1 BK594 hb; replace HB := u2 HB hb; clear hb hbox hg) | ((with_reducible refine gate_dst (N := 6) rfl ?_); refine bx 6 #[.int .i64 0, .int .u64 0] 37 ?_; intro gb596 hg w35 hbox hb; have BK596 := Aside0.mk hbox; have GW596 := u3 hg HB; have GE596 := u3 hg HB; have NB593_596 := u4 hg BK593; have NB596_593 := u5 hg BK593; have NB594_596 := u4 hg BK594; have NB596_594 := u5 hg BK594; have NB595_596 := u4 hg BK595; have NB596_595 := u5 hg BK595; replace BK593 := u1 BK593 hb; replace BK594 := u1 BK594 hb; replace BK595 := u1 BK595 hb; replace HB := u2 HB hb; clear hb hbox hg; have hnb36 := NB593_594.out; have hnc36 := NB594_593.out; have hnb37 := NB593_595.out; have hnc37 := NB595_593.out; have hnb38 := NB593_596.out; have hnc38 := NB596_593.out; obtain ⟨_, _, _, _⟩ := p2 BK593; have hnb40 := NB594_595.out; have hnc40 := NB595_594.out; have hnb41 := NB594_596.out; have hnc41 := NB596_594.out; obtain ⟨_, _, _, _⟩ := p2 BK594; have hnb43 := NB595_596.out; have hnc43 := NB596_595.out; obtain ⟨_, _, _, _⟩ := p2 BK595) | ((with_reducible refine gate_dst (N := 10) rfl ?_); refine Kd.R_lit k23 _ 23 ?hg (N := 10) ?hd (xs := ([(⟨a0_0, a0_1⟩ : S23), (⟨a1_0, a1_1⟩ : S23), (⟨a2_0, a2_1⟩ : S23)] : List (S23))) (inner := [.int .i64 a0_0, .int .i64 a0_1, .int .i64 a1_0, .int .i64 a1_1, .int .i64 a2_0, .int .i64 a2_1]) (ok := fun _ => True) (okp := fun _ => True) ?hr ?hp (fun _ hk => hk) trivial (Below.refl _ _) (Nat.le_refl _) (by simp) ?_; (case hd => rfl); (case hg => rfl); (case hr => first | (go_simp; done) | (go_simp; rfl)); (case hp => exact (Reps.c2 (show Kd.M k23 _ _ _ (⟨a0_0, a0_1⟩ : S23) [.int .i64 a0_0, .int .i64 a0_1] from (k23_mkM _ _ _ (⟨a0_0, a0_1⟩ : S23) )) (Reps.c2 (show Kd.M k23 _ _ _ (⟨a1_0, a1_1⟩ : S23) [.int .i64 a1_0, .int .i64 a1_1] from (k23_mkM _ _ _ (⟨a1_0, a1_1⟩ : S23) )) (Reps.c2 (show Kd.M k23 _ _ _ (⟨a2_0, a2_1⟩ : S23) [.int .i64 a2_0, .int .i64 a2_1] from (k23_mkM _ _ _ (⟨a2_0, a2_1⟩ : S23) )) (Reps.none _ _))))); intro v598 w45 ho46 hb hg_ hnew_; clear hg_ hnew_; (first | rw [← Ny597.out] at ho46 | (simp only [Int.reduceToNat] at ho46; rw [← Ny597.out] at ho46)); have n0_ := Aside0.mk (Kd.R_lower (Kd.R_newB (Kd.R_newB (Kd.R_newB ho46 (bk BK593.out)) (bk BK594.out)) (bk BK595.out)) (below_size (bw HB.out))); have n1_ := u1 BK593 hb; have n2_ := u1 BK594 hb; have n3_ := u1 BK595 hb; have n4_ := u1 BK596 hb; have n5_ := u2 HB hb; clear BK593; clear BK594; clear BK595; clear BK596; clear HB; have HO599 := n0_; have BK593 := n1_; have BK594 := n2_; have BK595 := n3_; have BK596 := n4_; have HB := n5_; clear n0_ n1_ n2_ n3_ n4_ n5_; clear hb ho46; obtain ⟨Ao47, co47, eo47⟩ := Kd.R_slice HO599.out; subst eo47) | ((with_reducible refine gate_callee (f := 23) rfl ?_); refine gL (some 11) Try.func23 #[.slice Ao47 y597.length co47] rfl ?_; (with_reducible refine (pred_can.calls k _ _ y597 false _ ?side1 ?side2 A4.out).mono ?_); (case side1 => repeat (first | exact (Kd.R_reads' HO599.out).2.2 | (with_reducible refine Kd.C_alloc ?_ _) | (with_reducible refine Kd.C_drewN ?_ _) | (with_reducible refine Kd.C_drew ?_))); (case side2 => exact (Kd.R_reads' HO599.out).2.1); rintro e w48 ⟨rfl, hb⟩; refine ⟨_, rfl, ?_⟩; have n0_ := Aside0.mk (Kd.R_below (by (with_reducible repeat (first | apply Kd.R_alloc | apply Kd.R_drewN | apply Kd.R_drew)); exact HO599.out) hb); have n1_ := u1 BK593 hb; have n2_ := u1 BK594 hb; have n3_ := u1 BK595 hb; have n4_ := u1 BK596 hb; have n5_ := u2 HB hb; clear HO599; clear BK593; clear BK594; clear BK595; clear BK596; clear HB; have HO599 := n0_; have BK593 := n1_; have BK594 := n2_; have BK595 := n3_; have BK596 := n4_; have HB := n5_; clear n0_ n1_ n2_ n3_ n4_ n5_; clear hb; obtain ⟨_, _, _, _⟩ := p2 BK596))
  refine bodyPost_ret (results_cell_row rfl _ _ gb596 37 #[.int .i64 0, .int .u64 0] (0, 0) _ rfl (by (with_reducible repeat (first | refine blk_drewN ?_ _ | refine blk_drew ?_ | refine blk_alloc ?_ _)); refine blk_put (cs := #[.int .i64 0, .int .u64 0]) ?_ 1 _ rfl; refine blk_put (cs := #[.int .i64 0, .int .u64 0]) ?_ 0 _ rfl; (with_reducible repeat (first | refine blk_drewN ?_ _ | refine blk_drew ?_ | refine blk_alloc ?_ _)); exact BK596.out) Try.underlying37 rfl (by kernel_rfl)) rfl ?_
  exact ⟨by first | rfl | (simp [*, errW_none, errW_some] <;> rfl), by repeat (first | (with_reducible first | exact HB.out | apply below_alloc | apply pw_below_drewN | apply below_drew1 | refine below_set ?_ GE593.out | refine below_set ?_ GE594.out | refine below_set ?_ GE595.out | refine below_set ?_ GE596.out) | exact HB.out)⟩
end Go.Proofs.Ytmeckkckjikjiaa.F
end
section
namespace Go.Proofs.Ytmeckkckjikjiaa.F
open RowKit YtmeckkckjikjiaaW.PrintWords YtmeckkckjikjiaaW.PrintLast YtmeckkckjikjiaaW.PrintMore
set_option linter.unusedVariables false
set_option linter.unusedSimpArgs false
def pred_Dist2.f (k : Nat) (a0_0 : Int) (a0_1 : Int) (a1_0 : Int) (a1_1 : Int) : Option (Int × Int) := (pred_can.f k (([(⟨a0_0, a0_1⟩ : S23), (⟨a1_0, a1_1⟩ : S23)] : List (S23)))).bind fun t613 => (if t613 = true then ((pred_way.f a0_0 a0_1 a1_0 a1_1).bind fun bt614 => ((pred_square.f bt614.1 bt614.2).bind fun bt616 => (some (bt616.1, bt616.2)))) else (some (0, 0)))
theorem pred_Dist2.mono : ∀ a0 a1 a2 a3 k, LeO (pred_Dist2.f k a0 a1 a2 a3) (pred_Dist2.f (k + 1) a0 a1 a2 a3) := by
 intro a0 a1 a2 a3 k
 unfold pred_Dist2.f
 repeat' first
   | (with_reducible exact pred_can.mono _ _)
   | (with_reducible exact LeO.refl _)
   | (with_reducible exact LeO.none _)
   | (with_reducible refine LeO.ite ?_ ?_)
   | (with_reducible refine LeO.bind ?_ (fun _ => ?_))
   | exact pred_can.mono _ _
   | exact LeO.none _
   | refine LeO.ite ?_ ?_
   | refine LeO.bind ?_ (fun _ => ?_)
set_option maxHeartbeats 8000000 in
set_option maxRecDepth 100000 in
theorem pred_Dist2.calls (k : Nat) (a0_0 : Int) (a0_1 : Int) (a1_0 : Int) (a1_1 : Int) (r1 : Int) (r2 : Int) (w : World) (h : pred_Dist2.f k a0_0 a0_1 a1_0 a1_1 = some (r1, r2)) :
  Calls Try.prog 17 #[.agg #[.int .i64 a0_0, .int .i64 a0_1], .agg #[.int .i64 a1_0, .int .i64 a1_1]] w fun e w' => e = .returned (.agg #[.int .i64 r1, .int .u64 r2]) ∧ Below w.heap.size w w' := by
 have hu23 := Try.underlying23
 have hu37 := Try.underlying37
 have HB := Aside0.mk (Below.refl w.heap.size w)
 have H : ((pred_can.f k (([(⟨a0_0, a0_1⟩ : S23), (⟨a1_0, a1_1⟩ : S23)] : List (S23)))).bind fun t613 => (if t613 = true then ((pred_way.f a0_0 a0_1 a1_0 a1_1).bind fun bt614 => ((pred_square.f bt614.1 bt614.2).bind fun bt616 => (some (bt616.1, bt616.2)))) else (some (0, 0)))) = some (r1, r2) := h
 clear h
 obtain ⟨y610, hy610⟩ : ∃ y_ : List (S23), y_ = (([(⟨a0_0, a0_1⟩ : S23), (⟨a1_0, a1_1⟩ : S23)] : List (S23))) := ⟨_, rfl⟩
 replace H : ((pred_can.f k y610).bind fun t613 => (if t613 = true then ((pred_way.f a0_0 a0_1 a1_0 a1_1).bind fun bt614 => ((pred_square.f bt614.1 bt614.2).bind fun bt616 => (some (bt616.1, bt616.2)))) else (some (0, 0)))) = some (r1, r2) := by first | (rw [hy610]; with_reducible exact H) | (have H2_ := (Option.bind_some _ _).symm.trans H; rw [hy610]; with_reducible exact H2_) | (have H2_ := (Option.bind_some _ _).symm.trans H; with_reducible exact H2_) | with_reducible exact H | (rw [hy610]; exact H) | exact H
 have Ny610 := Aside0.mk hy610
 clear hy610
 replace H := Option.bind_eq_some_iff.mp H
 obtain ⟨t613, A30, H⟩ := H
 try dsimp only at H
 have A3 := Aside0.mk A30
 clear A30
 by_cases c4 : t613 = true
 ·subst c4
  rw [if_pos rfl] at H
  replace H := Option.bind_eq_some_iff.mp H
  obtain ⟨⟨t614, t615⟩, A50, H⟩ := H
  try dsimp only at H
  have A5 := Aside0.mk A50
  clear A50
  replace H := Option.bind_eq_some_iff.mp H
  obtain ⟨⟨t616, t617⟩, A60, H⟩ := H
  try dsimp only at H
  have A6 := Aside0.mk A60
  clear A60
  simp only [Option.some.injEq, Prod.mk.injEq] at H
  obtain ⟨rfl, rfl⟩ := H
  go_enter Try.func17, Try.ntmps17
  go_wp2_with (first | ((with_reducible refine gate_dst (N := 2) rfl ?_); refine bx 2 #[.int .i64 a0_0, .int .i64 a0_1] 23 ?_; intro gb607 hg w7 hbox hb; have BK607 := Aside0.mk hbox; have GW607 := u3 hg HB; have GE607 := u3 hg HB; replace HB := u2 HB hb; clear hb hbox hg) | ((with_reducible refine gate_dst (N := 3) rfl ?_); refine bx 3 #[.int .i64 a1_0, .int .i64 a1_1] 23 ?_; intro gb608 hg w8 hbox hb; have BK608 := Aside0.mk hbox; have GW608 := u3 hg HB; have GE608 := u3 hg HB; have NB607_608 := u4 hg BK607; have NB608_607 := u5 hg BK607; replace BK607 := u1 BK607 hb; replace HB := u2 HB hb; clear hb hbox hg) | ((with_reducible refine gate_dst (N := 4) rfl ?_); refine bx 4 #[.int .i64 0, .int .u64 0] 37 ?_; intro gb609 hg w9 hbox hb; have BK609 := Aside0.mk hbox; have GW609 := u3 hg HB; have GE609 := u3 hg HB; have NB607_609 := u4 hg BK607; have NB609_607 := u5 hg BK607; have NB608_609 := u4 hg BK608; have NB609_608 := u5 hg BK608; replace BK607 := u1 BK607 hb; replace BK608 := u1 BK608 hb; replace HB := u2 HB hb; clear hb hbox hg; have hnb10 := NB607_608.out; have hnc10 := NB608_607.out; have hnb11 := NB607_609.out; have hnc11 := NB609_607.out; obtain ⟨_, _, _, _⟩ := p2 BK607; have hnb13 := NB608_609.out; have hnc13 := NB609_608.out; obtain ⟨_, _, _, _⟩ := p2 BK608) | ((with_reducible refine gate_dst (N := 7) rfl ?_); refine Kd.R_lit k23 _ 23 ?hg (N := 7) ?hd (xs := ([(⟨a0_0, a0_1⟩ : S23), (⟨a1_0, a1_1⟩ : S23)] : List (S23))) (inner := [.int .i64 a0_0, .int .i64 a0_1, .int .i64 a1_0, .int .i64 a1_1]) (ok := fun _ => True) (okp := fun _ => True) ?hr ?hp (fun _ hk => hk) trivial (Below.refl _ _) (Nat.le_refl _) (by simp) ?_; (case hd => rfl); (case hg => rfl); (case hr => first | (go_simp; done) | (go_simp; rfl)); (case hp => exact (Reps.c2 (show Kd.M k23 _ _ _ (⟨a0_0, a0_1⟩ : S23) [.int .i64 a0_0, .int .i64 a0_1] from (k23_mkM _ _ _ (⟨a0_0, a0_1⟩ : S23) )) (Reps.c2 (show Kd.M k23 _ _ _ (⟨a1_0, a1_1⟩ : S23) [.int .i64 a1_0, .int .i64 a1_1] from (k23_mkM _ _ _ (⟨a1_0, a1_1⟩ : S23) )) (Reps.none _ _)))); intro v611 w15 ho16 hb hg_ hnew_; clear hg_ hnew_; (first | rw [← Ny610.out] at ho16 | (simp only [Int.reduceToNat] at ho16; rw [← Ny610.out] at ho16)); have n0_ := Aside0.mk (Kd.R_lower (Kd.R_newB (Kd.R_newB ho16 (bk BK607.out)) (bk BK608.out)) (below_size (bw HB.out))); have n1_ := u1 BK607 hb; have n2_ := u1 BK608 hb; have n3_ := u1 BK609 hb; have n4_ := u2 HB hb; clear BK607; clear BK608; clear BK609; clear HB; have HO612 := n0_; have BK607 := n1_; have BK608 := n2_; have BK609 := n3_; have HB := n4_; clear n0_ n1_ n2_ n3_ n4_; clear hb ho16; obtain ⟨Ao17, co17, eo17⟩ := Kd.R_slice HO612.out; subst eo17) | ((with_reducible refine gate_callee (f := 23) rfl ?_); refine gL (some 8) Try.func23 #[.slice Ao17 y610.length co17] rfl ?_; (with_reducible refine (pred_can.calls k _ _ y610 true _ ?side1 ?side2 A3.out).mono ?_); (case side1 => repeat (first | exact (Kd.R_reads' HO612.out).2.2 | (with_reducible refine Kd.C_alloc ?_ _) | (with_reducible refine Kd.C_drewN ?_ _) | (with_reducible refine Kd.C_drew ?_))); (case side2 => exact (Kd.R_reads' HO612.out).2.1); rintro e w18 ⟨rfl, hb⟩; refine ⟨_, rfl, ?_⟩; have n0_ := Aside0.mk (Kd.R_below (by (with_reducible repeat (first | apply Kd.R_alloc | apply Kd.R_drewN | apply Kd.R_drew)); exact HO612.out) hb); have n1_ := u1 BK607 hb; have n2_ := u1 BK608 hb; have n3_ := u1 BK609 hb; have n4_ := u2 HB hb; clear HO612; clear BK607; clear BK608; clear BK609; clear HB; have HO612 := n0_; have BK607 := n1_; have BK608 := n2_; have BK609 := n3_; have HB := n4_; clear n0_ n1_ n2_ n3_ n4_; clear hb; obtain ⟨_, _, _, _⟩ := p2 BK607; obtain ⟨_, _, _, _⟩ := p2 BK608) | ((with_reducible refine gate_callee (f := 24) rfl ?_); refine gL (some 13) Try.func24 #[.agg #[.int .i64 a0_0, .int .i64 a0_1], .agg #[.int .i64 a1_0, .int .i64 a1_1]] rfl ?_; (with_reducible refine (pred_way.calls a0_0 a0_1 a1_0 a1_1 t614 t615 _ A5.out).mono ?_); rintro e w21 ⟨rfl, hb⟩; refine ⟨_, rfl, ?_⟩; have n0_ := Aside0.mk (Kd.R_below (by (with_reducible repeat (first | apply Kd.R_alloc | apply Kd.R_drewN | apply Kd.R_drew)); exact HO612.out) hb); have n1_ := u1 BK607 hb; have n2_ := u1 BK608 hb; have n3_ := u1 BK609 hb; have n4_ := u2 HB hb; clear HO612; clear BK607; clear BK608; clear BK609; clear HB; have HO612 := n0_; have BK607 := n1_; have BK608 := n2_; have BK609 := n3_; have HB := n4_; clear n0_ n1_ n2_ n3_ n4_; clear hb) | ((with_reducible refine gate_callee (f := 26) rfl ?_); refine gL (some 14) Try.func26 #[.agg #[.int .i64 t614, .int .i64 t615]] rfl ?_; (with_reducible refine (pred_square.calls t614 t615 t616 t617 _ A6.out).mono ?_); rintro e w22 ⟨rfl, hb⟩; refine ⟨_, rfl, ?_⟩; have n0_ := Aside0.mk (Kd.R_below (by (with_reducible repeat (first | apply Kd.R_alloc | apply Kd.R_drewN | apply Kd.R_drew)); exact HO612.out) hb); have n1_ := u1 BK607 hb; have n2_ := u1 BK608 hb; have n3_ := u1 BK609 hb; have n4_ := u2 HB hb; clear HO612; clear BK607; clear BK608; clear BK609; clear HB; have HO612 := n0_; have BK607 := n1_; have BK608 := n2_; have BK609 := n3_; have HB := n4_; clear n0_ n1_ n2_ n3_ n4_; clear hb; obtain ⟨_, _, _, _⟩ := p2 BK609))
  refine bodyPost_ret (results_cell_row rfl _ _ gb609 37 #[.int .i64 t616, .int .u64 t617] (0, 0) _ rfl (by (with_reducible repeat (first | refine blk_drewN ?_ _ | refine blk_drew ?_ | refine blk_alloc ?_ _)); refine blk_put (cs := #[.int .i64 t616, .int .u64 0]) ?_ 1 _ rfl; refine blk_put (cs := #[.int .i64 0, .int .u64 0]) ?_ 0 _ rfl; (with_reducible repeat (first | refine blk_drewN ?_ _ | refine blk_drew ?_ | refine blk_alloc ?_ _)); exact BK609.out) Try.underlying37 rfl (by kernel_rfl)) rfl ?_
  exact ⟨by first | rfl | (simp [*, errW_none, errW_some] <;> rfl), by repeat (first | (with_reducible first | exact HB.out | apply below_alloc | apply pw_below_drewN | apply below_drew1 | refine below_set ?_ GE607.out | refine below_set ?_ GE608.out | refine below_set ?_ GE609.out) | exact HB.out)⟩
 ·replace c4 := Bool.eq_false_iff.mpr c4
  subst c4
  rw [if_neg (show ¬ (false = true) by decide)] at H
  simp only [Option.some.injEq, Prod.mk.injEq] at H
  obtain ⟨rfl, rfl⟩ := H
  go_enter Try.func17, Try.ntmps17
  go_wp2_with (first | ((with_reducible refine gate_dst (N := 2) rfl ?_); refine bx 2 #[.int .i64 a0_0, .int .i64 a0_1] 23 ?_; intro gb607 hg w24 hbox hb; have BK607 := Aside0.mk hbox; have GW607 := u3 hg HB; have GE607 := u3 hg HB; replace HB := u2 HB hb; clear hb hbox hg) | ((with_reducible refine gate_dst (N := 3) rfl ?_); refine bx 3 #[.int .i64 a1_0, .int .i64 a1_1] 23 ?_; intro gb608 hg w25 hbox hb; have BK608 := Aside0.mk hbox; have GW608 := u3 hg HB; have GE608 := u3 hg HB; have NB607_608 := u4 hg BK607; have NB608_607 := u5 hg BK607; replace BK607 := u1 BK607 hb; replace HB := u2 HB hb; clear hb hbox hg) | ((with_reducible refine gate_dst (N := 4) rfl ?_); refine bx 4 #[.int .i64 0, .int .u64 0] 37 ?_; intro gb609 hg w26 hbox hb; have BK609 := Aside0.mk hbox; have GW609 := u3 hg HB; have GE609 := u3 hg HB; have NB607_609 := u4 hg BK607; have NB609_607 := u5 hg BK607; have NB608_609 := u4 hg BK608; have NB609_608 := u5 hg BK608; replace BK607 := u1 BK607 hb; replace BK608 := u1 BK608 hb; replace HB := u2 HB hb; clear hb hbox hg; have hnb27 := NB607_608.out; have hnc27 := NB608_607.out; have hnb28 := NB607_609.out; have hnc28 := NB609_607.out; obtain ⟨_, _, _, _⟩ := p2 BK607; have hnb30 := NB608_609.out; have hnc30 := NB609_608.out; obtain ⟨_, _, _, _⟩ := p2 BK608) | ((with_reducible refine gate_dst (N := 7) rfl ?_); refine Kd.R_lit k23 _ 23 ?hg (N := 7) ?hd (xs := ([(⟨a0_0, a0_1⟩ : S23), (⟨a1_0, a1_1⟩ : S23)] : List (S23))) (inner := [.int .i64 a0_0, .int .i64 a0_1, .int .i64 a1_0, .int .i64 a1_1]) (ok := fun _ => True) (okp := fun _ => True) ?hr ?hp (fun _ hk => hk) trivial (Below.refl _ _) (Nat.le_refl _) (by simp) ?_; (case hd => rfl); (case hg => rfl); (case hr => first | (go_simp; done) | (go_simp; rfl)); (case hp => exact (Reps.c2 (show Kd.M k23 _ _ _ (⟨a0_0, a0_1⟩ : S23) [.int .i64 a0_0, .int .i64 a0_1] from (k23_mkM _ _ _ (⟨a0_0, a0_1⟩ : S23) )) (Reps.c2 (show Kd.M k23 _ _ _ (⟨a1_0, a1_1⟩ : S23) [.int .i64 a1_0, .int .i64 a1_1] from (k23_mkM _ _ _ (⟨a1_0, a1_1⟩ : S23) )) (Reps.none _ _)))); intro v611 w32 ho33 hb hg_ hnew_; clear hg_ hnew_; (first | rw [← Ny610.out] at ho33 | (simp only [Int.reduceToNat] at ho33; rw [← Ny610.out] at ho33)); have n0_ := Aside0.mk (Kd.R_lower (Kd.R_newB (Kd.R_newB ho33 (bk BK607.out)) (bk BK608.out)) (below_size (bw HB.out))); have n1_ := u1 BK607 hb; have n2_ := u1 BK608 hb; have n3_ := u1 BK609 hb; have n4_ := u2 HB hb; clear BK607; clear BK608; clear BK609; clear HB; have HO612 := n0_; have BK607 := n1_; have BK608 := n2_; have BK609 := n3_; have HB := n4_; clear n0_ n1_ n2_ n3_ n4_; clear hb ho33; obtain ⟨Ao34, co34, eo34⟩ := Kd.R_slice HO612.out; subst eo34) | ((with_reducible refine gate_callee (f := 23) rfl ?_); refine gL (some 8) Try.func23 #[.slice Ao34 y610.length co34] rfl ?_; (with_reducible refine (pred_can.calls k _ _ y610 false _ ?side1 ?side2 A3.out).mono ?_); (case side1 => repeat (first | exact (Kd.R_reads' HO612.out).2.2 | (with_reducible refine Kd.C_alloc ?_ _) | (with_reducible refine Kd.C_drewN ?_ _) | (with_reducible refine Kd.C_drew ?_))); (case side2 => exact (Kd.R_reads' HO612.out).2.1); rintro e w35 ⟨rfl, hb⟩; refine ⟨_, rfl, ?_⟩; have n0_ := Aside0.mk (Kd.R_below (by (with_reducible repeat (first | apply Kd.R_alloc | apply Kd.R_drewN | apply Kd.R_drew)); exact HO612.out) hb); have n1_ := u1 BK607 hb; have n2_ := u1 BK608 hb; have n3_ := u1 BK609 hb; have n4_ := u2 HB hb; clear HO612; clear BK607; clear BK608; clear BK609; clear HB; have HO612 := n0_; have BK607 := n1_; have BK608 := n2_; have BK609 := n3_; have HB := n4_; clear n0_ n1_ n2_ n3_ n4_; clear hb; obtain ⟨_, _, _, _⟩ := p2 BK609))
  refine bodyPost_ret (results_cell_row rfl _ _ gb609 37 #[.int .i64 0, .int .u64 0] (0, 0) _ rfl (by (with_reducible repeat (first | refine blk_drewN ?_ _ | refine blk_drew ?_ | refine blk_alloc ?_ _)); refine blk_put (cs := #[.int .i64 0, .int .u64 0]) ?_ 1 _ rfl; refine blk_put (cs := #[.int .i64 0, .int .u64 0]) ?_ 0 _ rfl; (with_reducible repeat (first | refine blk_drewN ?_ _ | refine blk_drew ?_ | refine blk_alloc ?_ _)); exact BK609.out) Try.underlying37 rfl (by kernel_rfl)) rfl ?_
  exact ⟨by first | rfl | (simp [*, errW_none, errW_some] <;> rfl), by repeat (first | (with_reducible first | exact HB.out | apply below_alloc | apply pw_below_drewN | apply below_drew1 | refine below_set ?_ GE607.out | refine below_set ?_ GE608.out | refine below_set ?_ GE609.out) | exact HB.out)⟩
end Go.Proofs.Ytmeckkckjikjiaa.F
end
section
namespace Go.Proofs.Ytmeckkckjikjiaa.Whole
open Go RowKit YtmeckkckjikjiaaW.PrintWords YtmeckkckjikjiaaW.PrintLast YtmeckkckjikjiaaW.PrintMore Ytmeckkckjikjiaa.F Ytmeckkckjikjiaa.Dig
set_option linter.unusedVariables false
set_option maxHeartbeats 1000000 in
theorem can_no (a b : Int) (ha : (Lit.int .i64 a).wf = true) (ha' : Sm a) (hq : Aside0 (decide (-1099511627776 ≤ a ∧ a ≤ 1099511627776) = false)) (w : World) :
  Calls Try.prog 9 #[.agg #[.int .i64 a, .int .i64 b]] w fun e w' => e = .returned (.bool false) ∧ Below w.heap.size w w' := by
 have HA := Aside0.mk ha
 have HM := Aside0.mk ha'
 clear ha ha'
 go_enter Try.func9, Try.ntmps9
 go_wp2_with fail
 obtain ⟨n0, bw⟩ := one_new w (.cells #[.int .i64 a, .int .i64 b] 23)
 generalize (w.alloc (.cells #[.int .i64 a, .int .i64 b] 23)) = W at n0 bw ⊢
 have Hb := Aside0.mk bw
 have d0 : W.cell? ⟨w.heap.size, 0, none⟩ = some (.int .i64 a) := (blk_cell n0 0).trans rfl
 have d1 : W.cell? ⟨w.heap.size, 1, none⟩ = some (.int .i64 b) := (blk_cell n0 1).trans rfl
 clear n0 bw
 go_wp2_with (first | (go_at_call 31; refine (long_c _ HA.out _).mono ?_; rintro e w1 ⟨v, rfl, hN, hb⟩; have HN := Aside0.mk hN; clear hN; obtain ⟨s1, A1, l1, cc1, rfl⟩ := HN.out.shape; have d0 := pw_cell_below hb d0; have d1 := pw_cell_below hb d1; have Hb := Aside0.mk (bthen hb Hb.out); clear hb) | (go_at_call 30; refine (in_c _ a HM.out _ HN.out).mono ?_; rw [hq.out]; rintro e w1 ⟨rfl, hb⟩; have d0 := pw_cell_below hb d0; have d1 := pw_cell_below hb d1; have Hb := Aside0.mk (bthen hb Hb.out); clear hb))
 go_ret
 exact ⟨rfl, Hb.out⟩
set_option maxHeartbeats 1000000 in
theorem can_yes (a b : Int) (ha : (Lit.int .i64 a).wf = true) (ha' : Sm a) (hb' : (Lit.int .i64 b).wf = true) (hb2 : Sm b) (hq : Aside0 (decide (-1099511627776 ≤ a ∧ a ≤ 1099511627776) = true)) (r : Bool) (hr : Aside0 (decide (-1099511627776 ≤ b ∧ b ≤ 1099511627776) = r)) (w : World) :
  Calls Try.prog 9 #[.agg #[.int .i64 a, .int .i64 b]] w fun e w' => e = .returned (.bool r) ∧ Below w.heap.size w w' := by
 have HA := Aside0.mk ha
 have HM := Aside0.mk ha'
 have HA2 := Aside0.mk hb'
 have HM2 := Aside0.mk hb2
 clear ha ha' hb' hb2
 go_enter Try.func9, Try.ntmps9
 go_wp2_with fail
 obtain ⟨n0, bw⟩ := one_new w (.cells #[.int .i64 a, .int .i64 b] 23)
 generalize (w.alloc (.cells #[.int .i64 a, .int .i64 b] 23)) = W at n0 bw ⊢
 have Hb := Aside0.mk bw
 have d0 : W.cell? ⟨w.heap.size, 0, none⟩ = some (.int .i64 a) := (blk_cell n0 0).trans rfl
 have d1 : W.cell? ⟨w.heap.size, 1, none⟩ = some (.int .i64 b) := (blk_cell n0 1).trans rfl
 clear n0 bw
 go_wp2_with fail
 refine (long_c _ HA.out _).mono ?_
 rintro e w1 ⟨v, rfl, hN, hb⟩
 have HN := Aside0.mk hN; clear hN; obtain ⟨s1, A1, l1, cc1, rfl⟩ := HN.out.shape
 have d0 := pw_cell_below hb d0; have d1 := pw_cell_below hb d1; have Hb := Aside0.mk (bthen hb Hb.out); clear hb
 go_wp2_with fail
 refine (in_c _ a HM.out _ HN.out).mono ?_
 rw [hq.out]
 rintro e w2 ⟨rfl, hb⟩
 have d0 := pw_cell_below hb d0; have d1 := pw_cell_below hb d1; have Hb := Aside0.mk (bthen hb Hb.out); clear hb
 go_wp2_with fail
 refine (long_c _ HA2.out _).mono ?_
 rintro e w3 ⟨v, rfl, hN, hb⟩
 have HN := Aside0.mk hN; clear hN; obtain ⟨s2, A2, l2, cc2, rfl⟩ := HN.out.shape
 have d0 := pw_cell_below hb d0; have d1 := pw_cell_below hb d1; have Hb := Aside0.mk (bthen hb Hb.out); clear hb
 go_wp2_with fail
 refine (in_c _ b HM2.out _ HN.out).mono ?_
 rw [hr.out]
 rintro e w4 ⟨rfl, hb⟩
 have Hb := Aside0.mk (bthen hb Hb.out); clear hb
 go_wp2
 go_ret
 exact ⟨rfl, Hb.out⟩
theorem Sm.i64 {n : Int} (h : -9223372036854775808 ≤ n ∧ n ≤ 9223372036854775807) : Sm n := Sm.of (by omega) (by omega)
theorem wf_of {n : Int} (h : -9223372036854775808 ≤ n ∧ n ≤ 9223372036854775807) : (Lit.int .i64 n).wf = true := WalkArith.wf_i64 (by omega)
end Go.Proofs.Ytmeckkckjikjiaa.Whole
namespace Go.Proofs.Ytmeckkckjikjiaa.F
open Go RowKit YtmeckkckjikjiaaW.PrintWords YtmeckkckjikjiaaW.PrintLast YtmeckkckjikjiaaW.PrintMore Ytmeckkckjikjiaa.Whole
abbrev I64 (n : Int) : Prop := -9223372036854775808 ≤ n ∧ n ≤ 9223372036854775807
abbrev InC (n : Int) : Prop := -1099511627776 ≤ n ∧ n ≤ 1099511627776
def zelligeref06_Can.f (a0_0 : Int) (a0_1 : Int) : Option Bool := if I64 a0_0 ∧ I64 a0_1 then some (decide (InC a0_0 ∧ InC a0_1)) else none
theorem zelligeref06_Can.calls (a0_0 : Int) (a0_1 : Int) (r : Bool) (w : World) (h : zelligeref06_Can.f a0_0 a0_1 = some r) :
  Calls Try.prog 9 #[.agg #[.int .i64 a0_0, .int .i64 a0_1]] w fun e w' => e = .returned (.bool r) ∧ Below w.heap.size w w' := by
 unfold zelligeref06_Can.f at h
 by_cases hb : I64 a0_0 ∧ I64 a0_1
 ·rw [if_pos hb] at h
  obtain rfl := Option.some.inj h
  by_cases h1 : InC a0_0
  ·refine can_yes a0_0 a0_1 (wf_of hb.1) (Sm.i64 hb.1) (wf_of hb.2) (Sm.i64 hb.2) ⟨decide_eq_true h1⟩ _ ⟨?_⟩ w
   rw [decide_eq_decide]
   exact ⟨fun h => ⟨h1, h⟩, fun h => h.2⟩
  ·rw [show decide (InC a0_0 ∧ InC a0_1) = false from decide_eq_false (fun h => h1 h.1)]
   exact can_no a0_0 a0_1 (wf_of hb.1) (Sm.i64 hb.1) ⟨decide_eq_false h1⟩ w
 ·rw [if_neg hb] at h
  cases h
end Go.Proofs.Ytmeckkckjikjiaa.F
end
section
namespace Go.Proofs.Ytmeckkckjikjiaa.Pd
open Go RowKit YtmeckkckjikjiaaW.PrintWords Ytmeckkckjikjiaa.F Ytmeckkckjikjiaa.Wd Ytmeckkckjikjiaa.Pm Ytmeckkckjikjiaa.Whole
set_option linter.unusedVariables false
theorem rc_f' {a b : Int} (h : I64 a ∧ I64 b) : zelligeref06_Can.f a b = some (decide (CoP a b)) := by
 unfold zelligeref06_Can.f
 rw [if_pos h]
theorem Area2_f' (a0 a1 b0 b1 c0 c1 : Int) {k : Nat} (hk : 2000 ≤ k) : pred_Area2.f k a0 a1 b0 b1 c0 c1 = some (if CoP a0 a1 ∧ CoP b0 b1 ∧ CoP c0 c1 then (whi (ar a0 a1 b0 b1 c0 c1), wlo (ar a0 a1 b0 b1 c0 c1)) else (0, 0)) := by
 unfold pred_Area2.f
 rw [can3 _ _ _ _ _ _ hk, Option.bind_some]
 by_cases h : CoP a0 a1 ∧ CoP b0 b1 ∧ CoP c0 c1
 ·obtain ⟨ha, hb, hc⟩ := h
  rw [if_pos (decide_eq_true ⟨ha, hb, hc⟩), way_f ha hb, Option.bind_some, way_f ha hc, Option.bind_some, across_f (hb.1.way ha.1) (hb.2.way ha.2) (hc.1.way ha.1) (hc.2.way ha.2), if_pos ⟨ha, hb, hc⟩]
  rfl
 ·rw [if_neg (by rw [decide_eq_true_eq]; exact h), if_neg h]
theorem Dist2_f' (a0 a1 b0 b1 : Int) {k : Nat} (hk : 2000 ≤ k) : pred_Dist2.f k a0 a1 b0 b1 = some (if CoP a0 a1 ∧ CoP b0 b1 then (whi (ds a0 a1 b0 b1), wlo (ds a0 a1 b0 b1)) else (0, 0)) := by
 unfold pred_Dist2.f
 rw [can2 _ _ _ _ hk, Option.bind_some]
 by_cases h : CoP a0 a1 ∧ CoP b0 b1
 ·rw [if_pos (decide_eq_true h), way_f h.1 h.2, Option.bind_some, square_f (h.2.1.way h.1.1) (h.2.2.way h.1.2), if_pos h]
  rfl
 ·rw [if_neg (by rw [decide_eq_true_eq]; exact h), if_neg h]
theorem Sm.am' {n : Int} {B : Nat} (h : Am n B) (hB : B ≤ 115792089237316195423570985008687907853269984665640564039457584007913129639936) : Sm n := Sm.of (by have := h.le; omega) (by have := h.le; omega)
theorem quad_l0 {l : List Int} (hl : l.length = 32) (hD : D8.Dg l) (s : Int) : ∀ (d j k : Nat) (x : List Int), 16 - j = d → j ≤ 16 → x.length = j → Dig.Dg x → Dig.val x + Dig.P j * D8.val (l.drop (2 * j)) = D8.val l → 1000 + d < k →
  zelligeref04_Quad.l0 k l s x ((2 * j : Nat) : Int) = some (if (D8.val l).toNat = 0 then 0 else s, Dig.dig (D8.val l).toNat) := by
 intro d
 induction d with
 | zero =>
  intro j k x h1 h2 h3 h4 h5 h6
  obtain ⟨k, rfl⟩ : ∃ m, k = m + 1 := ⟨k - 1, by omega⟩
  obtain rfl : j = 16 := by omega
  rw [D8.val_drop_all (by omega), Int.mul_zero, Int.add_zero] at h5
  obtain ⟨r, r1, r2, r3⟩ := Dig.trim_f h4 (by omega) (k := k) (by omega)
  have v0 := D8.val_nonneg hD
  have e : r = Dig.dig (D8.val l).toNat := Dig.eq_dig_of r2 (by rw [r3, h5]; omega)
  rw [zelligeref04_Quad.l0, if_neg (by omega), r1, Option.bind_some, e, make1_p]
  rfl
 | succ d ih =>
  intro j k x h1 h2 h3 h4 h5 h6
  obtain ⟨k, rfl⟩ : ∃ m, k = m + 1 := ⟨k - 1, by omega⟩
  have b0 := D8.Dg_get hD (2 * j)
  have b1 := D8.Dg_get hD (2 * j + 1)
  have e1 : wrap64 (((2 * j : Nat) : Int) + 1) = ((2 * j + 1 : Nat) : Int) := by rw [p64 (by omega)]; omega
  have e2 : wrap64 (((2 * j : Nat) : Int) + 2) = ((2 * (j + 1) : Nat) : Int) := by rw [p64 (by omega)]; omega
  have r0 : rd l ((2 * j : Nat) : Int) = l.getD (2 * j) 0 := rfl
  have r1 : rd l ((2 * j + 1 : Nat) : Int) = l.getD (2 * j + 1) 0 := rfl
  rw [zelligeref04_Quad.l0, e1, e2, r0, r1, p64 (x := 256 * l.getD (2 * j + 1) 0) (by omega), p64 (x := l.getD (2 * j) 0 + 256 * l.getD (2 * j + 1) 0) (by omega), if_pos (by omega), if_pos (by omega), if_pos (by omega), if_pos (by omega), if_pos (by omega), if_pos (by omega)]
  have q0 : D8.val (l.drop (2 * j)) = l.getD (2 * j) 0 + 256 * D8.val (l.drop (2 * j + 1)) := D8.val_drop (by omega)
  have q1 : D8.val (l.drop (2 * j + 1)) = l.getD (2 * j + 1) 0 + 256 * D8.val (l.drop (2 * (j + 1))) := D8.val_drop (by omega)
  refine ih (j + 1) k _ (by omega) (by omega) (by simp [h3]) (Dig.Dg_app.2 ⟨h4, Dig.Dg_one (by omega) (by omega)⟩) ?_ (by omega)
  rw [Dig.val_snoc, h3, show Dig.P (j + 1) = 65536 * Dig.P j by rw [Dig.P], ← h5, q0, q1]
  grind
theorem wq_len {l : List Int} (hl : l.length = 32) (hD : D8.Dg l) (s : Int) {k : Nat} (hk : 1100 ≤ k) : zelligeref04_Quad.j0 k l s = some (if (D8.val l).toNat = 0 then 0 else s, Dig.dig (D8.val l).toNat) := by
 obtain ⟨k, rfl⟩ : ∃ m, k = m + 1 := ⟨k - 1, by omega⟩
 rw [zelligeref04_Quad.j0]
 exact quad_l0 hl hD s 16 0 k [] rfl (by omega) rfl Dig.Dg_nil (by rw [show Dig.val [] = 0 by rw [Dig.val], show Dig.P 0 = 1 by rw [Dig.P], show l.drop (2 * 0) = l from rfl]; omega) (by omega)
theorem wquad_f {n : Int} {B : Nat} (h : Am n B) (hB : B ≤ 170141183460469231731687303715884105727) {k : Nat} (hk : 5000 ≤ k) : zelligeref04_Quad.f k (q0 n) (q1 n) (q2 n) (q3 n) = some (n.sign, Dig.dig n.natAbs) := by
 have b := h.le
 have hl := D8.qdg_len (q0 n) (q1 n) (q2 n) (q3 n)
 have hD := D8.qdg_dg (q0 n) (q1 n) (q2 n) (q3 n)
 have hv := D8.qdg_val (q_ok n)
 rw [q256] at hv
 unfold zelligeref04_Quad.f
 rw [Qd.qof_f (q_ok n), Option.bind_some, D8.rbelow_f hD (by omega) (by omega), Option.bind_some, hl, D8.P32, hv]
 generalize D8.qdg (q0 n) (q1 n) (q2 n) (q3 n) = l at *
 by_cases z : n < 0
 ·obtain ⟨r, r1, r2, r3, r4⟩ := D8.neg_f hD (by omega) (by omega) (k := k) (by omega)
  rw [hl, D8.P32, hv] at r4
  have e : D8.val r = -n := by omega
  rw [if_pos (decide_eq_true (by omega)), r1, Option.bind_some, wq_len (by omega) r3 (-1) (by omega), e, if_neg (by omega), Int.sign_eq_neg_one_of_neg z, show (-n).toNat = n.natAbs by omega]
 ·have e : D8.val l = n := by omega
  rw [if_neg (by rw [decide_eq_true_eq]; omega), wq_len hl hD 1 (by omega), e, show n.toNat = n.natAbs by omega]
  by_cases y : n = 0
  ·subst y; rfl
  ·rw [if_neg (by omega), Int.sign_eq_one_of_pos (by omega)]
theorem wide_r {n : Int} {B : Nat} (h : Am n B) (hB : B ≤ 170141183460469231731687303715884105727) {k : Nat} (hk : 5000 ≤ k) : zelligelaw07_wide.f k (whi n) (wlo n) = some (n.sign, Dig.dig n.natAbs) := by
 have b := h.le
 obtain ⟨l, l1, l2, l3, l4⟩ := Qd.long_f (wok_of n) (k := k) (by omega)
 rw [am_w h hB, D8.P32] at l4
 unfold zelligelaw07_wide.f
 rw [l1, Option.bind_some, Qd.rquad_f l2 l3, Option.bind_some, qcong (m := n) (by rw [l4]; omega)]
 unfold qq4
 rw [wquad_f h hB hk]
 rfl
theorem i64_of' {n : Int} (h : (Lit.int .i64 n).wf = true) : I64 n := by have := bounds_i64 h; omega
end Go.Proofs.Ytmeckkckjikjiaa.Pd
end
section
namespace Go.Proofs.Ytmeckkckjikjiaa.F
open RowKit YtmeckkckjikjiaaW.PrintWords YtmeckkckjikjiaaW.PrintLast YtmeckkckjikjiaaW.PrintMore
set_option linter.unusedVariables false
set_option linter.unusedSimpArgs false
def zelligeref07_near.f (a0_0 : Int) (a0_1 : Int) (a1_0 : Int) (a1_1 : Int) : Option (Bool) := if (wrap64 (a1_0 - a0_0)) > (-8192) then (if (wrap64 (a1_0 - a0_0)) < 8192 then (if (wrap64 (a1_1 - a0_1)) > (-8192) then (some (decide ((wrap64 (a1_1 - a0_1)) < 8192))) else (some false)) else (some false)) else (some false)
set_option maxHeartbeats 8000000 in
set_option maxRecDepth 100000 in
theorem zelligeref07_near.calls (a0_0 : Int) (a0_1 : Int) (a1_0 : Int) (a1_1 : Int) (r : Bool) (w : World) (h : zelligeref07_near.f a0_0 a0_1 a1_0 a1_1 = some r) :
  Calls Try.prog 32 #[.agg #[.int .i64 a0_0, .int .i64 a0_1], .agg #[.int .i64 a1_0, .int .i64 a1_1]] w fun e w' => e = .returned (.bool r) ∧ Below w.heap.size w w' := by
 have hu23 := Try.underlying23
 have HB := Aside0.mk (Below.refl w.heap.size w)
 have H : (if (wrap64 (a1_0 - a0_0)) > (-8192) then (if (wrap64 (a1_0 - a0_0)) < 8192 then (if (wrap64 (a1_1 - a0_1)) > (-8192) then (some (decide ((wrap64 (a1_1 - a0_1)) < 8192))) else (some false)) else (some false)) else (some false)) = some r := h
 clear h
 by_cases c3 : (wrap64 (a1_0 - a0_0)) > (-8192)
 ·rw [if_pos c3] at H
  have c3b0 : decide ((-8192) < (wrap64 (a1_0 - a0_0))) = true := decide_eq_true c3
  clear c3
  by_cases c4 : (wrap64 (a1_0 - a0_0)) < 8192
  ·rw [if_pos c4] at H
   have c4b0 : decide ((wrap64 (a1_0 - a0_0)) < 8192) = true := decide_eq_true c4
   clear c4
   by_cases c5 : (wrap64 (a1_1 - a0_1)) > (-8192)
   ·rw [if_pos c5] at H
    have c5b0 : decide ((-8192) < (wrap64 (a1_1 - a0_1))) = true := decide_eq_true c5
    clear c5
    obtain rfl := Option.some.inj H
    go_enter Try.func32, Try.ntmps32
    go_wp2_with (first | ((with_reducible refine gate_dst (N := 2) rfl ?_); refine bx 2 #[.int .i64 a0_0, .int .i64 a0_1] 23 ?_; intro gb440 hg w6 hbox hb; have BK440 := Aside0.mk hbox; have GW440 := u3 hg HB; have GE440 := u3 hg HB; replace HB := u2 HB hb; clear hb hbox hg) | ((with_reducible refine gate_dst (N := 3) rfl ?_); refine bx 3 #[.int .i64 a1_0, .int .i64 a1_1] 23 ?_; intro gb441 hg w7 hbox hb; have BK441 := Aside0.mk hbox; have GW441 := u3 hg HB; have GE441 := u3 hg HB; have NB440_441 := u4 hg BK440; have NB441_440 := u5 hg BK440; replace BK440 := u1 BK440 hb; replace HB := u2 HB hb; clear hb hbox hg; have hnb8 := NB441_440.out; have hnc8 := NB440_441.out; obtain ⟨hcz9_0, hcz9_1, hfz9_0, hfz9_1⟩ := p2 BK441; obtain ⟨hcz10_0, hcz10_1, hfz10_0, hfz10_1⟩ := p2 BK440))
    repeat (go_quiet (first | ((with_reducible refine gate_dst (N := 2) rfl ?_); refine bx 2 #[.int .i64 a0_0, .int .i64 a0_1] 23 ?_; intro gb440 hg w6 hbox hb; have BK440 := Aside0.mk hbox; have GW440 := u3 hg HB; have GE440 := u3 hg HB; replace HB := u2 HB hb; clear hb hbox hg) | ((with_reducible refine gate_dst (N := 3) rfl ?_); refine bx 3 #[.int .i64 a1_0, .int .i64 a1_1] 23 ?_; intro gb441 hg w7 hbox hb; have BK441 := Aside0.mk hbox; have GW441 := u3 hg HB; have GE441 := u3 hg HB; have NB440_441 := u4 hg BK440; have NB441_440 := u5 hg BK440; replace BK440 := u1 BK440 hb; replace HB := u2 HB hb; clear hb hbox hg; have hnb8 := NB441_440.out; have hnc8 := NB440_441.out; obtain ⟨hcz9_0, hcz9_1, hfz9_0, hfz9_1⟩ := p2 BK441; obtain ⟨hcz10_0, hcz10_1, hfz10_0, hfz10_1⟩ := p2 BK440)); try go_wp2_with (first | ((with_reducible refine gate_dst (N := 2) rfl ?_); refine bx 2 #[.int .i64 a0_0, .int .i64 a0_1] 23 ?_; intro gb440 hg w6 hbox hb; have BK440 := Aside0.mk hbox; have GW440 := u3 hg HB; have GE440 := u3 hg HB; replace HB := u2 HB hb; clear hb hbox hg) | ((with_reducible refine gate_dst (N := 3) rfl ?_); refine bx 3 #[.int .i64 a1_0, .int .i64 a1_1] 23 ?_; intro gb441 hg w7 hbox hb; have BK441 := Aside0.mk hbox; have GW441 := u3 hg HB; have GE441 := u3 hg HB; have NB440_441 := u4 hg BK440; have NB441_440 := u5 hg BK440; replace BK440 := u1 BK440 hb; replace HB := u2 HB hb; clear hb hbox hg; have hnb8 := NB441_440.out; have hnc8 := NB440_441.out; obtain ⟨hcz9_0, hcz9_1, hfz9_0, hfz9_1⟩ := p2 BK441; obtain ⟨hcz10_0, hcz10_1, hfz10_0, hfz10_1⟩ := p2 BK440)))
    go_ret
    exact ⟨by first | rfl | (simp [*, errW_none, errW_some] <;> rfl), bw HB.out⟩
   ·rw [if_neg c5] at H
    have c5b0 : decide ((-8192) < (wrap64 (a1_1 - a0_1))) = false := decide_eq_false c5
    clear c5
    obtain rfl := Option.some.inj H
    go_enter Try.func32, Try.ntmps32
    go_wp2_with (first | ((with_reducible refine gate_dst (N := 2) rfl ?_); refine bx 2 #[.int .i64 a0_0, .int .i64 a0_1] 23 ?_; intro gb440 hg w11 hbox hb; have BK440 := Aside0.mk hbox; have GW440 := u3 hg HB; have GE440 := u3 hg HB; replace HB := u2 HB hb; clear hb hbox hg) | ((with_reducible refine gate_dst (N := 3) rfl ?_); refine bx 3 #[.int .i64 a1_0, .int .i64 a1_1] 23 ?_; intro gb441 hg w12 hbox hb; have BK441 := Aside0.mk hbox; have GW441 := u3 hg HB; have GE441 := u3 hg HB; have NB440_441 := u4 hg BK440; have NB441_440 := u5 hg BK440; replace BK440 := u1 BK440 hb; replace HB := u2 HB hb; clear hb hbox hg; have hnb13 := NB441_440.out; have hnc13 := NB440_441.out; obtain ⟨hcz14_0, hcz14_1, hfz14_0, hfz14_1⟩ := p2 BK441; obtain ⟨hcz15_0, hcz15_1, hfz15_0, hfz15_1⟩ := p2 BK440))
    repeat (go_quiet (first | ((with_reducible refine gate_dst (N := 2) rfl ?_); refine bx 2 #[.int .i64 a0_0, .int .i64 a0_1] 23 ?_; intro gb440 hg w11 hbox hb; have BK440 := Aside0.mk hbox; have GW440 := u3 hg HB; have GE440 := u3 hg HB; replace HB := u2 HB hb; clear hb hbox hg) | ((with_reducible refine gate_dst (N := 3) rfl ?_); refine bx 3 #[.int .i64 a1_0, .int .i64 a1_1] 23 ?_; intro gb441 hg w12 hbox hb; have BK441 := Aside0.mk hbox; have GW441 := u3 hg HB; have GE441 := u3 hg HB; have NB440_441 := u4 hg BK440; have NB441_440 := u5 hg BK440; replace BK440 := u1 BK440 hb; replace HB := u2 HB hb; clear hb hbox hg; have hnb13 := NB441_440.out; have hnc13 := NB440_441.out; obtain ⟨hcz14_0, hcz14_1, hfz14_0, hfz14_1⟩ := p2 BK441; obtain ⟨hcz15_0, hcz15_1, hfz15_0, hfz15_1⟩ := p2 BK440)); try go_wp2_with (first | ((with_reducible refine gate_dst (N := 2) rfl ?_); refine bx 2 #[.int .i64 a0_0, .int .i64 a0_1] 23 ?_; intro gb440 hg w11 hbox hb; have BK440 := Aside0.mk hbox; have GW440 := u3 hg HB; have GE440 := u3 hg HB; replace HB := u2 HB hb; clear hb hbox hg) | ((with_reducible refine gate_dst (N := 3) rfl ?_); refine bx 3 #[.int .i64 a1_0, .int .i64 a1_1] 23 ?_; intro gb441 hg w12 hbox hb; have BK441 := Aside0.mk hbox; have GW441 := u3 hg HB; have GE441 := u3 hg HB; have NB440_441 := u4 hg BK440; have NB441_440 := u5 hg BK440; replace BK440 := u1 BK440 hb; replace HB := u2 HB hb; clear hb hbox hg; have hnb13 := NB441_440.out; have hnc13 := NB440_441.out; obtain ⟨hcz14_0, hcz14_1, hfz14_0, hfz14_1⟩ := p2 BK441; obtain ⟨hcz15_0, hcz15_1, hfz15_0, hfz15_1⟩ := p2 BK440)))
    go_ret
    exact ⟨by first | rfl | (simp [*, errW_none, errW_some] <;> rfl), bw HB.out⟩
  ·rw [if_neg c4] at H
   have c4b0 : decide ((wrap64 (a1_0 - a0_0)) < 8192) = false := decide_eq_false c4
   clear c4
   obtain rfl := Option.some.inj H
   go_enter Try.func32, Try.ntmps32
   go_wp2_with (first | ((with_reducible refine gate_dst (N := 2) rfl ?_); refine bx 2 #[.int .i64 a0_0, .int .i64 a0_1] 23 ?_; intro gb440 hg w16 hbox hb; have BK440 := Aside0.mk hbox; have GW440 := u3 hg HB; have GE440 := u3 hg HB; replace HB := u2 HB hb; clear hb hbox hg) | ((with_reducible refine gate_dst (N := 3) rfl ?_); refine bx 3 #[.int .i64 a1_0, .int .i64 a1_1] 23 ?_; intro gb441 hg w17 hbox hb; have BK441 := Aside0.mk hbox; have GW441 := u3 hg HB; have GE441 := u3 hg HB; have NB440_441 := u4 hg BK440; have NB441_440 := u5 hg BK440; replace BK440 := u1 BK440 hb; replace HB := u2 HB hb; clear hb hbox hg; have hnb18 := NB441_440.out; have hnc18 := NB440_441.out; obtain ⟨hcz19_0, hcz19_1, hfz19_0, hfz19_1⟩ := p2 BK441; obtain ⟨hcz20_0, hcz20_1, hfz20_0, hfz20_1⟩ := p2 BK440))
   repeat (go_quiet (first | ((with_reducible refine gate_dst (N := 2) rfl ?_); refine bx 2 #[.int .i64 a0_0, .int .i64 a0_1] 23 ?_; intro gb440 hg w16 hbox hb; have BK440 := Aside0.mk hbox; have GW440 := u3 hg HB; have GE440 := u3 hg HB; replace HB := u2 HB hb; clear hb hbox hg) | ((with_reducible refine gate_dst (N := 3) rfl ?_); refine bx 3 #[.int .i64 a1_0, .int .i64 a1_1] 23 ?_; intro gb441 hg w17 hbox hb; have BK441 := Aside0.mk hbox; have GW441 := u3 hg HB; have GE441 := u3 hg HB; have NB440_441 := u4 hg BK440; have NB441_440 := u5 hg BK440; replace BK440 := u1 BK440 hb; replace HB := u2 HB hb; clear hb hbox hg; have hnb18 := NB441_440.out; have hnc18 := NB440_441.out; obtain ⟨hcz19_0, hcz19_1, hfz19_0, hfz19_1⟩ := p2 BK441; obtain ⟨hcz20_0, hcz20_1, hfz20_0, hfz20_1⟩ := p2 BK440)); try go_wp2_with (first | ((with_reducible refine gate_dst (N := 2) rfl ?_); refine bx 2 #[.int .i64 a0_0, .int .i64 a0_1] 23 ?_; intro gb440 hg w16 hbox hb; have BK440 := Aside0.mk hbox; have GW440 := u3 hg HB; have GE440 := u3 hg HB; replace HB := u2 HB hb; clear hb hbox hg) | ((with_reducible refine gate_dst (N := 3) rfl ?_); refine bx 3 #[.int .i64 a1_0, .int .i64 a1_1] 23 ?_; intro gb441 hg w17 hbox hb; have BK441 := Aside0.mk hbox; have GW441 := u3 hg HB; have GE441 := u3 hg HB; have NB440_441 := u4 hg BK440; have NB441_440 := u5 hg BK440; replace BK440 := u1 BK440 hb; replace HB := u2 HB hb; clear hb hbox hg; have hnb18 := NB441_440.out; have hnc18 := NB440_441.out; obtain ⟨hcz19_0, hcz19_1, hfz19_0, hfz19_1⟩ := p2 BK441; obtain ⟨hcz20_0, hcz20_1, hfz20_0, hfz20_1⟩ := p2 BK440)))
   go_ret
   exact ⟨by first | rfl | (simp [*, errW_none, errW_some] <;> rfl), bw HB.out⟩
 ·rw [if_neg c3] at H
  have c3b0 : decide ((-8192) < (wrap64 (a1_0 - a0_0))) = false := decide_eq_false c3
  clear c3
  obtain rfl := Option.some.inj H
  go_enter Try.func32, Try.ntmps32
  go_wp2_with (first | ((with_reducible refine gate_dst (N := 2) rfl ?_); refine bx 2 #[.int .i64 a0_0, .int .i64 a0_1] 23 ?_; intro gb440 hg w21 hbox hb; have BK440 := Aside0.mk hbox; have GW440 := u3 hg HB; have GE440 := u3 hg HB; replace HB := u2 HB hb; clear hb hbox hg) | ((with_reducible refine gate_dst (N := 3) rfl ?_); refine bx 3 #[.int .i64 a1_0, .int .i64 a1_1] 23 ?_; intro gb441 hg w22 hbox hb; have BK441 := Aside0.mk hbox; have GW441 := u3 hg HB; have GE441 := u3 hg HB; have NB440_441 := u4 hg BK440; have NB441_440 := u5 hg BK440; replace BK440 := u1 BK440 hb; replace HB := u2 HB hb; clear hb hbox hg; have hnb23 := NB441_440.out; have hnc23 := NB440_441.out; obtain ⟨hcz24_0, hcz24_1, hfz24_0, hfz24_1⟩ := p2 BK441; obtain ⟨hcz25_0, hcz25_1, hfz25_0, hfz25_1⟩ := p2 BK440))
  repeat (go_quiet (first | ((with_reducible refine gate_dst (N := 2) rfl ?_); refine bx 2 #[.int .i64 a0_0, .int .i64 a0_1] 23 ?_; intro gb440 hg w21 hbox hb; have BK440 := Aside0.mk hbox; have GW440 := u3 hg HB; have GE440 := u3 hg HB; replace HB := u2 HB hb; clear hb hbox hg) | ((with_reducible refine gate_dst (N := 3) rfl ?_); refine bx 3 #[.int .i64 a1_0, .int .i64 a1_1] 23 ?_; intro gb441 hg w22 hbox hb; have BK441 := Aside0.mk hbox; have GW441 := u3 hg HB; have GE441 := u3 hg HB; have NB440_441 := u4 hg BK440; have NB441_440 := u5 hg BK440; replace BK440 := u1 BK440 hb; replace HB := u2 HB hb; clear hb hbox hg; have hnb23 := NB441_440.out; have hnc23 := NB440_441.out; obtain ⟨hcz24_0, hcz24_1, hfz24_0, hfz24_1⟩ := p2 BK441; obtain ⟨hcz25_0, hcz25_1, hfz25_0, hfz25_1⟩ := p2 BK440)); try go_wp2_with (first | ((with_reducible refine gate_dst (N := 2) rfl ?_); refine bx 2 #[.int .i64 a0_0, .int .i64 a0_1] 23 ?_; intro gb440 hg w21 hbox hb; have BK440 := Aside0.mk hbox; have GW440 := u3 hg HB; have GE440 := u3 hg HB; replace HB := u2 HB hb; clear hb hbox hg) | ((with_reducible refine gate_dst (N := 3) rfl ?_); refine bx 3 #[.int .i64 a1_0, .int .i64 a1_1] 23 ?_; intro gb441 hg w22 hbox hb; have BK441 := Aside0.mk hbox; have GW441 := u3 hg HB; have GE441 := u3 hg HB; have NB440_441 := u4 hg BK440; have NB441_440 := u5 hg BK440; replace BK440 := u1 BK440 hb; replace HB := u2 HB hb; clear hb hbox hg; have hnb23 := NB441_440.out; have hnc23 := NB440_441.out; obtain ⟨hcz24_0, hcz24_1, hfz24_0, hfz24_1⟩ := p2 BK441; obtain ⟨hcz25_0, hcz25_1, hfz25_0, hfz25_1⟩ := p2 BK440)))
  go_ret
  exact ⟨by first | rfl | (simp [*, errW_none, errW_some] <;> rfl), bw HB.out⟩
end Go.Proofs.Ytmeckkckjikjiaa.F
end
section
namespace Go.Proofs.Ytmeckkckjikjiaa.F
open RowKit YtmeckkckjikjiaaW.PrintWords YtmeckkckjikjiaaW.PrintLast YtmeckkckjikjiaaW.PrintMore
set_option linter.unusedVariables false
set_option linter.unusedSimpArgs false
def zelligeref07_sign.f (a0 : Int) : Option (Int) := if a0 < 0 then (some (-1)) else (if a0 > 0 then (some 1) else (some 0))
set_option maxHeartbeats 8000000 in
set_option maxRecDepth 100000 in
theorem zelligeref07_sign.calls (a0 : Int) (r : Int) (w : World) (h : zelligeref07_sign.f a0 = some r) :
  Calls Try.prog 42 #[.int .i64 a0] w fun e w' => e = .returned (.int .i64 r) ∧ Drawn0 w w' := by
 have H : (if a0 < 0 then (some (-1)) else (if a0 > 0 then (some 1) else (some 0))) = some r := h
 clear h
 by_cases c2 : a0 < 0
 ·rw [if_pos c2] at H
  have c2b0 : decide (a0 < 0) = true := decide_eq_true c2
  clear c2
  obtain rfl := Option.some.inj H
  go_enter Try.func42, Try.ntmps42
  go_wp2
  go_ret
  exact ⟨by first | rfl | (simp; done) | (simp [*]; done), by repeat (first | exact Drawn0.refl _ | apply Drawn0.step)⟩
 ·rw [if_neg c2] at H
  have c2b0 : decide (a0 < 0) = false := decide_eq_false c2
  clear c2
  by_cases c3 : a0 > 0
  ·rw [if_pos c3] at H
   have c3b0 : decide (0 < a0) = true := decide_eq_true c3
   clear c3
   obtain rfl := Option.some.inj H
   go_enter Try.func42, Try.ntmps42
   go_wp2
   go_ret
   exact ⟨by first | rfl | (simp; done) | (simp [*]; done), by repeat (first | exact Drawn0.refl _ | apply Drawn0.step)⟩
  ·rw [if_neg c3] at H
   have c3b0 : decide (0 < a0) = false := decide_eq_false c3
   clear c3
   obtain rfl := Option.some.inj H
   go_enter Try.func42, Try.ntmps42
   go_wp2
   go_ret
   exact ⟨by first | rfl | (simp; done) | (simp [*]; done), by repeat (first | exact Drawn0.refl _ | apply Drawn0.step)⟩
end Go.Proofs.Ytmeckkckjikjiaa.F
end
section
namespace Go.Proofs.Ytmeckkckjikjiaa.F
end Go.Proofs.Ytmeckkckjikjiaa.F
end
section
namespace Go.Proofs.Ytmeckkckjikjiaa.Rf
open Go RowKit YtmeckkckjikjiaaW.PrintWords Ytmeckkckjikjiaa.F Ytmeckkckjikjiaa.Wd Ytmeckkckjikjiaa.Pm Ytmeckkckjikjiaa.Pd
set_option linter.unusedVariables false
theorem sign_p (n : Int) : zelligeref07_sign.f n = some n.sign := by
 unfold zelligeref07_sign.f
 rcases sign_cases n with ⟨h, e⟩ | ⟨h, e⟩ | ⟨h, e⟩
 ·rw [if_pos h, e]
 ·rw [if_neg (by omega), if_neg (by omega), e]
 ·rw [if_neg (by omega), if_pos h, e]
theorem near_p {a0 a1 b0 b1 : Int} (ha : CoP a0 a1) (hb : CoP b0 b1) : ∃ m, zelligeref07_near.f a0 a1 b0 b1 = some m ∧ (m = true → Am (b0 - a0) 8191 ∧ Am (b1 - a1) 8191) := by
 unfold CoP Co at *
 unfold zelligeref07_near.f
 rw [p64 (x := b0 - a0) (by omega), p64 (x := b1 - a1) (by omega)]
 by_cases h1 : b0 - a0 > -8192
 ·rw [if_pos h1]
  by_cases h2 : b0 - a0 < 8192
  ·rw [if_pos h2]
   by_cases h3 : b1 - a1 > -8192
   ·rw [if_pos h3]
    exact ⟨_, rfl, fun h => ⟨Am.of (by omega), Am.of (by have := of_decide_eq_true h; omega)⟩⟩
   ·rw [if_neg h3]; exact ⟨_, rfl, fun h => by cases h⟩
  ·rw [if_neg h2]; exact ⟨_, rfl, fun h => by cases h⟩
 ·rw [if_neg h1]; exact ⟨_, rfl, fun h => by cases h⟩
theorem am64 {n : Int} {B : Nat} (h : Am n B) (hB : B ≤ 9223372036854775807) : wrap64 n = n := p64 (by have := h.le; omega)
theorem cr_am {x y z t : Int} (h : Am x 8191) (h' : Am y 8191) (hz : Am z 8191) (ht : Am t 8191) : Am (x * t) 67092481 ∧ Am (y * z) 67092481 ∧ Am (x * t - y * z) 134184962 := ⟨(Am.mul h ht).mono (by omega), (Am.mul h' hz).mono (by omega), ((Am.mul h ht).sub (Am.mul h' hz)).mono (by omega)⟩
end Go.Proofs.Ytmeckkckjikjiaa.Rf
end
section
namespace Go.Proofs.Ytmeckkckjikjiaa.Rf
open Go RowKit YtmeckkckjikjiaaW.PrintWords YtmeckkckjikjiaaW.PrintLast YtmeckkckjikjiaaW.PrintMore Ytmeckkckjikjiaa.F Ytmeckkckjikjiaa.Whole Ytmeckkckjikjiaa.Pm Ytmeckkckjikjiaa.Pd Ytmeckkckjikjiaa.Wd
set_option linter.unusedVariables false
set_option linter.unusedSimpArgs false
theorem field_s (q : Int) (v : Value) (W : World) : (Instr.field 33 (.agg #[.int .i64 q, v]) 0).run Try.prog W = .ok (.int .i64 q) W := by kernel_rfl
structure B3 (w : World) (a0 a1 b0 b1 c0 c1 : Int) (W : World) : Prop where
 mk :: (out : Below w.heap.size w W ∧ W.heap[w.heap.size]? = some (.cells #[.int .i64 a0, .int .i64 a1] 23 (0, 0)) ∧ W.heap[w.heap.size + 1]? = some (.cells #[.int .i64 b0, .int .i64 b1] 23 (0, 0)) ∧ W.heap[w.heap.size + 1 + 1]? = some (.cells #[.int .i64 c0, .int .i64 c1] 23 (0, 0)))
section
variable {w W W' : World} {a0 a1 b0 b1 c0 c1 : Int}
theorem B3.below (h : B3 w a0 a1 b0 b1 c0 c1 W) (hb : Below W.heap.size W W') : B3 w a0 a1 b0 b1 c0 c1 W' :=
 ⟨⟨below_step h.out.1 hb, blk_below h.out.2.1 hb, blk_below h.out.2.2.1 hb, blk_below h.out.2.2.2 hb⟩⟩
theorem B3.cells (h : B3 w a0 a1 b0 b1 c0 c1 W) : W.cell? ⟨w.heap.size, 0, none⟩ = some (.int .i64 a0) ∧ W.cell? ⟨w.heap.size, 1, none⟩ = some (.int .i64 a1) ∧ W.cell? ⟨w.heap.size + 1, 0, none⟩ = some (.int .i64 b0) ∧ W.cell? ⟨w.heap.size + 1, 1, none⟩ = some (.int .i64 b1) ∧ W.cell? ⟨w.heap.size + 1 + 1, 0, none⟩ = some (.int .i64 c0) ∧ W.cell? ⟨w.heap.size + 1 + 1, 1, none⟩ = some (.int .i64 c1) :=
 ⟨(blk_cell h.out.2.1 0).trans rfl, (blk_cell h.out.2.1 1).trans rfl, (blk_cell h.out.2.2.1 0).trans rfl, (blk_cell h.out.2.2.1 1).trans rfl, (blk_cell h.out.2.2.2 0).trans rfl, (blk_cell h.out.2.2.2 1).trans rfl⟩
end
set_option maxHeartbeats 8000000 in
set_option maxRecDepth 100000 in
theorem orient_near {a0 a1 b0 b1 c0 c1 : Int} (ha : CoP a0 a1) (hb : CoP b0 b1) (hc : CoP c0 c1) (Nb : Aside0 (zelligeref07_near.f a0 a1 b0 b1 = some true)) (Nc : Aside0 (zelligeref07_near.f a0 a1 c0 c1 = some true))
  (q : Int) (SG : Aside0 (zelligeref07_sign.f (wrap64 (wrap64 (wrap64 (b0 - a0) * wrap64 (c1 - a1)) - wrap64 (wrap64 (b1 - a1) * wrap64 (c0 - a0)))) = some q)) (w : World) :
  Calls Try.prog 21 #[.agg #[.int .i64 a0, .int .i64 a1], .agg #[.int .i64 b0, .int .i64 b1], .agg #[.int .i64 c0, .int .i64 c1]] w fun e w' => e = .returned (.int .i64 q) ∧ Below w.heap.size w w' := by
 have AH := Aside0.mk (And.intro ha (And.intro hb hc))
 clear ha hb hc
 go_enter Try.func21, Try.ntmps21
 go_upto_region 1 with fail
 obtain ⟨n0, n1, n2, bw, nw⟩ := Whole.three_new w (.cells #[.int .i64 a0, .int .i64 a1] 23) (.cells #[.int .i64 b0, .int .i64 b1] 23) (.cells #[.int .i64 c0, .int .i64 c1] 23)
 generalize (((w.alloc (.cells #[.int .i64 a0, .int .i64 a1] 23)).alloc (.cells #[.int .i64 b0, .int .i64 b1] 23)).alloc (.cells #[.int .i64 c0, .int .i64 c1] 23)) = W at n0 n1 n2 bw nw ⊢
 have S := Aside0.mk (B3.mk ⟨bw, n0, n1, n2⟩)
 clear n0 n1 n2 bw nw
 obtain ⟨k0, k1, k2, k3, k4, k5⟩ := S.out.cells
 go_wp2_with (first | (first | (with_reducible go_at_call 32; with_reducible refine (zelligeref07_near.calls a0 a1 b0 b1 _ _ Nb.out).mono ?_; rintro e v1 ⟨rfl, hb⟩; have S := Aside0.mk (S.out.below hb); clear hb k0 k1 k2 k3 k4 k5; obtain ⟨k0, k1, k2, k3, k4, k5⟩ := S.out.cells) | (with_reducible go_at_call 32; with_reducible refine (zelligeref07_near.calls a0 a1 c0 c1 _ _ Nc.out).mono ?_; rintro e v1 ⟨rfl, hb⟩; have S := Aside0.mk (S.out.below hb); clear hb k0 k1 k2 k3 k4 k5; obtain ⟨k0, k1, k2, k3, k4, k5⟩ := S.out.cells)) | (with_reducible go_at_call 42; with_reducible refine (zelligeref07_sign.calls _ _ _ SG.out).mono ?_; rintro e v1 ⟨rfl, hb⟩; have S := Aside0.mk (S.out.below hb.below); clear hb k0 k1 k2 k3 k4 k5; obtain ⟨k0, k1, k2, k3, k4, k5⟩ := S.out.cells))
 go_ret
 exact ⟨rfl, S.out.out.1⟩
set_option maxHeartbeats 8000000 in
set_option maxRecDepth 100000 in
theorem orient_far {a0 a1 b0 b1 c0 c1 : Int} (ha : CoP a0 a1) (hb : CoP b0 b1) (hc : CoP c0 c1) (m1 m2 : Bool) (hm : m1 = true → m2 = true → False) (Nb : Aside0 (zelligeref07_near.f a0 a1 b0 b1 = some m1)) (Nc : Aside0 (zelligeref07_near.f a0 a1 c0 c1 = some m2))
  (q : Int) (hq : Aside0 ((ar a0 a1 b0 b1 c0 c1).sign = q)) (w : World) :
  Calls Try.prog 21 #[.agg #[.int .i64 a0, .int .i64 a1], .agg #[.int .i64 b0, .int .i64 b1], .agg #[.int .i64 c0, .int .i64 c1]] w fun e w' => e = .returned (.int .i64 q) ∧ Below w.heap.size w w' := by
 have AH := Aside0.mk (And.intro ha (And.intro hb hc))
 clear ha hb hc
 go_enter Try.func21, Try.ntmps21
 go_upto_region 1 with fail
 obtain ⟨n0, n1, n2, bw, nw⟩ := Whole.three_new w (.cells #[.int .i64 a0, .int .i64 a1] 23) (.cells #[.int .i64 b0, .int .i64 b1] 23) (.cells #[.int .i64 c0, .int .i64 c1] 23)
 generalize (((w.alloc (.cells #[.int .i64 a0, .int .i64 a1] 23)).alloc (.cells #[.int .i64 b0, .int .i64 b1] 23)).alloc (.cells #[.int .i64 c0, .int .i64 c1] 23)) = W at n0 n1 n2 bw nw ⊢
 have S := Aside0.mk (B3.mk ⟨bw, n0, n1, n2⟩)
 clear n0 n1 n2 bw nw
 obtain ⟨k0, k1, k2, k3, k4, k5⟩ := S.out.cells
 cases m1
 ·go_upto_region 3 with (first | (with_reducible go_at_call 32; with_reducible refine (zelligeref07_near.calls a0 a1 b0 b1 _ _ Nb.out).mono ?_; rintro e v1 ⟨rfl, hb⟩; have S := Aside0.mk (S.out.below hb); clear hb k0 k1 k2 k3 k4 k5; obtain ⟨k0, k1, k2, k3, k4, k5⟩ := S.out.cells) | (with_reducible go_at_call 32; with_reducible refine (zelligeref07_near.calls a0 a1 c0 c1 _ _ Nc.out).mono ?_; rintro e v1 ⟨rfl, hb⟩; have S := Aside0.mk (S.out.below hb); clear hb k0 k1 k2 k3 k4 k5; obtain ⟨k0, k1, k2, k3, k4, k5⟩ := S.out.cells))
  clear k0 k1 k2 k3 k4 k5 Nb Nc hm
  have n0 := S.out.out.2.1; have n1 := S.out.out.2.2.1; have n2 := S.out.out.2.2.2
  obtain ⟨k0, k1, k2, k3, k4, k5⟩ := S.out.cells
  go_wp2_with fail
  obtain ⟨ha, hb, hc⟩ := AH.out
  refine (area_c ha hb hc _).mono ?_
  rintro e w1 ⟨v, rfl, hN, hb⟩
  obtain ⟨A1, l1, c1', rfl, _⟩ := hN
  rw [hq.out]
  have S := Aside0.mk (S.out.below hb)
  clear hb
  have hf := field_s q (.slice A1 l1 c1')
  go_wp2
  go_ret
  exact ⟨rfl, S.out.out.1⟩
 cases m2
 ·go_upto_region 3 with (first | (with_reducible go_at_call 32; with_reducible refine (zelligeref07_near.calls a0 a1 b0 b1 _ _ Nb.out).mono ?_; rintro e v1 ⟨rfl, hb⟩; have S := Aside0.mk (S.out.below hb); clear hb k0 k1 k2 k3 k4 k5; obtain ⟨k0, k1, k2, k3, k4, k5⟩ := S.out.cells) | (with_reducible go_at_call 32; with_reducible refine (zelligeref07_near.calls a0 a1 c0 c1 _ _ Nc.out).mono ?_; rintro e v1 ⟨rfl, hb⟩; have S := Aside0.mk (S.out.below hb); clear hb k0 k1 k2 k3 k4 k5; obtain ⟨k0, k1, k2, k3, k4, k5⟩ := S.out.cells))
  clear k0 k1 k2 k3 k4 k5 Nb Nc hm
  obtain ⟨k0, k1, k2, k3, k4, k5⟩ := S.out.cells
  go_wp2_with fail
  obtain ⟨ha, hb, hc⟩ := AH.out
  refine (area_c ha hb hc _).mono ?_
  rintro e w1 ⟨v, rfl, hN, hb⟩
  obtain ⟨A1, l1, c1', rfl, _⟩ := hN
  rw [hq.out]
  have S := Aside0.mk (S.out.below hb)
  clear hb
  have hf := field_s q (.slice A1 l1 c1')
  go_wp2
  go_ret
  exact ⟨rfl, S.out.out.1⟩
 exact (hm rfl rfl).elim
end Go.Proofs.Ytmeckkckjikjiaa.Rf
namespace Go.Proofs.Ytmeckkckjikjiaa.F
open Go RowKit YtmeckkckjikjiaaW.PrintWords Ytmeckkckjikjiaa.Pm Ytmeckkckjikjiaa.Pd Ytmeckkckjikjiaa.Rf
def zelligeref07_Orient.f (a0_0 a0_1 a1_0 a1_1 a2_0 a2_1 : Int) : Option Int := if CoP a0_0 a0_1 ∧ CoP a1_0 a1_1 ∧ CoP a2_0 a2_1 then some (ar a0_0 a0_1 a1_0 a1_1 a2_0 a2_1).sign else none
theorem zelligeref07_Orient.calls (a0_0 a0_1 a1_0 a1_1 a2_0 a2_1 : Int) (r : Int) (w : World) (h : zelligeref07_Orient.f a0_0 a0_1 a1_0 a1_1 a2_0 a2_1 = some r) :
  Calls Try.prog 21 #[.agg #[.int .i64 a0_0, .int .i64 a0_1], .agg #[.int .i64 a1_0, .int .i64 a1_1], .agg #[.int .i64 a2_0, .int .i64 a2_1]] w fun e w' => e = .returned (.int .i64 r) ∧ Below w.heap.size w w' := by
 unfold zelligeref07_Orient.f at h
 by_cases hh : CoP a0_0 a0_1 ∧ CoP a1_0 a1_1 ∧ CoP a2_0 a2_1
 ·rw [if_pos hh] at h
  obtain rfl := Option.some.inj h
  obtain ⟨ha, hb, hc⟩ := hh
  obtain ⟨m1, e1, g1⟩ := near_p ha hb
  obtain ⟨m2, e2, g2⟩ := near_p ha hc
  by_cases hm : m1 = true ∧ m2 = true
  ·obtain ⟨rfl, rfl⟩ := hm
   have u := g1 rfl; have v := g2 rfl
   have P := cr_am u.1 u.2 v.1 v.2
   refine orient_near ha hb hc ⟨e1⟩ ⟨e2⟩ _ ⟨?_⟩ w
   rw [am64 u.1 (by omega), am64 u.2 (by omega), am64 v.1 (by omega), am64 v.2 (by omega), am64 P.1 (by omega), am64 P.2.1 (by omega), am64 P.2.2 (by omega), sign_p]
   rfl
  ·exact orient_far ha hb hc m1 m2 (fun x y => hm ⟨x, y⟩) ⟨e1⟩ ⟨e2⟩ _ ⟨rfl⟩ w
 ·rw [if_neg hh] at h
  cases h
end Go.Proofs.Ytmeckkckjikjiaa.F
end
section
namespace Go.Proofs.Ytmeckkckjikjiaa.Rf
open Go RowKit YtmeckkckjikjiaaW.PrintWords YtmeckkckjikjiaaW.PrintLast YtmeckkckjikjiaaW.PrintMore Ytmeckkckjikjiaa.F Ytmeckkckjikjiaa.Whole Ytmeckkckjikjiaa.Reg Ytmeckkckjikjiaa.Pm Ytmeckkckjikjiaa.Pd Ytmeckkckjikjiaa.Wd
set_option linter.unusedVariables false
set_option linter.unusedSimpArgs false
theorem wide_c {n : Int} {B : Nat} (h : Am n B) (hB : B ≤ 170141183460469231731687303715884105727) (w : World) :
  Calls Try.prog 15 #[.agg #[.int .i64 (whi n), .int .u64 (wlo n)]] w fun e w' => ∃ r, e = .returned r ∧ NI w' r n ∧ Below w.heap.size w w' := by
 refine (zelligelaw07_wide.calls 5000 _ _ _ _ w (wide_r h hB (by omega))).mono fun e w' ⟨v, he, hR, hb⟩ => ?_
 have hv := RV.of_R hR
 obtain ⟨A', c', rfl, _⟩ := hv.form
 exact ⟨_, he, ⟨A', _, c', rfl, hv⟩, hb⟩
theorem cmp0_c (v u : Value) (n : Int) (hn : Sm n) (w : World) (h : NI w v n) (h' : NI w u n) : Calls Try.prog 18 #[v, u] w fun e w' => e = .returned (.int .i64 0) ∧ Below w.heap.size w w' :=
 (cmp_c v u n n hn hn w h h').mono fun e w' ⟨he, hb⟩ => ⟨by rw [he, Int.sub_self]; rfl, hb⟩
theorem ni_fst {w : World} {x y : Value} {n : Int} (h : NI w (.agg #[x, y]) n) : x = .int .i64 n.sign := by
 obtain ⟨A, l, c, ev, _⟩ := h
 injection ev with ev
 injection ev with ev
 injection ev with e1 ev
theorem undrew {W W' : World} (h : Below W.drew.heap.size W.drew W') : Below W.heap.size W W' := ⟨h.os, h.tape, h.output, h.size, h.block⟩
structure A5 (w : World) (a0 a1 b0 b1 c0 c1 : Int) (gx gy : Nat) (X Y sx sy : Int) (xv yv : Value) (W : World) : Prop where
 mk :: (out : Below w.heap.size w W ∧ W.heap[w.heap.size]? = some (.cells #[.int .i64 a0, .int .i64 a1] 23 (0, 0)) ∧ W.heap[w.heap.size + 1]? = some (.cells #[.int .i64 b0, .int .i64 b1] 23 (0, 0)) ∧ W.heap[w.heap.size + 1 + 1]? = some (.cells #[.int .i64 c0, .int .i64 c1] 23 (0, 0)) ∧ W.heap[gx]? = some (.cells #[.int .i64 sx, xv] 33 (0, 0)) ∧ W.heap[gy]? = some (.cells #[.int .i64 sy, yv] 33 (0, 0)) ∧ NI W (.agg #[.int .i64 sx, xv]) X ∧ NI W (.agg #[.int .i64 sy, yv]) Y)
section
variable {W W' : World} {w : World} {a0 a1 b0 b1 c0 c1 : Int} {gx gy : Nat} {X Y sx sy : Int} {xv yv : Value}
theorem A5.below (h : A5 w a0 a1 b0 b1 c0 c1 gx gy X Y sx sy xv yv W) (hb : Below W.heap.size W W') : A5 w a0 a1 b0 b1 c0 c1 gx gy X Y sx sy xv yv W' :=
 ⟨below_step h.out.1 hb, blk_below h.out.2.1 hb, blk_below h.out.2.2.1 hb, blk_below h.out.2.2.2.1 hb, blk_below h.out.2.2.2.2.1 hb, blk_below h.out.2.2.2.2.2.1 hb, h.out.2.2.2.2.2.2.1.below hb, h.out.2.2.2.2.2.2.2.below hb⟩
theorem A5.nx (h : A5 w a0 a1 b0 b1 c0 c1 gx gy X Y sx sy xv yv W) : NI W (.agg #[.int .i64 sx, xv]) X := h.out.2.2.2.2.2.2.1
theorem A5.ny (h : A5 w a0 a1 b0 b1 c0 c1 gx gy X Y sx sy xv yv W) : NI W (.agg #[.int .i64 sy, yv]) Y := h.out.2.2.2.2.2.2.2
theorem A5.drew (h : A5 w a0 a1 b0 b1 c0 c1 gx gy X Y sx sy xv yv W) : A5 w a0 a1 b0 b1 c0 c1 gx gy X Y sx sy xv yv W.drew := h.below (below_drew (Below.refl _ _))
theorem A5.cells (h : A5 w a0 a1 b0 b1 c0 c1 gx gy X Y sx sy xv yv W) : W.cell? ⟨w.heap.size, 0, none⟩ = some (.int .i64 a0) ∧ W.cell? ⟨w.heap.size, 1, none⟩ = some (.int .i64 a1) ∧ W.cell? ⟨w.heap.size + 1, 0, none⟩ = some (.int .i64 b0) ∧ W.cell? ⟨w.heap.size + 1, 1, none⟩ = some (.int .i64 b1) ∧ W.cell? ⟨w.heap.size + 1 + 1, 0, none⟩ = some (.int .i64 c0) ∧ W.cell? ⟨w.heap.size + 1 + 1, 1, none⟩ = some (.int .i64 c1) ∧ W.cell? ⟨gx, 0, none⟩ = some (.int .i64 sx) ∧ W.cell? ⟨gx, 1, none⟩ = some (xv) ∧ W.cell? ⟨gy, 0, none⟩ = some (.int .i64 sy) ∧ W.cell? ⟨gy, 1, none⟩ = some (yv) :=
 ⟨(blk_cell h.out.2.1 0).trans rfl, (blk_cell h.out.2.1 1).trans rfl, (blk_cell h.out.2.2.1 0).trans rfl, (blk_cell h.out.2.2.1 1).trans rfl, (blk_cell h.out.2.2.2.1 0).trans rfl, (blk_cell h.out.2.2.2.1 1).trans rfl, (blk_cell h.out.2.2.2.2.1 0).trans rfl, (blk_cell h.out.2.2.2.2.1 1).trans rfl, (blk_cell h.out.2.2.2.2.2.1 0).trans rfl, (blk_cell h.out.2.2.2.2.2.1 1).trans rfl⟩
end
def areas.T : Bool × List (List Nat × List Nat) := (true, [([], []), ([], []), ([], []), ([0, 1, 2], [0, 1, 2]), ([3, 3], [3]), ([], []), ([], []), ([], []), ([5, 6, 7, 4], [5, 6, 7]), ([], []), ([], []), ([9, 10, 8], [9, 10]), ([11, 11], [11]), ([], []), ([], []), ([13, 4, 12, 0, 1, 2, 3, 4, 13, 14], [4, 13]), ([8, 15, 0, 1, 2, 3, 4, 5, 6, 7, 8, 13, 14, 15], [8]), ([14, 12, 16, 0, 1, 2, 3, 4, 5, 6, 7, 8, 9, 10, 11, 12, 13, 14, 15, 16], [12, 14])])
def areas.B : List Nat := [0, 0, 0, 7, 15, 0, 0, 0, 255, 0, 0, 2047, 4095, 0, 0, 32767, 65535, 131071]
theorem areas.tab : rtab .any (opsOf Try.f6 1) = areas.T := by kernel_rfl
theorem areas.bits : waitsOk areas.T.2 areas.B = true := by kernel_rfl
set_option maxHeartbeats 16000000 in
set_option maxRecDepth 100000 in
theorem areas_walk {a0 a1 b0 b1 c0 c1 X Y : Int} {k1 k2 : Nat} (mX : Am X 9671406556917033397649408) (mY : Am Y 9671406556917033397649408) (FA : Aside0 (pred_Area2.f k1 a0 a1 b0 b1 c0 c1 = some (whi X, wlo X))) (FO : Aside0 (pred_Orient.f k1 a0 a1 b0 b1 c0 c1 = some X.sign)) (FD : Aside0 (pred_Dist2.f k1 a0 a1 b0 b1 = some (whi Y, wlo Y)))
  (ma mb mc : Bool) (CA : Aside0 (zelligeref06_Can.f a0 a1 = some ma)) (CB : Aside0 (zelligeref06_Can.f b0 b1 = some mb)) (CC : Aside0 (zelligeref06_Can.f c0 c1 = some mc)) (LV : Aside0 (zelligelaw07_lives.f k2 = some true))
  (H0 : Aside0 (¬ (ma = true ∧ mb = true) → X.sign = 0 ∧ Y.sign = 0)) (H1 : Aside0 (mc = false → X.sign = 0)) (H2 : Aside0 (ma = true → mb = true → CoP a0 a1 ∧ CoP b0 b1 ∧ Y = ds a0 a1 b0 b1)) (H3 : Aside0 (ma = true → mb = true → mc = true → CoP c0 c1 ∧ X = ar a0 a1 b0 b1 c0 c1 ∧ zelligeref07_Orient.f a0 a1 b0 b1 c0 c1 = some X.sign)) (w : World) :
  Calls Try.prog 6 #[.agg #[.int .i64 a0, .int .i64 a1], .agg #[.int .i64 b0, .int .i64 b1], .agg #[.int .i64 c0, .int .i64 c1]] w fun e w' => e = .returned (.bool true) ∧ Below w.heap.size w w' := by
 go_enter Try.func6, Try.ntmps6
 go_upto_region 1 with fail
 obtain ⟨n0, n1, n2, bw, nw⟩ := Whole.three_new w (.cells #[.int .i64 a0, .int .i64 a1] 23) (.cells #[.int .i64 b0, .int .i64 b1] 23) (.cells #[.int .i64 c0, .int .i64 c1] 23)
 generalize (((w.alloc (.cells #[.int .i64 a0, .int .i64 a1] 23)).alloc (.cells #[.int .i64 b0, .int .i64 b1] 23)).alloc (.cells #[.int .i64 c0, .int .i64 c1] 23)) = W at n0 n1 n2 bw nw ⊢
 obtain ⟨G, hGd⟩ : ∃ G : World → Prop, G = (fun w' => Below w.heap.size w w' ∧ w.heap.size + 1 + 1 + 1 ≤ w'.heap.size ∧ w'.heap[w.heap.size]? = some (.cells #[.int .i64 a0, .int .i64 a1] 23 (0, 0)) ∧ w'.heap[w.heap.size + 1]? = some (.cells #[.int .i64 b0, .int .i64 b1] 23 (0, 0)) ∧ w'.heap[w.heap.size + 1 + 1]? = some (.cells #[.int .i64 c0, .int .i64 c1] 23 (0, 0))) := ⟨_, rfl⟩
 have GM : ∀ w1 w2 : World, G w1 → Below w1.heap.size w1 w2 → G w2 := by
  subst hGd
  rintro w1 w2 ⟨HBl, HSz, Bx3, Bx4, Bx5⟩ hb
  exact ⟨below_step HBl hb, Nat.le_trans HSz hb.size, blk_below Bx3 hb, blk_below Bx4 hb, blk_below Bx5 hb⟩
 have HM : ∀ w1 w2 : World, (fun _ => True) w1 → Below w1.heap.size w1 w2 → (fun _ => True) w2 := fun _ _ _ _ => True.intro
 have GS : ∀ (w1 : World) (g : Nat) (x0 y0 x y : Value), G w1 → w1.heap[g]? = some (.cells #[x0, y0] 33 (0, 0)) → w.heap.size ≤ g → ((w.heap.size = g ∨ w.heap.size + 1 = g ∨ w.heap.size + 1 + 1 = g) → False) → G ((w1.setCell ⟨g, 0, none⟩ x).setCell ⟨g, 1, none⟩ y) := by
  subst hGd
  rintro w1 g x0 y0 x y ⟨HBl, HSz, Bx3, Bx4, Bx5⟩ hgh hle hne
  exact ⟨below_set2 HBl hle _ _ _ _, (by simpa [World.setCell] using HSz), blk_far (blk_far Bx3 (fun e => hne (by simp [e])) _) (fun e => hne (by simp [e])) _, blk_far (blk_far Bx4 (fun e => hne (by simp [e])) _) (fun e => hne (by simp [e])) _, blk_far (blk_far Bx5 (fun e => hne (by simp [e])) _) (fun e => hne (by simp [e])) _⟩
 refine start_ (n := 18) (S := fun w' => True) (ds := []) #[false, false, false, false, false, false, false, false, false, false, false, false, false, false, false, false, false, false] (by kernel_rfl) rfl rfl trivial (fun _ => ?_); refine with_tabW areas.tab areas.bits (fun HT_ HW_ => ?_)
 have hG0 : G W.drew := by subst hGd; exact ⟨below_drew bw, Nat.le_of_eq nw.symm, n0, n1, n2⟩
 generalize W.drew = W1 at hG0 ⊢
 refine inv_at [0, 1, 2, 3, 4, 5, 6, 7, 8, 9, 10, 11, 12, 13, 14, 15, 16, 17] (fun a0_ b a w' => Rg ⟨[0, 1, 2, 3, 4, 5, 6, 7, 8, 9, 10, 11, 12, 13, 14, 15, 16, 17], [(0, 10), (1, 11), (2, 12), (3, 13), (4, 14), (5, 15), (6, 16), (7, 17), (8, 18), (9, 19), (10, 20), (11, 21), (12, 22), (13, 7), (14, 9), (16, 8)], fun j => [.const (.agg #[.int .i64 a0, .int .i64 a1]), .const (.agg #[.int .i64 b0, .int .i64 b1]), .const (.agg #[.int .i64 c0, .int .i64 c1]), .const (.agg #[.int .i64 (whi X), .int .u64 (wlo X)]), .ni (X), .const (.agg #[.int .i64 a0, .int .i64 a1]), .const (.agg #[.int .i64 b0, .int .i64 b1]), .const (.agg #[.int .i64 c0, .int .i64 c1]), .const (.int .i64 X.sign), .const (.agg #[.int .i64 a0, .int .i64 a1]), .const (.agg #[.int .i64 b0, .int .i64 b1]), .const (.agg #[.int .i64 (whi Y), .int .u64 (wlo Y)]), .ni (Y), .box, .box, .put 13 4, .const (.int .i64 X.sign), .put 14 12].getD j .box, w.heap.size + 1 + 1 + 1, (fun x => if x = 13 then 2 else if x = 14 then 3 else 0), G, fun _ => True, 1000⟩ a0_ b a w') HT_.out HW_.out (by kernel_rfl) (by kernel_rfl) ?_ ?_ ?_
 ·exact rg0 hG0 True.intro
 ·refine steps_cons ?_ ?_
  ·rintro b a w' ⟨ms, hR⟩ hb_ hon hoff
   obtain ⟨ha, hF, hD, hG, _⟩ := id hR
   have hG1 := hG
   rw [hGd] at hG1
   obtain ⟨_, _, Bx3, _, _⟩ := hG1
   have HH := True.intro
   refine ⟨_, rfl, fun K hK => ?_⟩
   have e3 : a.tmps[3]? = some (.pointer (some ⟨w.heap.size, 0, none⟩)) := (off_ ha rfl).trans rfl
   have hc0 : w'.cell? ⟨w.heap.size, 0, none⟩ = some (.int .i64 a0) := (blk_cell Bx3 0).trans rfl
   have hc1 : w'.cell? ⟨w.heap.size, 1, none⟩ = some (.int .i64 a1) := (blk_cell Bx3 1).trans rfl
   have HR := Aside0.mk hR
   clear hR ha hF
   refine value_ (w1 := w') (v := .agg #[.int .i64 a0, .int .i64 a1]) (by rfl) rfl ?_ ?_
   ·go_simp
    (try simp only [i64_w])
    try rfl
   exact hK.out _ _ (step_ 0 HR.out rfl rfl hb_ (Below.refl _ _) hG rfl (fun h => by cases h) (fun _ => HH) rfl)
  refine steps_cons ?_ ?_
  ·rintro b a w' ⟨ms, hR⟩ hb_ hon hoff
   obtain ⟨ha, hF, hD, hG, _⟩ := id hR
   have hG1 := hG
   rw [hGd] at hG1
   obtain ⟨_, _, _, Bx4, _⟩ := hG1
   have HH := True.intro
   refine ⟨_, rfl, fun K hK => ?_⟩
   have e4 : a.tmps[4]? = some (.pointer (some ⟨w.heap.size + 1, 0, none⟩)) := (off_ ha rfl).trans rfl
   have hc0 : w'.cell? ⟨w.heap.size + 1, 0, none⟩ = some (.int .i64 b0) := (blk_cell Bx4 0).trans rfl
   have hc1 : w'.cell? ⟨w.heap.size + 1, 1, none⟩ = some (.int .i64 b1) := (blk_cell Bx4 1).trans rfl
   have HR := Aside0.mk hR
   clear hR ha hF
   refine value_ (w1 := w') (v := .agg #[.int .i64 b0, .int .i64 b1]) (by rfl) rfl ?_ ?_
   ·go_simp
    (try simp only [i64_w])
    try rfl
   exact hK.out _ _ (step_ 1 HR.out rfl rfl hb_ (Below.refl _ _) hG rfl (fun h => by cases h) (fun _ => HH) rfl)
  refine steps_cons ?_ ?_
  ·rintro b a w' ⟨ms, hR⟩ hb_ hon hoff
   obtain ⟨ha, hF, hD, hG, _⟩ := id hR
   have hG1 := hG
   rw [hGd] at hG1
   obtain ⟨_, _, _, _, Bx5⟩ := hG1
   have HH := True.intro
   refine ⟨_, rfl, fun K hK => ?_⟩
   have e5 : a.tmps[5]? = some (.pointer (some ⟨w.heap.size + 1 + 1, 0, none⟩)) := (off_ ha rfl).trans rfl
   have hc0 : w'.cell? ⟨w.heap.size + 1 + 1, 0, none⟩ = some (.int .i64 c0) := (blk_cell Bx5 0).trans rfl
   have hc1 : w'.cell? ⟨w.heap.size + 1 + 1, 1, none⟩ = some (.int .i64 c1) := (blk_cell Bx5 1).trans rfl
   have HR := Aside0.mk hR
   clear hR ha hF
   refine value_ (w1 := w') (v := .agg #[.int .i64 c0, .int .i64 c1]) (by rfl) rfl ?_ ?_
   ·go_simp
    (try simp only [i64_w])
    try rfl
   exact hK.out _ _ (step_ 2 HR.out rfl rfl hb_ (Below.refl _ _) hG rfl (fun h => by cases h) (fun _ => HH) rfl)
  refine steps_cons ?_ ?_
  ·rintro b a w' ⟨ms, hR⟩ hb_ hon hoff
   obtain ⟨ha, hF, hD, hG, _⟩ := id hR
   have HH := True.intro
   refine ⟨_, rfl, fun K hK => ?_⟩
   have e10 : a.tmps[10]? = some (.agg #[.int .i64 a0, .int .i64 a1]) := (on_ 0 ha rfl (hon 0 (by kernel_rfl)) rfl).trans (congrArg some (hF 0 (hon 0 (by kernel_rfl))))
   have e11 : a.tmps[11]? = some (.agg #[.int .i64 b0, .int .i64 b1]) := (on_ 1 ha rfl (hon 1 (by kernel_rfl)) rfl).trans (congrArg some (hF 1 (hon 1 (by kernel_rfl))))
   have e12 : a.tmps[12]? = some (.agg #[.int .i64 c0, .int .i64 c1]) := (on_ 2 ha rfl (hon 2 (by kernel_rfl)) rfl).trans (congrArg some (hF 2 (hon 2 (by kernel_rfl))))
   refine goes_ Try.func16 (by kernel_rfl) rfl #[.agg #[.int .i64 a0, .int .i64 a1], .agg #[.int .i64 b0, .int .i64 b1], .agg #[.int .i64 c0, .int .i64 c1]] (by rfl) rfl rfl (by first | (simp only [List.map_toArray, List.map_cons, List.map_nil, Act.eval, Array.getD_eq_getD_getElem?, Option.getD_some, e10, e11, e12]; done) | (simp only [List.map_toArray, List.map_cons, List.map_nil, Act.eval, Array.getD_eq_getD_getElem?, Option.getD_some, e10, e11, e12]; rfl)) ?_
   with_reducible refine (pred_Area2.calls _ _ _ _ _ _ _ _ _ _ FA.out).mono ?_
   rintro e w1 ⟨rfl, hb⟩
   exact ⟨_, rfl, hK.out _ _ (step_ 3 hR rfl rfl hb_ hb (GM _ _ hG hb) rfl (fun h => by cases h) (fun _ => HM _ _ HH hb) rfl)⟩
  refine steps_cons ?_ ?_
  ·rintro b a w' ⟨ms, hR⟩ hb_ hon hoff
   obtain ⟨ha, hF, hD, hG, _⟩ := id hR
   have HH := True.intro
   refine ⟨_, rfl, fun K hK => ?_⟩
   have e13 : a.tmps[13]? = some (.agg #[.int .i64 (whi X), .int .u64 (wlo X)]) := (on_ 3 ha rfl (hon 3 (by kernel_rfl)) rfl).trans (congrArg some (hF 3 (hon 3 (by kernel_rfl))))
   refine goes_ Try.func15 (by kernel_rfl) rfl #[.agg #[.int .i64 (whi X), .int .u64 (wlo X)]] (by rfl) rfl rfl (by first | (simp only [List.map_toArray, List.map_cons, List.map_nil, Act.eval, Array.getD_eq_getD_getElem?, Option.getD_some, e13]; done) | (simp only [List.map_toArray, List.map_cons, List.map_nil, Act.eval, Array.getD_eq_getD_getElem?, Option.getD_some, e13]; rfl)) ?_
   with_reducible refine (wide_c mX (by omega) _).mono ?_
   rintro e w1 ⟨r, rfl, hN, hb⟩
   exact ⟨_, rfl, hK.out _ _ (step_ 4 hR rfl rfl hb_ hb (GM _ _ hG hb) hN (fun h => by cases h) (fun _ => HM _ _ HH hb) rfl)⟩
  refine steps_cons ?_ ?_
  ·rintro b a w' ⟨ms, hR⟩ hb_ hon hoff
   obtain ⟨ha, hF, hD, hG, _⟩ := id hR
   have hG1 := hG
   rw [hGd] at hG1
   obtain ⟨_, _, Bx3, _, _⟩ := hG1
   have HH := True.intro
   refine ⟨_, rfl, fun K hK => ?_⟩
   have e3 : a.tmps[3]? = some (.pointer (some ⟨w.heap.size, 0, none⟩)) := (off_ ha rfl).trans rfl
   have hc0 : w'.cell? ⟨w.heap.size, 0, none⟩ = some (.int .i64 a0) := (blk_cell Bx3 0).trans rfl
   have hc1 : w'.cell? ⟨w.heap.size, 1, none⟩ = some (.int .i64 a1) := (blk_cell Bx3 1).trans rfl
   have HR := Aside0.mk hR
   clear hR ha hF
   refine value_ (w1 := w') (v := .agg #[.int .i64 a0, .int .i64 a1]) (by rfl) rfl ?_ ?_
   ·go_simp
    (try simp only [i64_w])
    try rfl
   exact hK.out _ _ (step_ 5 HR.out rfl rfl hb_ (Below.refl _ _) hG rfl (fun h => by cases h) (fun _ => HH) rfl)
  refine steps_cons ?_ ?_
  ·rintro b a w' ⟨ms, hR⟩ hb_ hon hoff
   obtain ⟨ha, hF, hD, hG, _⟩ := id hR
   have hG1 := hG
   rw [hGd] at hG1
   obtain ⟨_, _, _, Bx4, _⟩ := hG1
   have HH := True.intro
   refine ⟨_, rfl, fun K hK => ?_⟩
   have e4 : a.tmps[4]? = some (.pointer (some ⟨w.heap.size + 1, 0, none⟩)) := (off_ ha rfl).trans rfl
   have hc0 : w'.cell? ⟨w.heap.size + 1, 0, none⟩ = some (.int .i64 b0) := (blk_cell Bx4 0).trans rfl
   have hc1 : w'.cell? ⟨w.heap.size + 1, 1, none⟩ = some (.int .i64 b1) := (blk_cell Bx4 1).trans rfl
   have HR := Aside0.mk hR
   clear hR ha hF
   refine value_ (w1 := w') (v := .agg #[.int .i64 b0, .int .i64 b1]) (by rfl) rfl ?_ ?_
   ·go_simp
    (try simp only [i64_w])
    try rfl
   exact hK.out _ _ (step_ 6 HR.out rfl rfl hb_ (Below.refl _ _) hG rfl (fun h => by cases h) (fun _ => HH) rfl)
  refine steps_cons ?_ ?_
  ·rintro b a w' ⟨ms, hR⟩ hb_ hon hoff
   obtain ⟨ha, hF, hD, hG, _⟩ := id hR
   have hG1 := hG
   rw [hGd] at hG1
   obtain ⟨_, _, _, _, Bx5⟩ := hG1
   have HH := True.intro
   refine ⟨_, rfl, fun K hK => ?_⟩
   have e5 : a.tmps[5]? = some (.pointer (some ⟨w.heap.size + 1 + 1, 0, none⟩)) := (off_ ha rfl).trans rfl
   have hc0 : w'.cell? ⟨w.heap.size + 1 + 1, 0, none⟩ = some (.int .i64 c0) := (blk_cell Bx5 0).trans rfl
   have hc1 : w'.cell? ⟨w.heap.size + 1 + 1, 1, none⟩ = some (.int .i64 c1) := (blk_cell Bx5 1).trans rfl
   have HR := Aside0.mk hR
   clear hR ha hF
   refine value_ (w1 := w') (v := .agg #[.int .i64 c0, .int .i64 c1]) (by rfl) rfl ?_ ?_
   ·go_simp
    (try simp only [i64_w])
    try rfl
   exact hK.out _ _ (step_ 7 HR.out rfl rfl hb_ (Below.refl _ _) hG rfl (fun h => by cases h) (fun _ => HH) rfl)
  refine steps_cons ?_ ?_
  ·rintro b a w' ⟨ms, hR⟩ hb_ hon hoff
   obtain ⟨ha, hF, hD, hG, _⟩ := id hR
   have HH := True.intro
   refine ⟨_, rfl, fun K hK => ?_⟩
   have e15 : a.tmps[15]? = some (.agg #[.int .i64 a0, .int .i64 a1]) := (on_ 5 ha rfl (hon 5 (by kernel_rfl)) rfl).trans (congrArg some (hF 5 (hon 5 (by kernel_rfl))))
   have e16 : a.tmps[16]? = some (.agg #[.int .i64 b0, .int .i64 b1]) := (on_ 6 ha rfl (hon 6 (by kernel_rfl)) rfl).trans (congrArg some (hF 6 (hon 6 (by kernel_rfl))))
   have e17 : a.tmps[17]? = some (.agg #[.int .i64 c0, .int .i64 c1]) := (on_ 7 ha rfl (hon 7 (by kernel_rfl)) rfl).trans (congrArg some (hF 7 (hon 7 (by kernel_rfl))))
   refine goes_ Try.func14 (by kernel_rfl) rfl #[.agg #[.int .i64 a0, .int .i64 a1], .agg #[.int .i64 b0, .int .i64 b1], .agg #[.int .i64 c0, .int .i64 c1]] (by rfl) rfl rfl (by first | (simp only [List.map_toArray, List.map_cons, List.map_nil, Act.eval, Array.getD_eq_getD_getElem?, Option.getD_some, e15, e16, e17]; done) | (simp only [List.map_toArray, List.map_cons, List.map_nil, Act.eval, Array.getD_eq_getD_getElem?, Option.getD_some, e15, e16, e17]; rfl)) ?_
   with_reducible refine (pred_Orient.calls _ _ _ _ _ _ _ _ _ FO.out).mono ?_
   rintro e w1 ⟨rfl, hb⟩
   exact ⟨_, rfl, hK.out _ _ (step_ 8 hR rfl rfl hb_ hb (GM _ _ hG hb) rfl (fun h => by cases h) (fun _ => HM _ _ HH hb) rfl)⟩
  refine steps_cons ?_ ?_
  ·rintro b a w' ⟨ms, hR⟩ hb_ hon hoff
   obtain ⟨ha, hF, hD, hG, _⟩ := id hR
   have hG1 := hG
   rw [hGd] at hG1
   obtain ⟨_, _, Bx3, _, _⟩ := hG1
   have HH := True.intro
   refine ⟨_, rfl, fun K hK => ?_⟩
   have e3 : a.tmps[3]? = some (.pointer (some ⟨w.heap.size, 0, none⟩)) := (off_ ha rfl).trans rfl
   have hc0 : w'.cell? ⟨w.heap.size, 0, none⟩ = some (.int .i64 a0) := (blk_cell Bx3 0).trans rfl
   have hc1 : w'.cell? ⟨w.heap.size, 1, none⟩ = some (.int .i64 a1) := (blk_cell Bx3 1).trans rfl
   have HR := Aside0.mk hR
   clear hR ha hF
   refine value_ (w1 := w') (v := .agg #[.int .i64 a0, .int .i64 a1]) (by rfl) rfl ?_ ?_
   ·go_simp
    (try simp only [i64_w])
    try rfl
   exact hK.out _ _ (step_ 9 HR.out rfl rfl hb_ (Below.refl _ _) hG rfl (fun h => by cases h) (fun _ => HH) rfl)
  refine steps_cons ?_ ?_
  ·rintro b a w' ⟨ms, hR⟩ hb_ hon hoff
   obtain ⟨ha, hF, hD, hG, _⟩ := id hR
   have hG1 := hG
   rw [hGd] at hG1
   obtain ⟨_, _, _, Bx4, _⟩ := hG1
   have HH := True.intro
   refine ⟨_, rfl, fun K hK => ?_⟩
   have e4 : a.tmps[4]? = some (.pointer (some ⟨w.heap.size + 1, 0, none⟩)) := (off_ ha rfl).trans rfl
   have hc0 : w'.cell? ⟨w.heap.size + 1, 0, none⟩ = some (.int .i64 b0) := (blk_cell Bx4 0).trans rfl
   have hc1 : w'.cell? ⟨w.heap.size + 1, 1, none⟩ = some (.int .i64 b1) := (blk_cell Bx4 1).trans rfl
   have HR := Aside0.mk hR
   clear hR ha hF
   refine value_ (w1 := w') (v := .agg #[.int .i64 b0, .int .i64 b1]) (by rfl) rfl ?_ ?_
   ·go_simp
    (try simp only [i64_w])
    try rfl
   exact hK.out _ _ (step_ 10 HR.out rfl rfl hb_ (Below.refl _ _) hG rfl (fun h => by cases h) (fun _ => HH) rfl)
  refine steps_cons ?_ ?_
  ·rintro b a w' ⟨ms, hR⟩ hb_ hon hoff
   obtain ⟨ha, hF, hD, hG, _⟩ := id hR
   have HH := True.intro
   refine ⟨_, rfl, fun K hK => ?_⟩
   have e19 : a.tmps[19]? = some (.agg #[.int .i64 a0, .int .i64 a1]) := (on_ 9 ha rfl (hon 9 (by kernel_rfl)) rfl).trans (congrArg some (hF 9 (hon 9 (by kernel_rfl))))
   have e20 : a.tmps[20]? = some (.agg #[.int .i64 b0, .int .i64 b1]) := (on_ 10 ha rfl (hon 10 (by kernel_rfl)) rfl).trans (congrArg some (hF 10 (hon 10 (by kernel_rfl))))
   refine goes_ Try.func17 (by kernel_rfl) rfl #[.agg #[.int .i64 a0, .int .i64 a1], .agg #[.int .i64 b0, .int .i64 b1]] (by rfl) rfl rfl (by first | (simp only [List.map_toArray, List.map_cons, List.map_nil, Act.eval, Array.getD_eq_getD_getElem?, Option.getD_some, e19, e20]; done) | (simp only [List.map_toArray, List.map_cons, List.map_nil, Act.eval, Array.getD_eq_getD_getElem?, Option.getD_some, e19, e20]; rfl)) ?_
   with_reducible refine (pred_Dist2.calls _ _ _ _ _ _ _ _ FD.out).mono ?_
   rintro e w1 ⟨rfl, hb⟩
   exact ⟨_, rfl, hK.out _ _ (step_ 11 hR rfl rfl hb_ hb (GM _ _ hG hb) rfl (fun h => by cases h) (fun _ => HM _ _ HH hb) rfl)⟩
  refine steps_cons ?_ ?_
  ·rintro b a w' ⟨ms, hR⟩ hb_ hon hoff
   obtain ⟨ha, hF, hD, hG, _⟩ := id hR
   have HH := True.intro
   refine ⟨_, rfl, fun K hK => ?_⟩
   have e21 : a.tmps[21]? = some (.agg #[.int .i64 (whi Y), .int .u64 (wlo Y)]) := (on_ 11 ha rfl (hon 11 (by kernel_rfl)) rfl).trans (congrArg some (hF 11 (hon 11 (by kernel_rfl))))
   refine goes_ Try.func15 (by kernel_rfl) rfl #[.agg #[.int .i64 (whi Y), .int .u64 (wlo Y)]] (by rfl) rfl rfl (by first | (simp only [List.map_toArray, List.map_cons, List.map_nil, Act.eval, Array.getD_eq_getD_getElem?, Option.getD_some, e21]; done) | (simp only [List.map_toArray, List.map_cons, List.map_nil, Act.eval, Array.getD_eq_getD_getElem?, Option.getD_some, e21]; rfl)) ?_
   with_reducible refine (wide_c mY (by omega) _).mono ?_
   rintro e w1 ⟨r, rfl, hN, hb⟩
   exact ⟨_, rfl, hK.out _ _ (step_ 12 hR rfl rfl hb_ hb (GM _ _ hG hb) hN (fun h => by cases h) (fun _ => HM _ _ HH hb) rfl)⟩
  refine steps_cons ?_ ?_
  ·rintro b a w' ⟨ms, hR⟩ hb_ hon hoff
   obtain ⟨ha, hF, hD, hG, _⟩ := id hR
   have hG1 := hG
   rw [hGd] at hG1
   obtain ⟨_, HSz, _, _, _⟩ := hG1
   have HH := True.intro
   refine ⟨_, rfl, fun K hK => ?_⟩
   refine box_step ?hg (N := 7) ?hd (cs := #[.int .i64 0, .slice none 0 0]) (t := 33) ?hr ?_; (case hd => rfl); (case hg => rfl); (case hr => first | (go_simp; done) | (go_simp; rfl))
   intro g hg w1 hbox hb
   exact hK.out _ _ (step_ 13 hR rfl rfl hb_ hb (GM _ _ hG hb) ⟨g, _, _, rfl, by rw [hg]; exact HSz, hbox⟩ (fun _ => by rw [hg]) (fun _ => HM _ _ HH hb) rfl)
  refine steps_cons ?_ ?_
  ·rintro b a w' ⟨ms, hR⟩ hb_ hon hoff
   obtain ⟨ha, hF, hD, hG, _⟩ := id hR
   have hG1 := hG
   rw [hGd] at hG1
   obtain ⟨_, HSz, _, _, _⟩ := hG1
   have HH := True.intro
   refine ⟨_, rfl, fun K hK => ?_⟩
   refine box_step ?hg (N := 9) ?hd (cs := #[.int .i64 0, .slice none 0 0]) (t := 33) ?hr ?_; (case hd => rfl); (case hg => rfl); (case hr => first | (go_simp; done) | (go_simp; rfl))
   intro g hg w1 hbox hb
   exact hK.out _ _ (step_ 14 hR rfl rfl hb_ hb (GM _ _ hG hb) ⟨g, _, _, rfl, by rw [hg]; exact HSz, hbox⟩ (fun _ => by rw [hg]) (fun _ => HM _ _ HH hb) rfl)
  refine steps_cons ?_ ?_
  ·rintro b a w' ⟨ms, hR⟩ hb_ hon hoff
   obtain ⟨ha, hF, hD, hG, _⟩ := id hR
   have HH := True.intro
   refine ⟨_, rfl, fun K hK => ?_⟩
   have hn := hF 4 (hon 4 (by kernel_rfl))
   obtain ⟨sz, Az, lz, cz, ev⟩ := NI.shape hn
   have e14 : a.tmps[14]? = some (.agg #[.int .i64 sz, .slice Az lz cz]) := (on_ 4 ha rfl (hon 4 (by kernel_rfl)) rfl).trans (congrArg some ev)
   obtain ⟨g, x0, y0, eg, hgK, hgh⟩ := hF 13 (hon 13 (by kernel_rfl))
   replace hgK : w.heap.size + 1 + 1 + 1 ≤ g := hgK
   have e7 : a.tmps[7]? = some (.pointer (some ⟨g, 0, none⟩)) := (on_ 13 ha rfl (hon 13 (by kernel_rfl)) rfl).trans (congrArg some eg)
   have h0 : w'.cell? ⟨g, 0, none⟩ = some x0 := (blk_cell hgh 0).trans rfl
   have h1 : w'.cell? ⟨g, 1, none⟩ = some y0 := (blk_cell hgh 1).trans rfl
   have f0 := blk_frozen hgh 0
   have f1 := blk_frozen hgh 1
   have HR := Aside0.mk hR
   clear hR ha
   refine skip_ (w1 := ?_) (by rfl) rfl ?_ ?_
   rotate_left
   ·go_simp
    rfl
   exact hK.out _ _ (put_ HR.out rfl rfl hb_ rfl rfl (hon 13 (by kernel_rfl)) (hon 4 (by kernel_rfl)) rfl eg ev (GS _ g _ _ _ _ hG hgh (by omega) (fun h => by omega)) (fun _ => HH) rfl)
  refine steps_cons ?_ ?_
  ·rintro b a w' ⟨ms, hR⟩ hb_ hon hoff
   obtain ⟨ha, hF, hD, hG, _⟩ := id hR
   have HH := True.intro
   refine ⟨_, rfl, fun K hK => ?_⟩
   have e18 : a.tmps[18]? = some (.int .i64 X.sign) := (on_ 8 ha rfl (hon 8 (by kernel_rfl)) rfl).trans (congrArg some (hF 8 (hon 8 (by kernel_rfl))))
   have HR := Aside0.mk hR
   clear hR ha hF
   refine value_ (w1 := w') (v := .int .i64 X.sign) (by rfl) rfl ?_ ?_
   ·go_simp
    try rfl
   exact hK.out _ _ (step_ 15 HR.out rfl rfl hb_ (Below.refl _ _) hG rfl (fun h => by cases h) (fun _ => HH) rfl)
  refine steps_cons ?_ ?_
  ·rintro b a w' ⟨ms, hR⟩ hb_ hon hoff
   obtain ⟨ha, hF, hD, hG, _⟩ := id hR
   have HH := True.intro
   refine ⟨_, rfl, fun K hK => ?_⟩
   have hn := hF 12 (hon 12 (by kernel_rfl))
   obtain ⟨sz, Az, lz, cz, ev⟩ := NI.shape hn
   have e22 : a.tmps[22]? = some (.agg #[.int .i64 sz, .slice Az lz cz]) := (on_ 12 ha rfl (hon 12 (by kernel_rfl)) rfl).trans (congrArg some ev)
   obtain ⟨g, x0, y0, eg, hgK, hgh⟩ := hF 14 (hon 14 (by kernel_rfl))
   replace hgK : w.heap.size + 1 + 1 + 1 ≤ g := hgK
   have e9 : a.tmps[9]? = some (.pointer (some ⟨g, 0, none⟩)) := (on_ 14 ha rfl (hon 14 (by kernel_rfl)) rfl).trans (congrArg some eg)
   have h0 : w'.cell? ⟨g, 0, none⟩ = some x0 := (blk_cell hgh 0).trans rfl
   have h1 : w'.cell? ⟨g, 1, none⟩ = some y0 := (blk_cell hgh 1).trans rfl
   have f0 := blk_frozen hgh 0
   have f1 := blk_frozen hgh 1
   have HR := Aside0.mk hR
   clear hR ha
   refine skip_ (w1 := ?_) (by rfl) rfl ?_ ?_
   rotate_left
   ·go_simp
    rfl
   exact hK.out _ _ (put_ HR.out rfl rfl hb_ rfl rfl (hon 14 (by kernel_rfl)) (hon 12 (by kernel_rfl)) rfl eg ev (GS _ g _ _ _ _ hG hgh (by omega) (fun h => by omega)) (fun _ => HH) rfl)
  exact steps_nil
 rintro b a V1 hall ⟨ms, ha, hF, hD, hG, _⟩
 rw [hGd] at hG
 obtain ⟨HBl, HSz, Bx3, Bx4, Bx5⟩ := hG
 have bb1_0 := hall 0 (by kernel_rfl)
 have bb1_1 := hall 1 (by kernel_rfl)
 have bb1_2 := hall 2 (by kernel_rfl)
 have bb1_3 := hall 3 (by kernel_rfl)
 have bb1_4 := hall 4 (by kernel_rfl)
 have bb1_5 := hall 5 (by kernel_rfl)
 have bb1_6 := hall 6 (by kernel_rfl)
 have bb1_7 := hall 7 (by kernel_rfl)
 have bb1_8 := hall 8 (by kernel_rfl)
 have bb1_9 := hall 9 (by kernel_rfl)
 have bb1_10 := hall 10 (by kernel_rfl)
 have bb1_11 := hall 11 (by kernel_rfl)
 have bb1_12 := hall 12 (by kernel_rfl)
 have bb1_13 := hall 13 (by kernel_rfl)
 have bb1_14 := hall 14 (by kernel_rfl)
 have bb1_15 := hall 15 (by kernel_rfl)
 have bb1_16 := hall 16 (by kernel_rfl)
 have bb1_17 := hall 17 (by kernel_rfl)
 have m1_0 : ms 0 = .agg #[.int .i64 a0, .int .i64 a1] := hF 0 bb1_0
 have m1_1 : ms 1 = .agg #[.int .i64 b0, .int .i64 b1] := hF 1 bb1_1
 have m1_2 : ms 2 = .agg #[.int .i64 c0, .int .i64 c1] := hF 2 bb1_2
 have m1_3 : ms 3 = .agg #[.int .i64 (whi X), .int .u64 (wlo X)] := hF 3 bb1_3
 have m1_4 : NI V1 (ms 4) (X) := hF 4 bb1_4
 have m1_5 : ms 5 = .agg #[.int .i64 a0, .int .i64 a1] := hF 5 bb1_5
 have m1_6 : ms 6 = .agg #[.int .i64 b0, .int .i64 b1] := hF 6 bb1_6
 have m1_7 : ms 7 = .agg #[.int .i64 c0, .int .i64 c1] := hF 7 bb1_7
 have m1_8 : ms 8 = .int .i64 X.sign := hF 8 bb1_8
 have m1_9 : ms 9 = .agg #[.int .i64 a0, .int .i64 a1] := hF 9 bb1_9
 have m1_10 : ms 10 = .agg #[.int .i64 b0, .int .i64 b1] := hF 10 bb1_10
 have m1_11 : ms 11 = .agg #[.int .i64 (whi Y), .int .u64 (wlo Y)] := hF 11 bb1_11
 have m1_12 : NI V1 (ms 12) (Y) := hF 12 bb1_12
 obtain ⟨gx, _, _, m1_13, k1_13, _⟩ := hF 13 bb1_13
 replace k1_13 : w.heap.size + 1 + 1 + 1 ≤ gx := k1_13
 obtain ⟨gy, _, _, m1_14, k1_14, _⟩ := hF 14 bb1_14
 replace k1_14 : w.heap.size + 1 + 1 + 1 ≤ gy := k1_14
 obtain ⟨_, _, _, _, z1_15, x1_15, xv, n1_15, e1_15, h1_15⟩ := hF 15 bb1_15
 obtain rfl : gx = z1_15 := by rw [m1_13] at n1_15; injection n1_15 with q; injection q with q; injection q with q
 rw [e1_15] at m1_4
 have m1_16 : ms 16 = .int .i64 X.sign := hF 16 bb1_16
 obtain ⟨_, _, _, _, z1_17, x1_17, yv, n1_17, e1_17, h1_17⟩ := hF 17 bb1_17
 obtain rfl : gy = z1_17 := by rw [m1_14] at n1_17; injection n1_17 with q; injection q with q; injection q with q
 rw [e1_17] at m1_12
 subst ha
 simp only [ent, List.map_cons, List.map_nil, putSel, bb1_0, bb1_1, bb1_2, bb1_3, bb1_4, bb1_5, bb1_6, bb1_7, bb1_8, bb1_9, bb1_10, bb1_11, bb1_12, bb1_13, bb1_14, bb1_16, m1_0, m1_1, m1_2, m1_3, m1_5, m1_6, m1_7, m1_8, m1_9, m1_10, m1_11, m1_13, m1_14, m1_16, if_true, Act.put, List.setIfInBounds_toArray, List.set_cons_zero, List.set_cons_succ]
 clear hF hD bb1_0 bb1_1 bb1_2 bb1_3 bb1_4 bb1_5 bb1_6 bb1_7 bb1_8 bb1_9 bb1_10 bb1_11 bb1_12 bb1_13 bb1_14 bb1_15 bb1_16 bb1_17
 obtain rfl := ni_fst m1_4
 obtain rfl := ni_fst m1_12
 have S := Aside0.mk (A5.mk ⟨HBl, Bx3, Bx4, Bx5, h1_15, h1_17, m1_4, m1_12⟩)
 have SX := Aside0.mk (Sm.am' mX (by omega)); have SY := Aside0.mk (Sm.am' mY (by omega))
 clear HBl Bx3 Bx4 Bx5 h1_15 h1_17 m1_4 m1_12 mX mY FA FD FO HSz n0 n1 n2 bw nw
 generalize X.sign = sx at *
 generalize Y.sign = sy at *
 obtain ⟨k0, k1, k2, k3, k4, k5, k6, k7, k8, k9⟩ := S.out.cells
 cases ma
 ·as_aux_lemma =>
   obtain ⟨rfl, rfl⟩ := H0.out (by simp)
   go_wp2_with (first | (with_reducible go_at_call 9; with_reducible refine (zelligeref06_Can.calls a0 a1 _ _ CA.out).mono ?_; rintro e v1 ⟨rfl, hb⟩; (try replace hb := undrew hb); replace S := Aside0.mk (S.out.below hb); clear hb k0 k1 k2 k3 k4 k5 k6 k7 k8 k9; obtain ⟨k0, k1, k2, k3, k4, k5, k6, k7, k8, k9⟩ := S.out.cells) | (with_reducible go_at_call 10; with_reducible refine (zelligelaw07_lives.calls _ true _ LV.out).mono ?_; rintro e v1 ⟨rfl, hb⟩; (try replace hb := undrew hb); replace S := Aside0.mk (S.out.below hb); clear hb k0 k1 k2 k3 k4 k5 k6 k7 k8 k9; obtain ⟨k0, k1, k2, k3, k4, k5, k6, k7, k8, k9⟩ := S.out.cells))
   go_ret
   exact ⟨rfl, S.out.out.1⟩
 cases mb
 ·as_aux_lemma =>
   obtain ⟨rfl, rfl⟩ := H0.out (by simp)
   go_wp2_with (first | (with_reducible go_at_call 9; with_reducible refine (zelligeref06_Can.calls a0 a1 _ _ CA.out).mono ?_; rintro e v1 ⟨rfl, hb⟩; (try replace hb := undrew hb); replace S := Aside0.mk (S.out.below hb); clear hb k0 k1 k2 k3 k4 k5 k6 k7 k8 k9; obtain ⟨k0, k1, k2, k3, k4, k5, k6, k7, k8, k9⟩ := S.out.cells) | (with_reducible go_at_call 9; with_reducible refine (zelligeref06_Can.calls b0 b1 _ _ CB.out).mono ?_; rintro e v1 ⟨rfl, hb⟩; (try replace hb := undrew hb); replace S := Aside0.mk (S.out.below hb); clear hb k0 k1 k2 k3 k4 k5 k6 k7 k8 k9; obtain ⟨k0, k1, k2, k3, k4, k5, k6, k7, k8, k9⟩ := S.out.cells) | (with_reducible go_at_call 10; with_reducible refine (zelligelaw07_lives.calls _ true _ LV.out).mono ?_; rintro e v1 ⟨rfl, hb⟩; (try replace hb := undrew hb); replace S := Aside0.mk (S.out.below hb); clear hb k0 k1 k2 k3 k4 k5 k6 k7 k8 k9; obtain ⟨k0, k1, k2, k3, k4, k5, k6, k7, k8, k9⟩ := S.out.cells))
   go_ret
   exact ⟨rfl, S.out.out.1⟩
 obtain ⟨ha, hb_, eY⟩ := H2.out (by first | rfl | trivial) (by first | rfl | trivial)
 replace ha := Aside0.mk ha; replace hb_ := Aside0.mk hb_; replace eY := Aside0.mk eY
 go_upto_region 4 with (first | (with_reducible go_at_call 9; with_reducible refine (zelligeref06_Can.calls a0 a1 _ _ CA.out).mono ?_; rintro e v1 ⟨rfl, hb⟩; (try replace hb := undrew hb); replace S := Aside0.mk (S.out.below hb); clear hb k0 k1 k2 k3 k4 k5 k6 k7 k8 k9; obtain ⟨k0, k1, k2, k3, k4, k5, k6, k7, k8, k9⟩ := S.out.cells) | (with_reducible go_at_call 9; with_reducible refine (zelligeref06_Can.calls b0 b1 _ _ CB.out).mono ?_; rintro e v1 ⟨rfl, hb⟩; (try replace hb := undrew hb); replace S := Aside0.mk (S.out.below hb); clear hb k0 k1 k2 k3 k4 k5 k6 k7 k8 k9; obtain ⟨k0, k1, k2, k3, k4, k5, k6, k7, k8, k9⟩ := S.out.cells))
 as_aux_lemma =>
  go_region_held3 (fun w' => w'.cell? ⟨w.heap.size, 0, none⟩ = some (.int .i64 a0) ∧ w'.cell? ⟨w.heap.size, 1, none⟩ = some (.int .i64 a1) ∧ w'.cell? ⟨w.heap.size + 1, 0, none⟩ = some (.int .i64 b0) ∧ w'.cell? ⟨w.heap.size + 1, 1, none⟩ = some (.int .i64 b1) ∧ w'.cell? ⟨w.heap.size + 1 + 1, 0, none⟩ = some (.int .i64 c0) ∧ w'.cell? ⟨w.heap.size + 1 + 1, 1, none⟩ = some (.int .i64 c1) ∧ w'.cell? ⟨gx, 0, none⟩ = some (.int .i64 sx) ∧ w'.cell? ⟨gx, 1, none⟩ = some (xv) ∧ w'.cell? ⟨gy, 0, none⟩ = some (.int .i64 sy) ∧ w'.cell? ⟨gy, 1, none⟩ = some (yv)) (first | exact S.out.drew.cells | exact S.out.cells | fail) (first | (with_reducible go_at_call 19; with_reducible refine (dist_c ha.out hb_.out _).mono ?_; rintro e v1 ⟨r, rfl, hN, hb⟩; rw [← eY.out] at hN; obtain ⟨s1, A1, l1, c1', rfl⟩ := hN.shape; have ND := Aside0.mk hN; clear hN; (try replace hb := undrew hb); replace S := Aside0.mk (S.out.below hb); clear hb k0 k1 k2 k3 k4 k5 k6 k7 k8 k9; obtain ⟨k0, k1, k2, k3, k4, k5, k6, k7, k8, k9⟩ := S.out.cells) | (with_reducible go_at_call 18; with_reducible refine (cmp0_c _ _ Y SY.out _ (by first | exact S.out.ny | exact S.out.ny.drewN 1) (by first | exact ND.out | exact ND.out.drewN 1)).mono ?_; rintro e v1 ⟨rfl, hb⟩; (try replace hb := undrew hb); replace S := Aside0.mk (S.out.below hb); clear hb k0 k1 k2 k3 k4 k5 k6 k7 k8 k9; obtain ⟨k0, k1, k2, k3, k4, k5, k6, k7, k8, k9⟩ := S.out.cells) | fail)
  go_upto_region 6 with fail
  clear ND
  cases mc
  ·as_aux_lemma =>
    obtain rfl := H1.out (by first | rfl | trivial)
    go_wp2_with (first | (with_reducible go_at_call 9; with_reducible refine (zelligeref06_Can.calls c0 c1 _ _ CC.out).mono ?_; rintro e v1 ⟨rfl, hb⟩; (try replace hb := undrew hb); replace S := Aside0.mk (S.out.below hb); clear hb k0 k1 k2 k3 k4 k5 k6 k7 k8 k9; obtain ⟨k0, k1, k2, k3, k4, k5, k6, k7, k8, k9⟩ := S.out.cells) | (with_reducible go_at_call 10; with_reducible refine (zelligelaw07_lives.calls _ true _ LV.out).mono ?_; rintro e v1 ⟨rfl, hb⟩; (try replace hb := undrew hb); replace S := Aside0.mk (S.out.below hb); clear hb k0 k1 k2 k3 k4 k5 k6 k7 k8 k9; obtain ⟨k0, k1, k2, k3, k4, k5, k6, k7, k8, k9⟩ := S.out.cells))
    go_ret
    exact ⟨rfl, by repeat (first | exact S.out.out.1 | apply pw_below_drewN | apply below_drew1)⟩
  obtain ⟨hc, eX, RO⟩ := H3.out (by first | rfl | trivial) (by first | rfl | trivial) (by first | rfl | trivial)
  replace hc := Aside0.mk hc; replace eX := Aside0.mk eX; replace RO := Aside0.mk RO
  go_upto_region 8 with (with_reducible go_at_call 9; with_reducible refine (zelligeref06_Can.calls c0 c1 _ _ CC.out).mono ?_; rintro e v1 ⟨rfl, hb⟩; (try replace hb := undrew hb); replace S := Aside0.mk (S.out.below hb); clear hb k0 k1 k2 k3 k4 k5 k6 k7 k8 k9; obtain ⟨k0, k1, k2, k3, k4, k5, k6, k7, k8, k9⟩ := S.out.cells)
  as_aux_lemma =>
   go_region_held3 (fun w' => w'.cell? ⟨w.heap.size, 0, none⟩ = some (.int .i64 a0) ∧ w'.cell? ⟨w.heap.size, 1, none⟩ = some (.int .i64 a1) ∧ w'.cell? ⟨w.heap.size + 1, 0, none⟩ = some (.int .i64 b0) ∧ w'.cell? ⟨w.heap.size + 1, 1, none⟩ = some (.int .i64 b1) ∧ w'.cell? ⟨w.heap.size + 1 + 1, 0, none⟩ = some (.int .i64 c0) ∧ w'.cell? ⟨w.heap.size + 1 + 1, 1, none⟩ = some (.int .i64 c1) ∧ w'.cell? ⟨gx, 0, none⟩ = some (.int .i64 sx) ∧ w'.cell? ⟨gx, 1, none⟩ = some (xv) ∧ w'.cell? ⟨gy, 0, none⟩ = some (.int .i64 sy) ∧ w'.cell? ⟨gy, 1, none⟩ = some (yv)) (first | exact S.out.drew.cells | exact S.out.cells | fail) (first | (with_reducible go_at_call 20; with_reducible refine (area_c ha.out hb_.out hc.out _).mono ?_; rintro e v1 ⟨r, rfl, hN, hb⟩; rw [← eX.out] at hN; obtain ⟨s1, A1, l1, c1', rfl⟩ := hN.shape; have ND := Aside0.mk hN; clear hN; (try replace hb := undrew hb); replace S := Aside0.mk (S.out.below hb); clear hb k0 k1 k2 k3 k4 k5 k6 k7 k8 k9; obtain ⟨k0, k1, k2, k3, k4, k5, k6, k7, k8, k9⟩ := S.out.cells) | (with_reducible go_at_call 18; with_reducible refine (cmp0_c _ _ X SX.out _ (by first | exact S.out.nx | exact S.out.nx.drewN 1) (by first | exact ND.out | exact ND.out.drewN 1)).mono ?_; rintro e v1 ⟨rfl, hb⟩; (try replace hb := undrew hb); replace S := Aside0.mk (S.out.below hb); clear hb k0 k1 k2 k3 k4 k5 k6 k7 k8 k9; obtain ⟨k0, k1, k2, k3, k4, k5, k6, k7, k8, k9⟩ := S.out.cells) | (with_reducible go_at_call 21; with_reducible refine (zelligeref07_Orient.calls _ _ _ _ _ _ _ _ RO.out).mono ?_; rintro e v1 ⟨rfl, hb⟩; (try replace hb := undrew hb); replace S := Aside0.mk (S.out.below hb); clear hb k0 k1 k2 k3 k4 k5 k6 k7 k8 k9; obtain ⟨k0, k1, k2, k3, k4, k5, k6, k7, k8, k9⟩ := S.out.cells) | (with_reducible go_at_call 10; with_reducible refine (zelligelaw07_lives.calls _ true _ LV.out).mono ?_; rintro e v1 ⟨rfl, hb⟩; (try replace hb := undrew hb); replace S := Aside0.mk (S.out.below hb); clear hb k0 k1 k2 k3 k4 k5 k6 k7 k8 k9; obtain ⟨k0, k1, k2, k3, k4, k5, k6, k7, k8, k9⟩ := S.out.cells) | fail)
   go_wp2_with (first | (with_reducible go_at_call 20; with_reducible refine (area_c ha.out hb_.out hc.out _).mono ?_; rintro e v1 ⟨r, rfl, hN, hb⟩; rw [← eX.out] at hN; obtain ⟨s1, A1, l1, c1', rfl⟩ := hN.shape; have ND := Aside0.mk hN; clear hN; (try replace hb := undrew hb); replace S := Aside0.mk (S.out.below hb); clear hb k0 k1 k2 k3 k4 k5 k6 k7 k8 k9; obtain ⟨k0, k1, k2, k3, k4, k5, k6, k7, k8, k9⟩ := S.out.cells) | (with_reducible go_at_call 18; with_reducible refine (cmp0_c _ _ X SX.out _ (by first | exact S.out.nx | exact S.out.nx.drewN 1) (by first | exact ND.out | exact ND.out.drewN 1)).mono ?_; rintro e v1 ⟨rfl, hb⟩; (try replace hb := undrew hb); replace S := Aside0.mk (S.out.below hb); clear hb k0 k1 k2 k3 k4 k5 k6 k7 k8 k9; obtain ⟨k0, k1, k2, k3, k4, k5, k6, k7, k8, k9⟩ := S.out.cells) | (with_reducible go_at_call 21; with_reducible refine (zelligeref07_Orient.calls _ _ _ _ _ _ _ _ RO.out).mono ?_; rintro e v1 ⟨rfl, hb⟩; (try replace hb := undrew hb); replace S := Aside0.mk (S.out.below hb); clear hb k0 k1 k2 k3 k4 k5 k6 k7 k8 k9; obtain ⟨k0, k1, k2, k3, k4, k5, k6, k7, k8, k9⟩ := S.out.cells) | (with_reducible go_at_call 10; with_reducible refine (zelligelaw07_lives.calls _ true _ LV.out).mono ?_; rintro e v1 ⟨rfl, hb⟩; (try replace hb := undrew hb); replace S := Aside0.mk (S.out.below hb); clear hb k0 k1 k2 k3 k4 k5 k6 k7 k8 k9; obtain ⟨k0, k1, k2, k3, k4, k5, k6, k7, k8, k9⟩ := S.out.cells) | fail)
   go_ret
   exact ⟨rfl, by repeat (first | exact S.out.out.1 | apply pw_below_drewN | apply below_drew1)⟩
end Go.Proofs.Ytmeckkckjikjiaa.Rf
end
section
namespace Go.Proofs.Ytmeckkckjikjiaa.Pd
open Go RowKit YtmeckkckjikjiaaW.PrintWords Ytmeckkckjikjiaa.F Ytmeckkckjikjiaa.Wd Ytmeckkckjikjiaa.Pm Ytmeckkckjikjiaa.Whole Ytmeckkckjikjiaa.Rf
set_option linter.unusedVariables false
theorem areas_calls (a0 a1 b0 b1 c0 c1 : Int) (w : World) (h0_0 : (Lit.int .i64 a0).wf = true) (h0_1 : (Lit.int .i64 a1).wf = true) (h1_0 : (Lit.int .i64 b0).wf = true) (h1_1 : (Lit.int .i64 b1).wf = true) (h2_0 : (Lit.int .i64 c0).wf = true) (h2_1 : (Lit.int .i64 c1).wf = true) :
  Calls Try.prog 6 #[.agg #[.int .i64 a0, .int .i64 a1], .agg #[.int .i64 b0, .int .i64 b1], .agg #[.int .i64 c0, .int .i64 c1]] w fun e w' => e = .returned (.bool true) ∧ Below w.heap.size w w' := by
 obtain ⟨X, hX⟩ : ∃ X : Int, X = if CoP a0 a1 ∧ CoP b0 b1 ∧ CoP c0 c1 then ar a0 a1 b0 b1 c0 c1 else 0 := ⟨_, rfl⟩
 obtain ⟨Y, hY⟩ : ∃ Y : Int, Y = if CoP a0 a1 ∧ CoP b0 b1 then ds a0 a1 b0 b1 else 0 := ⟨_, rfl⟩
 have mX : Am X 9671406556917033397649408 := by
  rw [hX]; split
  ·rename_i h; exact ar_am h.1.1 h.1.2 h.2.1.1 h.2.1.2 h.2.2.1 h.2.2.2
  ·exact Am.of (by omega)
 have mY : Am Y 9671406556917033397649408 := by
  rw [hY]; split
  ·rename_i h; exact ds_am h.1.1 h.1.2 h.2.1 h.2.2
  ·exact Am.of (by omega)
 have z0 : ((0 : Int), (0 : Int)) = (whi 0, wlo 0) := by decide +kernel
 have eX : (if CoP a0 a1 ∧ CoP b0 b1 ∧ CoP c0 c1 then (whi (ar a0 a1 b0 b1 c0 c1), wlo (ar a0 a1 b0 b1 c0 c1)) else (0, 0)) = (whi X, wlo X) := by
  rw [hX]; split <;> first | rfl | exact z0
 have eY : (if CoP a0 a1 ∧ CoP b0 b1 then (whi (ds a0 a1 b0 b1), wlo (ds a0 a1 b0 b1)) else (0, 0)) = (whi Y, wlo Y) := by
  rw [hY]; split <;> first | rfl | exact z0
 have eO : orS a0 a1 b0 b1 c0 c1 = X.sign := by
  unfold orS; rw [hX]; split <;> rfl
 refine areas_walk (k1 := 3000) (k2 := 3000) mX mY ⟨by rw [Area2_f' _ _ _ _ _ _ (by omega), eX]⟩ ⟨by rw [Orient_f _ _ _ _ _ _ (by omega), eO]⟩ ⟨by rw [Dist2_f' _ _ _ _ (by omega), eY]⟩ _ _ _ ⟨rc_f' ⟨i64_of' h0_0, i64_of' h0_1⟩⟩ ⟨rc_f' ⟨i64_of' h1_0, i64_of' h1_1⟩⟩ ⟨rc_f' ⟨i64_of' h2_0, i64_of' h2_1⟩⟩ ⟨lives_true (by omega)⟩
  ⟨fun h => ?_⟩ ⟨fun h => ?_⟩ ⟨fun h h' => ?_⟩ ⟨fun h h' h2 => ?_⟩ w
 ·rw [decide_eq_true_eq, decide_eq_true_eq] at h
  rw [hX, hY, if_neg (fun q => h ⟨q.1, q.2.1⟩), if_neg h]
  exact ⟨rfl, rfl⟩
 ·have hc := of_decide_eq_false h
  rw [hX, if_neg (fun q => hc q.2.2)]
  rfl
 ·have ha := of_decide_eq_true h; have hb := of_decide_eq_true h'
  exact ⟨ha, hb, by rw [hY, if_pos ⟨ha, hb⟩]⟩
 ·have ha := of_decide_eq_true h; have hb := of_decide_eq_true h'; have hc := of_decide_eq_true h2
  have e : X = ar a0 a1 b0 b1 c0 c1 := by rw [hX, if_pos ⟨ha, hb, hc⟩]
  refine ⟨hc, e, ?_⟩
  unfold zelligeref07_Orient.f
  rw [if_pos ⟨ha, hb, hc⟩, e]
end Go.Proofs.Ytmeckkckjikjiaa.Pd
end
