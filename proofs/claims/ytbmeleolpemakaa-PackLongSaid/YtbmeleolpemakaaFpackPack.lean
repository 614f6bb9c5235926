/- pack.Pack, walked by hand. -/
import Derived.Test.YtbmeleolpemakaaPackSpec
import Derived.Test.YtbmeleolpemakaaWMore
import Derived.Test.YtbmeleolpemakaaFx0
import Derived.BigRegion
namespace Go.Proofs.Ytbmeleolpemakaa.F
open Go Go.RowKit Go.Proofs.YtbmeleolpemakaaW.PrintWords Go.Proofs.YtbmeleolpemakaaW.PrintLast Go.Proofs.YtbmeleolpemakaaW.PrintMore
set_option linter.unusedVariables false
set_option linter.unusedSimpArgs false
theorem start_pk (w : World) (o0 o3 : Obj) : PK w (w.heap.size + 1 + 1) 0 0 0 0 0 0 [90, 71] ((((w.alloc o0).alloc (.cells #[.int .u8 90, .int .u8 71] 5)).alloc (.cells #[.slice (some ⟨w.heap.size + 1, 0, none⟩) 2 2, .int .i64 0, .int .i64 0, .int .i64 0, .int .i64 0, .int .i64 0, .int .i64 0] 52)).alloc o3) := by
  have hb : Below w.heap.size w (w.alloc o0) := below_alloc (Below.refl _ _) o0
  have hs : (w.alloc o0).heap.size = w.heap.size + 1 := World.size_alloc w o0
  have hs2 : ((w.alloc o0).alloc (.cells #[.int .u8 90, .int .u8 71] 5)).heap.size = w.heap.size + 1 + 1 := by rw [World.size_alloc, hs]
  have ho := World.ownsRow_lit (base := w.heap.size) (e := 5) (size := 1) (w.alloc o0) #[.int .u8 90, .int .u8 71] 2 (by omega) (by decide) rfl
  rw [hs] at ho
  have hR : Kd.R (Kd.int .u8) 5 ((w.alloc o0).alloc (.cells #[.int .u8 90, .int .u8 71] 5)) w.heap.size (fun _ => True) (.slice (some ⟨w.heap.size + 1, 0, none⟩) 2 2) [90, 71] := Kd.R_of_own ho (fun _ _ => trivial)
  have hq := blk_new ((w.alloc o0).alloc (.cells #[.int .u8 90, .int .u8 71] 5)) (.cells #[.slice (some ⟨w.heap.size + 1, 0, none⟩) 2 2, .int .i64 0, .int .i64 0, .int .i64 0, .int .i64 0, .int .i64 0, .int .i64 0] 52)
  rw [hs2] at hq
  exact ⟨below_alloc (below_alloc (below_alloc hb _) _) _, by omega, _, blk_alloc hq o3, Kd.R_alloc (Kd.R_alloc hR _) _⟩
theorem four_blk (w : World) (o0 o1 o2 o3 : Obj) : ((((w.alloc o0).alloc o1).alloc o2).alloc o3).heap[w.heap.size]? = some o0 ∧ ((((w.alloc o0).alloc o1).alloc o2).alloc o3).heap[w.heap.size + 1 + 1 + 1]? = some o3 := by
  refine ⟨blk_alloc (blk_alloc (blk_alloc (blk_new w o0) _) _) _, ?_⟩
  have h := blk_new (((w.alloc o0).alloc o1).alloc o2) o3
  have e : (((w.alloc o0).alloc o1).alloc o2).heap.size = w.heap.size + 1 + 1 + 1 := by rw [World.size_alloc, World.size_alloc, World.size_alloc]
  rw [e] at h
  exact h
theorem w64 (n : Int) : wrap64 n = IntKind.i64.wrap n := by rw [IntKind.wrap_i64]; unfold wrap64; rfl
theorem off_ne {W : World} {q g : Nat} {cs cq : Array Value} {t : TypeId} (h : W.heap[g]? = some (.cells cs t (0, 0))) (hq : W.heap[q]? = some (.cells cq 52 (0, 0))) (h5 : t ≠ 5) (h52 : t ≠ 52) : ¬ Off W q g := fun ho => by
  rcases ho with rfl | ⟨cells, hc⟩
  · exact blk_ne h hq h52 rfl
  · exact blk_ne h hc h5 rfl
theorem len_max {α : Type} {d : Kd α} {w : World} {A : Option Addr} {xs : List α} (h : d.C w A xs.length xs) : xs.length ≤ 9223372036854775807 := Kd.C_max h
set_option maxHeartbeats 4000000 in
theorem pack_Pack.calls (a0_0 a0_1 a0_2 : Int) (A3 : Option Addr) (c3 : Nat) (l3 : List S50) (A4 : Option Addr) (c4 : Nat) (l4 : List S54) (r1 : List Int) (r2 : Int) (w : World) (h3 : Kd.C k50 w A3 l3.length l3) (hc3 : l3.length ≤ c3) (h4 : Kd.C k54 w A4 l4.length l4) (hc4 : l4.length ≤ c4) (h : pack_Pack.f a0_0 a0_1 a0_2 l3 l4 = some (r1, r2)) :
    Calls Try.prog 14 #[.agg #[.int .i64 a0_0, .int .i64 a0_1, .int .i64 a0_2, .slice A3 l3.length c3, .slice A4 0 c4]] w fun e w' => ∃ v0_ : Value, e = .returned (.tuple #[v0_, .int .i64 r2]) ∧ Kd.R (Kd.int .u8) 5 w' w.heap.size (fun _ => True) v0_ r1 ∧ Below w.heap.size w w' := by
  unfold pack_Pack.f at h
  by_cases h40 : l4.length = 0
  case neg => rw [if_neg h40] at h; cases h
  rw [if_pos h40] at h
  obtain rfl : l4 = [] := List.length_eq_zero_iff.1 h40
  clear h40
  obtain ⟨l, hl, h⟩ := Option.bind_eq_some_iff.1 h
  have H3 := Aside0.mk h3
  have H4 := Aside0.mk h4
  have HL := Aside0.mk hl
  have H := Aside0.mk h
  clear h3 h4 hl h
  go_enter Try.func14, Try.ntmps14
  obtain ⟨hbf, hbi⟩ := four_blk w (.cells #[.int .i64 a0_0, .int .i64 a0_1, .int .i64 a0_2, .slice A3 l3.length c3, .slice A4 0 c4] 36) (.cells #[.int .u8 90, .int .u8 71] 5) (.cells #[.slice (some ⟨w.heap.size + 1, 0, none⟩) 2 2, .int .i64 0, .int .i64 0, .int .i64 0, .int .i64 0, .int .i64 0, .int .i64 0] 52) (.cells #[.int .i64 a0_0, .int .i64 a0_1, .int .i64 a0_2, .int .i64 l3.length, .int .i64 0] 3)
  have HI := Aside0.mk (And.intro hbf hbi)
  clear hbf hbi
  go_wp2_with fail
  with_reducible refine (put_cs 11 w _ (w.heap.size + 1 + 1) 0 0 0 0 0 0 [90, 71] [a0_0, a0_1, a0_2, l3.length, 0] l (w.heap.size + 1 + 1 + 1) _ 5 rfl rfl (start_pk w _ _) HI.out.2 (by decide) HL.out).mono ?_
  rintro e W1 ⟨⟨v, rfl⟩, hP, hk⟩
  have HF := Aside0.mk (blk_kept HI.out.1 hk (fun ho => by rcases ho with ho | ⟨cells, hc⟩; (· omega); (· exact blk_ne HI.out.1 hc (by decide) rfl)))
  have HP := Aside0.mk hP; clear hP hk
  have hf3 := (blk_cell HF.out 3).trans rfl; have hf4 := (blk_cell HF.out 4).trans rfl
  clear HI
  go_wp2_with fail
  obtain ⟨z, hz, h⟩ := Option.bind_eq_some_iff.1 H.out
  have HZ := Aside0.mk hz
  have HE := Aside0.mk h
  clear hz h H HL hf3 hf4
  go_loopw [32] (fun t32 wr => ∃ (i : Nat) (lx : List Int) (s : S50), i ≤ l3.length ∧ t32 = .int .i64 i ∧ sitesF 11 lx s (l3.drop i) = some z ∧ PK w (w.heap.size + 1 + 1) s.f0 s.f1 s.f2 0 0 0 lx wr ∧ wr.heap[w.heap.size]? = some (.cells #[.int .i64 a0_0, .int .i64 a0_1, .int .i64 a0_2, .slice A3 l3.length c3, .slice A4 0 c4] 36 (0, 0))) (fun t32 _ => l3.length - (intOf t32).toNat)
  case atStart => exact ⟨0, l, ⟨0, 0, 0⟩, Nat.zero_le _, rfl, HZ.out, HP.out, HF.out⟩
  case round =>
    obtain ⟨i, lx, s, hi, rfl, hPs, hPK, hF⟩ := hrel
    have HPK := Aside0.mk hPK
    have HF := Aside0.mk hF
    clear hPK hF
    by_cases hlt : i < l3.length
    · have hd : l3.drop i = l3[i] :: l3.drop (i + 1) := List.drop_eq_getElem_cons hlt
      rw [hd] at hPs
      obtain ⟨l1, h1, h2⟩ := Option.bind_eq_some_iff.1 hPs
      rw [w64] at h1
      have H1 := Aside0.mk h1
      have H2 := Aside0.mk h2
      clear h1 h2 hPs hd
      obtain ⟨ad, rfl, e0, e1, e2⟩ := at_T50 (Kd.C_below H3.out HPK.out.out.1) (i : Int) (by omega) (by omega)
      have hx : rd_T50 l3 (i : Int) = l3[i] := by simp [rd_T50, hlt]
      rw [hx] at e0 e1 e2
      simp only [Int.toNat_natCast] at e0 e1 e2
      generalize l3[i] = x at H1 H2 e0 e1 e2 hx
      have hdec : decide ((i : Int) < (l3.length : Int)) = true := decide_eq_true (by omega)
      obtain ⟨v, hv, hR⟩ := HPK.out.out.2.2
      have HV := Aside0.mk (And.intro hv hR)
      have hs0 := (blk_cell hv 1).trans rfl
      clear hv hR hx
      go_wp2_with fail
      have HQ := Aside0.mk (PK.alloc HPK.out (.cells #[.int .i64 x.f0, .int .i64 x.f1, .int .i64 x.f2] 50))
      have HX := Aside0.mk (blk_new wr (.cells #[.int .i64 x.f0, .int .i64 x.f1, .int .i64 x.f2] 50))
      have HF' := Aside0.mk (blk_alloc HF.out (.cells #[.int .i64 x.f0, .int .i64 x.f1, .int .i64 x.f2] 50))
      clear HV hs0 e0 e1 e2 HPK HF
      obtain ⟨g, hg⟩ : ∃ g, wr.heap.size = g := ⟨_, rfl⟩
      rw [hg] at HX ⊢
      generalize wr.alloc (.cells #[.int .i64 x.f0, .int .i64 x.f1, .int .i64 x.f2] 50) = W2 at HQ HX HF' ⊢
      obtain ⟨v, hv, hR⟩ := HQ.out.out.2.2
      have hs0 : W2.cell? ⟨w.heap.size + 1 + 1, 1, none⟩ = some (.int .i64 s.f0) := (blk_cell hv 1).trans rfl
      have x0 : W2.cell? ⟨g, 0, none⟩ = some (.int .i64 x.f0) := (blk_cell HX.out 0).trans rfl
      have x1 : W2.cell? ⟨g, 1, none⟩ = some (.int .i64 x.f1) := (blk_cell HX.out 1).trans rfl
      have x2 : W2.cell? ⟨g, 2, none⟩ = some (.int .i64 x.f2) := (blk_cell HX.out 2).trans rfl
      have HV := Aside0.mk hv
      clear hv hR
      have HC := Aside0.mk (put_cs 11 w ((W2.alloc (.cells #[.int .i64 (IntKind.i64.wrap (x.f0 - s.f0)), .int .i64 x.f1, .int .i64 x.f2] 3)).drew) (w.heap.size + 1 + 1) s.f0 s.f1 s.f2 0 0 0 lx [IntKind.i64.wrap (x.f0 - s.f0), x.f1, x.f2] l1 W2.heap.size #[.int .i64 (IntKind.i64.wrap (x.f0 - s.f0)), .int .i64 x.f1, .int .i64 x.f2] 3 rfl rfl (PK.drew (PK.alloc HQ.out _)) (blk_drew (blk_new W2 _)) (by decide) H1.out)
      go_region_held3 (fun w' => w'.cell? ⟨w.heap.size + 1 + 1, 1, none⟩ = some (.int .i64 s.f0) ∧ w'.cell? ⟨g, 0, none⟩ = some (.int .i64 x.f0) ∧ w'.cell? ⟨g, 1, none⟩ = some (.int .i64 x.f1) ∧ w'.cell? ⟨g, 2, none⟩ = some (.int .i64 x.f2)) (first | exact ⟨hs0, x0, x1, x2⟩ | exact ⟨(blk_cell (blk_drew HV4.out) 1).trans rfl, (blk_cell (blk_drew HX3.out) 0).trans rfl, (blk_cell (blk_drew HX3.out) 1).trans rfl, (blk_cell (blk_drew HX3.out) 2).trans rfl⟩ | exact ⟨(blk_cell (blk_drew (blk_alloc HV.out _)) 1).trans rfl, (blk_cell (blk_drew (blk_alloc HX.out _)) 0).trans rfl, (blk_cell (blk_drew (blk_alloc HX.out _)) 1).trans rfl, (blk_cell (blk_drew (blk_alloc HX.out _)) 2).trans rfl⟩ | fail) (first | (with_reducible refine HC.out.mono ?_; rintro e W3 ⟨⟨v3, rfl⟩, hP, hk⟩; have HP3 := Aside0.mk hP; have HX3 := Aside0.mk (blk_kept (blk_drew (blk_alloc HX.out _)) hk (off_ne (blk_drew (blk_alloc HX.out _)) (blk_drew (blk_alloc HV.out _)) (by decide) (by decide))); have HF3 := Aside0.mk (blk_kept (blk_drew (blk_alloc HF'.out _)) hk (off_ne (blk_drew (blk_alloc HF'.out _)) (blk_drew (blk_alloc HV.out _)) (by decide) (by decide))); obtain ⟨v4, hv4, hR4⟩ := hP.out.2.2; have HV4 := Aside0.mk hv4; clear hP hk hv4 hR4) | fail)
      have HQ3 := HP3.out.out.2.2
      clear HQ HX HF' HV HC hs0 x0 x1 x2 HX3 HV4
      obtain ⟨v5, hv5, hR5⟩ := HQ3
      obtain ⟨A5, c5, rfl⟩ := Kd.R_slice hR5
      have HV5 := Aside0.mk (And.intro hv5 hR5)
      have q0 : W3.cell? ⟨w.heap.size + 1 + 1, 0, none⟩ = some (.slice A5 l1.length c5) := (blk_cell hv5 0).trans rfl
      have q1 : W3.cell? ⟨w.heap.size + 1 + 1, 1, none⟩ = some (.int .i64 s.f0) := (blk_cell hv5 1).trans rfl
      have q2 : W3.cell? ⟨w.heap.size + 1 + 1, 2, none⟩ = some (.int .i64 s.f1) := (blk_cell hv5 2).trans rfl
      have q3 : W3.cell? ⟨w.heap.size + 1 + 1, 3, none⟩ = some (.int .i64 s.f2) := (blk_cell hv5 3).trans rfl
      have qf0 := blk_frozen hv5 1
      have qf1 := blk_frozen hv5 2
      have qf2 := blk_frozen hv5 3
      clear hv5 hR5
      have H2 := H2.out
      by_cases hc : (1048576 : Int) < (l1.length : Int)
      · rw [if_pos hc] at H2
        obtain rfl := Option.some.inj H2
        have hcd : decide ((1048576 : Int) < (l1.length : Int)) = true := decide_eq_true hc
        have he := HE.out
        go_wp2_with fail
        go_ret2
        injection he with he
        injection he with he1 he2
        subst he1 he2
        exact ⟨_, rfl, Kd.R_nil _ _ _ _ _, (PK.site HP3.out x.f0 x.f1 x.f2).out.1⟩
      · rw [if_neg hc] at H2
        have hcd : decide ((1048576 : Int) < (l1.length : Int)) = false := decide_eq_false hc
        go_wp2_with fail
        have hsz : w.heap.size ≠ w.heap.size + 1 + 1 := by omega
        have hmx := len_max H3.out
        have hwr : wrap64 ((i : Int) + 1) = ((i + 1 : Nat) : Int) := by unfold wrap64; omega
        rw [hwr]
        refine ⟨⟨i + 1, l1, x, by omega, rfl, H2, PK.site HP3.out x.f0 x.f1 x.f2, blk_far (blk_far (blk_far HF3.out hsz _) hsz _) hsz _⟩, ?_⟩
        show l3.length - ((i + 1 : Nat) : Int).toNat < l3.length - (i : Int).toNat
        omega
    · have hdec : decide ((i : Int) < (l3.length : Int)) = false := decide_eq_false (by omega)
      have hd : l3.drop i = [] := List.drop_eq_nil_of_le (by omega)
      rw [hd] at hPs
      obtain rfl := Option.some.inj hPs
      have he := HE.out
      obtain ⟨v, hv, hR⟩ := HPK.out.out.2.2
      obtain ⟨A5, c5, rfl⟩ := Kd.R_slice hR
      have q0 : wr.cell? ⟨w.heap.size + 1 + 1, 0, none⟩ = some (.slice A5 lx.length c5) := (blk_cell hv 0).trans rfl
      have f4 : wr.cell? ⟨w.heap.size, 4, none⟩ = some (.slice A4 0 c4) := (blk_cell HF.out 4).trans rfl
      have HR := Aside0.mk hR
      clear hv hR
      go_wp2_with fail
      refine wp_loop_rounds 1 ?_
      rw [rounds_succ]
      go_wp2_with fail
      go_ret2
      injection he with he
      injection he with he1 he2
      subst he1 he2
      exact ⟨_, rfl, HR.out, HPK.out.out.1⟩
end Go.Proofs.Ytbmeleolpemakaa.F
