/- PackTakes, walked by hand (printed by gen_packlaws.py). -/
import Derived.Test.YtbmeleolpemakaaFzelligelaw44lives
import Derived.Test.YtbmeleolpemakaaFzelligeref44Take
import Derived.Test.YtbmeleolpemakaaFpackTake
import Derived.StillTailTactics
import Derived.OwnWalk
namespace Go.Proofs.Ytbmeleolpemakaa.Pk
open Go Go.RowKit Go.Proofs.YtbmeleolpemakaaW.PrintWords Go.Proofs.YtbmeleolpemakaaW.PrintLast Go.Proofs.YtbmeleolpemakaaW.PrintMore Go.Proofs.Ytbmeleolpemakaa.F
set_option linter.unusedVariables false
set_option linter.unusedSimpArgs false
theorem lives_t : zelligelaw44_lives.f = some true := by decide +kernel
theorem refTake_m (k : Nat) (A0 : Option Addr) (m c0 : Nat) (l : List Int) (hm : m = l.length) (r1 r2 : Int) (w : World) (hr0 : Kd.C (Kd.int .u8) w A0 m l) (hc0 : m ≤ c0) (h : zelligeref44_Take.f k l = some (r1, r2)) :
    Calls Try.prog 9 #[.slice A0 m c0] w fun e w' => e = .returned (.tuple #[.int .i64 r1, .int .i64 r2]) ∧ Drawn0 w w' := by
  subst hm
  exact zelligeref44_Take.calls k A0 c0 l r1 r2 w hr0 hc0 h
theorem packTake_y (v : Value) (Y : List Int) (r1 : Int) (r2 : List Int) (r3 : Int) (w0 w : World) (hb : Below w0.heap.size w0 w) (hR : Kd.R (Kd.int .u8) 5 w w0.heap.size (fun _ => True) v Y) (h : pack_Take.f Y = some (r1, r2, r3)) :
    Calls Try.prog 8 #[v] w fun e w' => ∃ (A : Option Addr) (c : Nat), e = .returned (.tuple #[.int .i64 r1, .slice A r2.length c, .int .i64 r3]) ∧ Kd.C (Kd.int .u8) w' A r2.length r2 ∧ r2.length ≤ c ∧ Below w0.heap.size w0 w' := by
  obtain ⟨A, c, rfl, hc, hC⟩ := Kd.R_reads hR
  refine (pack_Take.calls A c Y r1 r2 r3 w hC hc h).mono ?_
  rintro e w' ⟨v, rfl, hR', hb'⟩
  obtain ⟨A', c', rfl, hc', hC'⟩ := Kd.R_reads hR'
  exact ⟨A', c', rfl, hC', hc', below_step hb hb'⟩

set_option maxHeartbeats 4000000 in
theorem takes_all_none (k : Nat) (A0 : Option Addr) (c0 : Nat) (l0 : List Int) (w : World) (hr0 : Kd.C (Kd.int .u8) w A0 l0.length l0) (hc0 : l0.length ≤ c0) (g : ¬ 30 < l0.length) (L : List Int) (hL : L = l0) (hp : pack_Take.f ([] ++ L) = some (0, [], 17)) (hq : zelligeref44_Take.f k L = some (0, 0)) :
    Calls Try.prog 3 #[.slice A0 l0.length c0] w fun e w' => e = .returned (.bool true) ∧ Below w.heap.size w w' := by
  subst hL
  have hm : L.length = L.length := rfl
  have hC := hr0
  have g1 : decide (30 < (L.length : Int)) = false := decide_eq_false (by omega)
  have hcm := hc0
  have HC := Aside0.mk hC
  have HM := Aside0.mk hm
  have HP := Aside0.mk hp
  have HQ := Aside0.mk hq
  have HN := Aside0.mk hcm
  clear hr0 hC hp hq hm hcm hc0
  have HB := Aside0.mk (Below.refl w.heap.size w)
  go_enter Try.func3, Try.ntmps3
  go_wp2_with (first | ((with_reducible refine gate_dst (N := 14) rfl ?_); (try (refine gate_guard (by rfl) ?_; dsimp only)); refine Kd.R_lit (Kd.int .u8) _ 5 ?hg (N := 14) ?hd (xs := ([] : List Int)) (inner := []) (ok := fun _ => True) (okp := fun _ => True) ?hr ?hp (fun _ hk => hk) trivial (Below.refl _ _) (Nat.le_refl _) (by simp) ?_; (case hd => rfl); (case hg => rfl); (case hr => first | (go_simp; done) | (go_simp; rfl)); (case hp => exact (Reps.none _ _)); intro v140 w95 ho96 hb hg_ hnew_; clear hg_ hnew_; have HO141 := Aside0.mk (Kd.R_lower ho96 (below_size HB.out)); have HB1 := Aside0.mk (below_step HB.out hb); clear HB; have HB := HB1; clear HB1; clear hb ho96) | ((with_reducible refine gate_builtin (b := .append) (xs := #[.tmp 14, .tmp 15]) rfl ?_); (try (refine gate_guard (by rfl) ?_; dsimp only)); at_builtin; refine Kd.R_append_rows (Kd.int .u8) (w0 := w) w.heap.size rfl (.tmp 14) (.tmp 15) 22 5 (.int .u8 0) 1 rfl Try.underlying22 info5 rfl (by decide) (by omega) v140 [] L _ _ _ (fun _ => True) (fun _ => False) rfl rfl ?aO ?aR (fun _ _ h => h) (fun _ h => h.elim) ?aF ?aB ?aS ?aL ?_; (case aR => exact (Kd.C_below HC.out HB.out)); (case aB => exact HB.out); (case aF => exact (fun _ _ => trivial)); (case aO => exact HO141.out); (case aS => exact (below_size HB.out)); (case aL => have := HM.out; simp only [List.length_nil]; omega); intro v143 w97 ho hb hg hat; have HB1 := Aside0.mk hb; have HO144 := Aside0.mk ho; clear HB; clear HO141; have HB := HB1; clear HB1; clear ho hb hg hat) | (with_reducible go_at_call 8; with_reducible refine (packTake_y v143 _ _ _ _ w _ HB.out HO144.out HP.out).mono ?_; rintro e w2 ⟨A2, c2, rfl, hC2, hc2, hb⟩; have HT := Aside0.mk (And.intro hC2 hc2); have HB1 := Aside0.mk hb; clear HB HO144 hC2 hc2 hb; have HB := HB1; clear HB1) | (with_reducible go_at_call 9; with_reducible refine (refTake_m k A0 _ c0 L rfl _ _ _ (Kd.C_below HC.out HB.out) HN.out HQ.out).mono ?_; rintro e w3 ⟨rfl, ⟨nd, rfl⟩⟩; have HT1 := Aside0.mk (And.intro (Kd.C_drewN HT.out.1 nd) HT.out.2); have HB1 := Aside0.mk (pw_below_drewN HB.out nd); clear HB HT; have HB := HB1; have HT := HT1; clear HB1 HT1) | (with_reducible go_at_call 10; with_reducible refine (zelligelaw44_lives.calls true _ lives_t).mono ?_; rintro e w4 ⟨rfl, hb⟩; have HB1 := Aside0.mk (below_step HB.out hb); clear HB hb; have HB := HB1; clear HB1) | fail)
  go_ret
  exact ⟨rfl, HB.out⟩
set_option maxHeartbeats 4000000 in
theorem takes_cut_none (k : Nat) (A0 : Option Addr) (c0 : Nat) (l0 : List Int) (w : World) (hr0 : Kd.C (Kd.int .u8) w A0 l0.length l0) (hc0 : l0.length ≤ c0) (g : 30 < l0.length) (L : List Int) (hL : L = (l0.take 30)) (hp : pack_Take.f ([] ++ L) = some (0, [], 17)) (hq : zelligeref44_Take.f k L = some (0, 0)) :
    Calls Try.prog 3 #[.slice A0 l0.length c0] w fun e w' => e = .returned (.bool true) ∧ Below w.heap.size w w' := by
  have hm : L.length = 30 := by rw [hL, List.length_take]; omega
  have hC : Kd.C (Kd.int .u8) w A0 30 L := by have h := Kd.C_take hr0 (m := 30) (by omega); rw [← hL, hm] at h; exact h
  have g1 : decide (30 < (l0.length : Int)) = true := decide_eq_true (by omega)
  have g2 : (30 : Int) ≤ (c0 : Int) := by omega
  have g3 : 30 ≤ c0 := by omega
  have hcm : 30 ≤ c0 := g3
  have h30 : (30 : Int).toNat = 30 := rfl
  have HC := Aside0.mk hC
  have HM := Aside0.mk hm
  have HP := Aside0.mk hp
  have HQ := Aside0.mk hq
  have HN := Aside0.mk hcm
  clear hr0 hC hp hq hm hcm
  have HB := Aside0.mk (Below.refl w.heap.size w)
  go_enter Try.func3, Try.ntmps3
  go_wp2_with (first | ((with_reducible refine gate_dst (N := 14) rfl ?_); (try (refine gate_guard (by rfl) ?_; dsimp only)); refine Kd.R_lit (Kd.int .u8) _ 5 ?hg (N := 14) ?hd (xs := ([] : List Int)) (inner := []) (ok := fun _ => True) (okp := fun _ => True) ?hr ?hp (fun _ hk => hk) trivial (Below.refl _ _) (Nat.le_refl _) (by simp) ?_; (case hd => rfl); (case hg => rfl); (case hr => first | (go_simp; done) | (go_simp; rfl)); (case hp => exact (Reps.none _ _)); intro v140 w95 ho96 hb hg_ hnew_; clear hg_ hnew_; have HO141 := Aside0.mk (Kd.R_lower ho96 (below_size HB.out)); have HB1 := Aside0.mk (below_step HB.out hb); clear HB; have HB := HB1; clear HB1; clear hb ho96) | ((with_reducible refine gate_builtin (b := .append) (xs := #[.tmp 14, .tmp 15]) rfl ?_); (try (refine gate_guard (by rfl) ?_; dsimp only)); at_builtin; refine Kd.R_append_rows (Kd.int .u8) (w0 := w) w.heap.size rfl (.tmp 14) (.tmp 15) 22 5 (.int .u8 0) 1 rfl Try.underlying22 info5 rfl (by decide) (by omega) v140 [] L _ _ _ (fun _ => True) (fun _ => False) rfl rfl ?aO ?aR (fun _ _ h => h) (fun _ h => h.elim) ?aF ?aB ?aS ?aL ?_; (case aR => exact (Kd.C_below HC.out HB.out)); (case aB => exact HB.out); (case aF => exact (fun _ _ => trivial)); (case aO => exact HO141.out); (case aS => exact (below_size HB.out)); (case aL => have := HM.out; simp only [List.length_nil]; omega); intro v143 w97 ho hb hg hat; have HB1 := Aside0.mk hb; have HO144 := Aside0.mk ho; clear HB; clear HO141; have HB := HB1; clear HB1; clear ho hb hg hat) | (with_reducible go_at_call 8; with_reducible refine (packTake_y v143 _ _ _ _ w _ HB.out HO144.out HP.out).mono ?_; rintro e w2 ⟨A2, c2, rfl, hC2, hc2, hb⟩; have HT := Aside0.mk (And.intro hC2 hc2); have HB1 := Aside0.mk hb; clear HB HO144 hC2 hc2 hb; have HB := HB1; clear HB1) | (with_reducible go_at_call 9; with_reducible refine (refTake_m k A0 _ c0 L HM.out.symm _ _ _ (Kd.C_below HC.out HB.out) HN.out HQ.out).mono ?_; rintro e w3 ⟨rfl, ⟨nd, rfl⟩⟩; have HT1 := Aside0.mk (And.intro (Kd.C_drewN HT.out.1 nd) HT.out.2); have HB1 := Aside0.mk (pw_below_drewN HB.out nd); clear HB HT; have HB := HB1; have HT := HT1; clear HB1 HT1) | (with_reducible go_at_call 10; with_reducible refine (zelligelaw44_lives.calls true _ lives_t).mono ?_; rintro e w4 ⟨rfl, hb⟩; have HB1 := Aside0.mk (below_step HB.out hb); clear HB hb; have HB := HB1; clear HB1) | fail)
  go_ret
  exact ⟨rfl, HB.out⟩
set_option maxHeartbeats 4000000 in
theorem takes_all_some (k : Nat) (A0 : Option Addr) (c0 : Nat) (l0 : List Int) (w : World) (hr0 : Kd.C (Kd.int .u8) w A0 l0.length l0) (hc0 : l0.length ≤ c0) (g : ¬ 30 < l0.length) (L : List Int) (hL : L = l0) (n : Int) (kn : Nat) (hk0 : 0 < kn) (hk1 : kn ≤ L.length) (R : List Int) (hR : R = L.drop kn) (hp : pack_Take.f ([] ++ L) = some (n, R, 0)) (hq : zelligeref44_Take.f k L = some (n, (kn : Int))) :
    Calls Try.prog 3 #[.slice A0 l0.length c0] w fun e w' => e = .returned (.bool true) ∧ Below w.heap.size w w' := by
  subst hL
  have hm : L.length = L.length := rfl
  have hC := hr0
  have g1 : decide (30 < (L.length : Int)) = false := decide_eq_false (by omega)
  have hcm := hc0
  have HC := Aside0.mk hC
  have HM := Aside0.mk hm
  have HP := Aside0.mk hp
  have HQ := Aside0.mk hq
  have HN := Aside0.mk hcm
  clear hr0 hC hp hq hm hcm hc0
  have HRR := Aside0.mk hR
  clear hR
  have HB := Aside0.mk (Below.refl w.heap.size w)
  go_enter Try.func3, Try.ntmps3
  go_wp2_with (first | ((with_reducible refine gate_dst (N := 14) rfl ?_); (try (refine gate_guard (by rfl) ?_; dsimp only)); refine Kd.R_lit (Kd.int .u8) _ 5 ?hg (N := 14) ?hd (xs := ([] : List Int)) (inner := []) (ok := fun _ => True) (okp := fun _ => True) ?hr ?hp (fun _ hk => hk) trivial (Below.refl _ _) (Nat.le_refl _) (by simp) ?_; (case hd => rfl); (case hg => rfl); (case hr => first | (go_simp; done) | (go_simp; rfl)); (case hp => exact (Reps.none _ _)); intro v140 w95 ho96 hb hg_ hnew_; clear hg_ hnew_; have HO141 := Aside0.mk (Kd.R_lower ho96 (below_size HB.out)); have HB1 := Aside0.mk (below_step HB.out hb); clear HB; have HB := HB1; clear HB1; clear hb ho96) | ((with_reducible refine gate_builtin (b := .append) (xs := #[.tmp 14, .tmp 15]) rfl ?_); (try (refine gate_guard (by rfl) ?_; dsimp only)); at_builtin; refine Kd.R_append_rows (Kd.int .u8) (w0 := w) w.heap.size rfl (.tmp 14) (.tmp 15) 22 5 (.int .u8 0) 1 rfl Try.underlying22 info5 rfl (by decide) (by omega) v140 [] L _ _ _ (fun _ => True) (fun _ => False) rfl rfl ?aO ?aR (fun _ _ h => h) (fun _ h => h.elim) ?aF ?aB ?aS ?aL ?_; (case aR => exact (Kd.C_below HC.out HB.out)); (case aB => exact HB.out); (case aF => exact (fun _ _ => trivial)); (case aO => exact HO141.out); (case aS => exact (below_size HB.out)); (case aL => have := HM.out; simp only [List.length_nil]; omega); intro v143 w97 ho hb hg hat; have HB1 := Aside0.mk hb; have HO144 := Aside0.mk ho; clear HB; clear HO141; have HB := HB1; clear HB1; clear ho hb hg hat) | (with_reducible go_at_call 8; with_reducible refine (packTake_y v143 _ _ _ _ w _ HB.out HO144.out HP.out).mono ?_; rintro e w2 ⟨A2, c2, rfl, hC2, hc2, hb⟩; have HT := Aside0.mk (And.intro hC2 hc2); have HB1 := Aside0.mk hb; clear HB HO144 hC2 hc2 hb; have HB := HB1; clear HB1) | (with_reducible go_at_call 9; with_reducible refine (refTake_m k A0 _ c0 L rfl _ _ _ (Kd.C_below HC.out HB.out) HN.out HQ.out).mono ?_; rintro e w3 ⟨rfl, ⟨nd, rfl⟩⟩; have HT1 := Aside0.mk (And.intro (Kd.C_drewN HT.out.1 nd) HT.out.2); have HB1 := Aside0.mk (pw_below_drewN HB.out nd); clear HB HT; have HB := HB1; have HT := HT1; clear HB1 HT1) | (with_reducible go_at_call 10; with_reducible refine (zelligelaw44_lives.calls true _ lives_t).mono ?_; rintro e w4 ⟨rfl, hb⟩; have HB1 := Aside0.mk (below_step HB.out hb); clear HB hb; have HB := HB1; clear HB1) | fail)
  obtain ⟨i0, hi0, _, hsz, _⟩ := info_parts info5
  obtain ⟨A3, hcut, hA3, hC3⟩ := print_drop_of (P := Try.prog) (Value.int .u8) 0 22 5 .i64 Try.underlying22 hi0 hsz A0 c0 L (kn : Int) (by omega) (by omega) HN.out
  have hC4 := HC.out
  have hR3 := Kd.C_of_reads (h1 := fun _ => rfl) (hA3 _ (Kd.reads_of_C hC4))
  simp only [Int.toNat_natCast] at hcut hR3 hC3
  rw [← HRR.out] at hcut hR3 hC3
  have hcv1 := Kd.C_string (P := Try.prog) (c := c2) Try.underlying22 Try.underlying5 Try.underlying9 (Kd.C_drew HT.out.1)
  have hcv2 := Kd.C_string (P := Try.prog) (c := c0 - kn) Try.underlying22 Try.underlying5 Try.underlying9 (Kd.C_drew (Kd.C_below hR3 HB.out))
  have hk2 : (0 : Int) ≤ (kn : Int) := by omega
  clear hA3 hC3 hR3 hi0 hsz hC4
  generalize w2.drewN nd = W3 at HB hcv1 hcv2 ⊢
  go_still_tail 17, (by kernel_rfl)
  change wpList _ _ _ _ _ W3.drew
  replace HB := Aside0.mk (below_drew HB.out)
  clear hcv1 hcv2
  generalize W3.drew = W4 at HB ⊢
  go_wp2_with (first | (with_reducible go_at_call 10; with_reducible refine (zelligelaw44_lives.calls true _ lives_t).mono ?_; rintro e w4 ⟨rfl, hb⟩; have HB1 := Aside0.mk (below_step HB.out hb); clear HB hb; have HB := HB1; clear HB1) | fail)
  go_ret
  exact ⟨rfl, HB.out⟩
set_option maxHeartbeats 4000000 in
theorem takes_cut_some (k : Nat) (A0 : Option Addr) (c0 : Nat) (l0 : List Int) (w : World) (hr0 : Kd.C (Kd.int .u8) w A0 l0.length l0) (hc0 : l0.length ≤ c0) (g : 30 < l0.length) (L : List Int) (hL : L = (l0.take 30)) (n : Int) (kn : Nat) (hk0 : 0 < kn) (hk1 : kn ≤ L.length) (R : List Int) (hR : R = L.drop kn) (hp : pack_Take.f ([] ++ L) = some (n, R, 0)) (hq : zelligeref44_Take.f k L = some (n, (kn : Int))) :
    Calls Try.prog 3 #[.slice A0 l0.length c0] w fun e w' => e = .returned (.bool true) ∧ Below w.heap.size w w' := by
  have hm : L.length = 30 := by rw [hL, List.length_take]; omega
  have hC : Kd.C (Kd.int .u8) w A0 30 L := by have h := Kd.C_take hr0 (m := 30) (by omega); rw [← hL, hm] at h; exact h
  have g1 : decide (30 < (l0.length : Int)) = true := decide_eq_true (by omega)
  have g2 : (30 : Int) ≤ (c0 : Int) := by omega
  have g3 : 30 ≤ c0 := by omega
  have hcm : 30 ≤ c0 := g3
  have h30 : (30 : Int).toNat = 30 := rfl
  have HC := Aside0.mk hC
  have HM := Aside0.mk hm
  have HP := Aside0.mk hp
  have HQ := Aside0.mk hq
  have HN := Aside0.mk hcm
  clear hr0 hC hp hq hm hcm
  have HRR := Aside0.mk hR
  clear hR
  have HB := Aside0.mk (Below.refl w.heap.size w)
  go_enter Try.func3, Try.ntmps3
  go_wp2_with (first | ((with_reducible refine gate_dst (N := 14) rfl ?_); (try (refine gate_guard (by rfl) ?_; dsimp only)); refine Kd.R_lit (Kd.int .u8) _ 5 ?hg (N := 14) ?hd (xs := ([] : List Int)) (inner := []) (ok := fun _ => True) (okp := fun _ => True) ?hr ?hp (fun _ hk => hk) trivial (Below.refl _ _) (Nat.le_refl _) (by simp) ?_; (case hd => rfl); (case hg => rfl); (case hr => first | (go_simp; done) | (go_simp; rfl)); (case hp => exact (Reps.none _ _)); intro v140 w95 ho96 hb hg_ hnew_; clear hg_ hnew_; have HO141 := Aside0.mk (Kd.R_lower ho96 (below_size HB.out)); have HB1 := Aside0.mk (below_step HB.out hb); clear HB; have HB := HB1; clear HB1; clear hb ho96) | ((with_reducible refine gate_builtin (b := .append) (xs := #[.tmp 14, .tmp 15]) rfl ?_); (try (refine gate_guard (by rfl) ?_; dsimp only)); at_builtin; refine Kd.R_append_rows (Kd.int .u8) (w0 := w) w.heap.size rfl (.tmp 14) (.tmp 15) 22 5 (.int .u8 0) 1 rfl Try.underlying22 info5 rfl (by decide) (by omega) v140 [] L _ _ _ (fun _ => True) (fun _ => False) rfl rfl ?aO ?aR (fun _ _ h => h) (fun _ h => h.elim) ?aF ?aB ?aS ?aL ?_; (case aR => exact (Kd.C_below HC.out HB.out)); (case aB => exact HB.out); (case aF => exact (fun _ _ => trivial)); (case aO => exact HO141.out); (case aS => exact (below_size HB.out)); (case aL => have := HM.out; simp only [List.length_nil]; omega); intro v143 w97 ho hb hg hat; have HB1 := Aside0.mk hb; have HO144 := Aside0.mk ho; clear HB; clear HO141; have HB := HB1; clear HB1; clear ho hb hg hat) | (with_reducible go_at_call 8; with_reducible refine (packTake_y v143 _ _ _ _ w _ HB.out HO144.out HP.out).mono ?_; rintro e w2 ⟨A2, c2, rfl, hC2, hc2, hb⟩; have HT := Aside0.mk (And.intro hC2 hc2); have HB1 := Aside0.mk hb; clear HB HO144 hC2 hc2 hb; have HB := HB1; clear HB1) | (with_reducible go_at_call 9; with_reducible refine (refTake_m k A0 _ c0 L HM.out.symm _ _ _ (Kd.C_below HC.out HB.out) HN.out HQ.out).mono ?_; rintro e w3 ⟨rfl, ⟨nd, rfl⟩⟩; have HT1 := Aside0.mk (And.intro (Kd.C_drewN HT.out.1 nd) HT.out.2); have HB1 := Aside0.mk (pw_below_drewN HB.out nd); clear HB HT; have HB := HB1; have HT := HT1; clear HB1 HT1) | (with_reducible go_at_call 10; with_reducible refine (zelligelaw44_lives.calls true _ lives_t).mono ?_; rintro e w4 ⟨rfl, hb⟩; have HB1 := Aside0.mk (below_step HB.out hb); clear HB hb; have HB := HB1; clear HB1) | fail)
  obtain ⟨i0, hi0, _, hsz, _⟩ := info_parts info5
  obtain ⟨A3, hcut, hA3, hC3⟩ := print_drop_of (P := Try.prog) (Value.int .u8) 0 22 5 .i64 Try.underlying22 hi0 hsz A0 c0 L (kn : Int) (by omega) (by omega) (by have := HM.out; have := HN.out; omega)
  have hC4 : Kd.C (Kd.int .u8) w A0 L.length L := by have h := HC.out; rw [← HM.out] at h; exact h
  have hR3 := Kd.C_of_reads (h1 := fun _ => rfl) (hA3 _ (Kd.reads_of_C hC4))
  simp only [Int.toNat_natCast] at hcut hR3 hC3
  rw [← HRR.out] at hcut hR3 hC3
  rw [HM.out] at hcut
  have hcv1 := Kd.C_string (P := Try.prog) (c := c2) Try.underlying22 Try.underlying5 Try.underlying9 (Kd.C_drew HT.out.1)
  have hcv2 := Kd.C_string (P := Try.prog) (c := c0 - kn) Try.underlying22 Try.underlying5 Try.underlying9 (Kd.C_drew (Kd.C_below hR3 HB.out))
  have hk2 : (0 : Int) ≤ (kn : Int) := by omega
  clear hA3 hC3 hR3 hi0 hsz hC4
  generalize w2.drewN nd = W3 at HB hcv1 hcv2 ⊢
  go_still_tail 17, (by kernel_rfl)
  change wpList _ _ _ _ _ W3.drew
  replace HB := Aside0.mk (below_drew HB.out)
  clear hcv1 hcv2
  generalize W3.drew = W4 at HB ⊢
  go_wp2_with (first | (with_reducible go_at_call 10; with_reducible refine (zelligelaw44_lives.calls true _ lives_t).mono ?_; rintro e w4 ⟨rfl, hb⟩; have HB1 := Aside0.mk (below_step HB.out hb); clear HB hb; have HB := HB1; clear HB1) | fail)
  go_ret
  exact ⟨rfl, HB.out⟩
end Go.Proofs.Ytbmeleolpemakaa.Pk
