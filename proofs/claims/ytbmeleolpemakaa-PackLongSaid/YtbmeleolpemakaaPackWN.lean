/- PackNumbers, walked by hand (printed by gen_packlaws.py). -/
import Derived.Test.YtbmeleolpemakaaPackWT
import Derived.Test.YtbmeleolpemakaaFpackNumber
import Derived.Test.YtbmeleolpemakaaFzelligeref44Number
namespace Go.Proofs.Ytbmeleolpemakaa.Pk
open Go Go.RowKit Go.Proofs.YtbmeleolpemakaaW.PrintWords Go.Proofs.YtbmeleolpemakaaW.PrintLast Go.Proofs.YtbmeleolpemakaaW.PrintMore Go.Proofs.Ytbmeleolpemakaa.F
set_option linter.unusedVariables false
set_option linter.unusedSimpArgs false
theorem packNumber_y (k : Nat) (v : Value) (Y : List Int) (n : Int) (r : List Int) (w0 w : World) (hb : Below w0.heap.size w0 w) (hR : Kd.R (Kd.int .u8) 5 w w0.heap.size (fun _ => True) v Y) (h : pack_Number.f k Y n = some r) :
    Calls Try.prog 11 #[v, .int .i64 n] w fun e w' => ∃ (A : Option Addr) (c : Nat), e = .returned (.slice A r.length c) ∧ Kd.C (Kd.int .u8) w' A r.length r ∧ Below w0.heap.size w0 w' := by
  obtain ⟨A, c, rfl, hc, hC⟩ := Kd.R_reads hR
  refine (pack_Number.calls k A c Y n r w hC hc h).mono ?_
  rintro e w' ⟨v, rfl, hR', hb'⟩
  obtain ⟨A', c', rfl, hc', hC'⟩ := Kd.R_reads hR'
  exact ⟨A', c', rfl, hC', below_step hb hb'⟩
theorem refNumber_y (k : Nat) (n : Int) (r : List Int) (w0 w : World) (hb : Below w0.heap.size w0 w) (h : zelligeref44_Number.f k n = some r) :
    Calls Try.prog 12 #[.int .i64 n] w fun e w' => ∃ (A : Option Addr) (c : Nat), e = .returned (.slice A r.length c) ∧ Kd.C (Kd.int .u8) w' A r.length r ∧ Below w.heap.size w w' := by
  refine (zelligeref44_Number.calls k n r w h).mono ?_
  rintro e w' ⟨v, rfl, hR', hb'⟩
  obtain ⟨A', c', rfl, hc', hC'⟩ := Kd.R_reads hR'
  exact ⟨A', c', rfl, hC', hb'⟩
theorem str_size (xs : List Int) : (strOfNums xs).size = xs.length := by simp [strOfNums, ByteArray.size]
theorem cv (w : World) {A : Option Addr} {n c : Nat} {xs : List Int} (h : Kd.C (Kd.int .u8) w A n xs) : (convert 22 9 (.slice A n c)).run Try.prog w = .ok (.string (strOfNums xs)) w := Kd.C_string Try.underlying22 Try.underlying5 Try.underlying9 h
set_option maxHeartbeats 4000000 in
theorem numbers_all (k : Nat) (n : Int) (A0 : Option Addr) (c0 : Nat) (l0 : List Int) (w : World) (hr0 : Kd.C (Kd.int .u8) w A0 l0.length l0) (hc0 : l0.length ≤ c0) (g : ¬ 30 < l0.length) (L E Y : List Int) (hL : L = l0) (hY : Y = L ++ E) (he : E.length ≤ 100) (hp : pack_Number.f k ([] ++ L) n = some Y) (hq : zelligeref44_Number.f k n = some E) (ht : pack_Take.f (E ++ L) = some (n, L, 0)) (hs : strOfNums Y = strOfNums L ++ strOfNums E) :
    Calls Try.prog 4 #[.int .i64 n, .slice A0 l0.length c0] w fun e w' => e = .returned (.bool true) ∧ Below w.heap.size w w' := by
  subst hL
  have hm : L.length = L.length := rfl
  have hC := hr0
  have g1 : decide (30 < (L.length : Int)) = false := decide_eq_false (by omega)
  have hcm := hc0
  have hlen : L.length ≤ 30 := by omega
  have HC := Aside0.mk hC
  have HM := Aside0.mk hm
  have HP := Aside0.mk hp
  have HQ := Aside0.mk hq
  have HN := Aside0.mk hcm
  have HT := Aside0.mk ht
  have HS := Aside0.mk hs
  have HY := Aside0.mk hY
  have HE := Aside0.mk (And.intro he hlen)
  clear hr0 hC hp hq hm hcm ht hs hY he hlen hc0
  have z1 : (9223372036854775807 < ((strOfNums L).size : Int) + ((strOfNums E).size : Int)) = False := eq_false (by rw [str_size, str_size]; have := HE.out; omega)
  have z2 : (9223372036854775807 < (strOfNums L).size + (strOfNums E).size) = False := eq_false (by rw [str_size, str_size]; have := HE.out; omega)
  have z3 : decide (9223372036854775807 < ((strOfNums L).size : Int) + ((strOfNums E).size : Int)) = false := decide_eq_false (by rw [str_size, str_size]; have := HE.out; omega)
  have HB := Aside0.mk (Below.refl w.heap.size w)
  go_enter Try.func4, Try.ntmps4
  go_wp2_with (first | ((with_reducible refine gate_dst (N := 14) rfl ?_); (try (refine gate_guard (by rfl) ?_; dsimp only)); refine Kd.R_lit (Kd.int .u8) _ 5 ?hg (N := 14) ?hd (xs := ([] : List Int)) (inner := []) (ok := fun _ => True) (okp := fun _ => True) ?hr ?hp (fun _ hk => hk) trivial (Below.refl _ _) (Nat.le_refl _) (by simp) ?_; (case hd => rfl); (case hg => rfl); (case hr => first | (go_simp; done) | (go_simp; rfl)); (case hp => exact (Reps.none _ _)); intro v140 w95 ho96 hb hg_ hnew_; clear hg_ hnew_; have HO141 := Aside0.mk (Kd.R_lower ho96 (below_size HB.out)); have HB1 := Aside0.mk (below_step HB.out hb); clear HB; have HB := HB1; clear HB1; clear hb ho96) | ((with_reducible refine gate_builtin (b := .append) (xs := #[.tmp 14, .tmp 15]) rfl ?_); (try (refine gate_guard (by rfl) ?_; dsimp only)); at_builtin; refine Kd.R_append_rows (Kd.int .u8) (w0 := w) w.heap.size rfl (.tmp 14) (.tmp 15) 22 5 (.int .u8 0) 1 rfl Try.underlying22 info5 rfl (by decide) (by omega) v140 [] L _ _ _ (fun _ => True) (fun _ => False) rfl rfl ?aO ?aR (fun _ _ h => h) (fun _ h => h.elim) ?aF ?aB ?aS ?aL ?_; (case aR => exact (Kd.C_below HC.out HB.out)); (case aB => exact HB.out); (case aF => exact (fun _ _ => trivial)); (case aO => exact HO141.out); (case aS => exact (below_size HB.out)); (case aL => have := HM.out; have := HE.out; simp only [List.length_nil]; omega); intro v143 w97 ho hb hg hat; have HB1 := Aside0.mk hb; have HO144 := Aside0.mk ho; clear HB; clear HO141; have HB := HB1; clear HB1; clear ho hb hg hat) | (with_reducible go_at_call 11; with_reducible refine (packNumber_y k v143 _ n Y w _ HB.out HO144.out HP.out).mono ?_; rintro e w2 ⟨A2, c2, rfl, hC2, hb⟩; have HA := Aside0.mk hC2; have HB1 := Aside0.mk hb; clear HB HO144 hC2 hb; have HB := HB1; clear HB1) | fail)
  have ca := cv (c := c2) _ (Kd.C_drew HA.out)
  have cb := cv (c := c0) _ (Kd.C_drew (Kd.C_below HC.out HB.out))
  replace HB := Aside0.mk (below_drew HB.out)
  replace HA := Aside0.mk (Kd.C_drew HA.out)
  refine start_ (n := 9) (S := fun w' => (convert 22 9 (.slice A2 Y.length c2)).run Try.prog w' = .ok (.string (strOfNums Y)) w' ∧ (convert 22 9 (.slice A0 L.length c0)).run Try.prog w' = .ok (.string (strOfNums L)) w') (ds := []) #[false, false, false, false, false, false, false, false, false] (by kernel_rfl) rfl rfl ⟨ca, cb⟩ (fun hHeld => ?_)
  refine pure_ (i := 0) (N := some 19) (v := ?_) (a' := ?_) #[true, false, false, false, false, false, false, false, false] rfl rfl (by kernel_rfl) (fun _ _ _ h => h) (Or.inl ⟨by rfl, ?_⟩) ?_ ?_
  rotate_left
  · intro w'
    go_simp
    with_reducible rfl
  rotate_left
  · simp only [Act.put, List.setIfInBounds_toArray, List.set_cons_zero, List.set_cons_succ, i64_w, i32_w]
    rfl
  refine take_ (i := 1) (N := some 20) (v := ?_) (a' := ?_) #[true, true, false, false, false, false, false, false, false] rfl rfl (by kernel_rfl) (fun _ _ _ h => h) (Or.inl ⟨by rfl, ?_⟩) hHeld ?_ ?_
  rotate_left
  · rintro w' ⟨s0, s1⟩
    go_simp
    with_reducible rfl
  rotate_left
  · simp only [Act.put, List.setIfInBounds_toArray, List.set_cons_zero, List.set_cons_succ, i64_w, i32_w]
    rfl
  refine pure_ (i := 2) (N := some 21) (v := ?_) (a' := ?_) #[true, true, true, false, false, false, false, false, false] rfl rfl (by kernel_rfl) (fun _ _ _ h => h) (Or.inl ⟨by rfl, ?_⟩) ?_ ?_
  rotate_left
  · intro w'
    go_simp
    with_reducible rfl
  rotate_left
  · simp only [Act.put, List.setIfInBounds_toArray, List.set_cons_zero, List.set_cons_succ, i64_w, i32_w]
    rfl
  refine take_ (i := 3) (N := some 22) (v := ?_) (a' := ?_) #[true, true, true, true, false, false, false, false, false] rfl rfl (by kernel_rfl) (fun _ _ _ h => h) (Or.inl ⟨by rfl, ?_⟩) hHeld ?_ ?_
  rotate_left
  · rintro w' ⟨s0, s1⟩
    go_simp
    with_reducible rfl
  rotate_left
  · simp only [Act.put, List.setIfInBounds_toArray, List.set_cons_zero, List.set_cons_succ, i64_w, i32_w]
    rfl
  refine pure_ (i := 4) (N := some 23) (v := ?_) (a' := ?_) #[true, true, true, true, true, false, false, false, false] rfl rfl (by kernel_rfl) (fun _ _ _ h => h) (Or.inl ⟨by rfl, ?_⟩) ?_ ?_
  rotate_left
  · intro w'
    go_simp
    with_reducible rfl
  rotate_left
  · simp only [Act.put, List.setIfInBounds_toArray, List.set_cons_zero, List.set_cons_succ, i64_w, i32_w]
    rfl
  refine one_ (i := 5) (N := some 24) #[true, true, true, true, true, true, false, false, false] rfl rfl (by kernel_rfl) (by decide) (fun K hK => ?_)
  refine goes_ Try.func12 (by kernel_rfl) rfl #[.int .i64 n] (by rfl) rfl rfl (by (try simp only [List.map_toArray, List.map_cons, List.map_nil]); first | done | rfl) ?_
  with_reducible refine (refNumber_y k n E w _ HB.out HQ.out).mono ?_
  rintro e w5 ⟨A5, c5, rfl, hC5, hb5⟩
  have ca5 := cv (c := c2) _ (Kd.C_below HA.out hb5)
  have cb5 := cv (c := c0) _ (Kd.C_below HC.out (below_step HB.out hb5))
  have cc5 := cv (c := c5) _ hC5
  have HB5 := Aside0.mk (below_step HB.out hb5)
  clear hC5 hb5 hHeld
  refine ⟨_, rfl, ?_⟩
  refine hK.out _ _ ⟨ca5, cb5⟩ (fun hHeld => ?_)
  clear hK K
  refine norm_ (a' := ?_) ?_ ?_
  rotate_left
  · show Act.put _ (some 24) _ = _
    simp only [Act.put, List.setIfInBounds_toArray, List.set_cons_zero, List.set_cons_succ, i64_w, i32_w]
    rfl
  refine one_ (i := 6) (N := some 25) #[true, true, true, true, true, true, true, false, false] rfl rfl (by kernel_rfl) (by decide) (fun K hK => ?_)
  refine value_ (w1 := ?_) (v := ?_) (by rfl) rfl ?_ ?_
  rotate_left 2
  · go_simp
    constructor
    · rfl
    · rfl
  refine hK.out _ _ ⟨ca5, cb5⟩ (fun hHeld => ?_)
  clear hK K
  refine norm_ (a' := ?_) ?_ ?_
  rotate_left
  · show Act.put _ (some 25) _ = _
    simp only [Act.put, List.setIfInBounds_toArray, List.set_cons_zero, List.set_cons_succ, i64_w, i32_w]
    rfl
  refine pure_ (i := 7) (N := some 26) (v := ?_) (a' := ?_) #[true, true, true, true, true, true, true, true, false] rfl rfl (by kernel_rfl) (fun _ _ _ h => h) (Or.inl ⟨by rfl, ?_⟩) ?_ ?_
  rotate_left
  · intro w'
    go_simp
    with_reducible rfl
  rotate_left
  · simp only [Act.put, List.setIfInBounds_toArray, List.set_cons_zero, List.set_cons_succ, i64_w, i32_w]
    rfl
  refine pure_ (i := 8) (N := some 27) (v := ?_) (a' := ?_) #[true, true, true, true, true, true, true, true, true] rfl rfl (by kernel_rfl) (fun _ _ _ h => h) (Or.inl ⟨by rfl, ?_⟩) ?_ ?_
  rotate_left
  · intro w'
    go_simp
    with_reducible rfl
  rotate_left
  · simp only [Act.put, List.setIfInBounds_toArray, List.set_cons_zero, List.set_cons_succ, i64_w, i32_w]
    rfl
  refine done_ (by kernel_rfl) ?_
  have hne : (!((strOfNums Y).toList == (strOfNums L ++ strOfNums E).toList)) = false := by rw [HS.out]; simp
  rw [hne]
  replace HB := HB5
  clear ca cb ca5 cb5 cc5 hne z1 z2 z3 HB5
  go_wp2_with (first | (with_reducible go_at_call 12; with_reducible refine (zelligeref44_Number.calls k n E _ HQ.out).mono ?_; rintro e w6 ⟨v6, rfl, hR, hb⟩; have HO141 := Aside0.mk (Kd.R_lower hR (below_size HB.out)); have HB1 := Aside0.mk (below_step HB.out hb); clear HB hR hb; have HB := HB1; clear HB1) | ((with_reducible refine gate_builtin (b := .append) (xs := #[.tmp 30, .tmp 31]) rfl ?_); (try (refine gate_guard (by rfl) ?_; dsimp only)); at_builtin; refine Kd.R_append_rows (Kd.int .u8) (w0 := w) w.heap.size rfl (.tmp 30) (.tmp 31) 22 5 (.int .u8 0) 1 rfl Try.underlying22 info5 rfl (by decide) (by omega) v6 E L _ _ _ (fun _ => True) (fun _ => False) rfl rfl ?aO ?aR (fun _ _ h => h) (fun _ h => h.elim) ?aF ?aB ?aS ?aL ?_; (case aR => exact (Kd.C_below HC.out HB.out)); (case aB => exact HB.out); (case aF => exact (fun _ _ => trivial)); (case aO => exact HO141.out); (case aS => exact (below_size HB.out)); (case aL => have := HM.out; have := HE.out; omega); intro v7 w97 ho hb hg hat; have HB1 := Aside0.mk hb; have HO144 := Aside0.mk ho; clear HB; clear HO141; have HB := HB1; clear HB1; clear ho hb hg hat) | (with_reducible go_at_call 8; with_reducible refine (packTake_y v7 _ _ _ _ w _ HB.out HO144.out HT.out).mono ?_; rintro e w8 ⟨A8, c8, rfl, hC8, hc8, hb⟩; have ca8 := cv (c := c8) _ hC8; have cb8 := cv (c := c0) _ (Kd.C_below HC.out hb); have HB1 := Aside0.mk hb; clear HB HO144 hC8 hc8 hb; have HB := HB1; clear HB1) | (with_reducible go_at_call 10; with_reducible refine (zelligelaw44_lives.calls true _ lives_t).mono ?_; rintro e w4 ⟨rfl, hb⟩; have HB1 := Aside0.mk (below_step HB.out hb); clear HB hb; have HB := HB1; clear HB1) | fail)
  go_ret
  exact ⟨rfl, HB.out⟩
set_option maxHeartbeats 4000000 in
theorem numbers_cut (k : Nat) (n : Int) (A0 : Option Addr) (c0 : Nat) (l0 : List Int) (w : World) (hr0 : Kd.C (Kd.int .u8) w A0 l0.length l0) (hc0 : l0.length ≤ c0) (g : 30 < l0.length) (L E Y : List Int) (hL : L = (l0.take 30)) (hY : Y = L ++ E) (he : E.length ≤ 100) (hp : pack_Number.f k ([] ++ L) n = some Y) (hq : zelligeref44_Number.f k n = some E) (ht : pack_Take.f (E ++ L) = some (n, L, 0)) (hs : strOfNums Y = strOfNums L ++ strOfNums E) :
    Calls Try.prog 4 #[.int .i64 n, .slice A0 l0.length c0] w fun e w' => e = .returned (.bool true) ∧ Below w.heap.size w w' := by
  have hm : L.length = 30 := by rw [hL, List.length_take]; omega
  have hC : Kd.C (Kd.int .u8) w A0 30 L := by have h := Kd.C_take hr0 (m := 30) (by omega); rw [← hL, hm] at h; exact h
  have g1 : decide (30 < (l0.length : Int)) = true := decide_eq_true (by omega)
  have g2 : (30 : Int) ≤ (c0 : Int) := by omega
  have g3 : 30 ≤ c0 := by omega
  have hcm : 30 ≤ c0 := g3
  have h30 : (30 : Int).toNat = 30 := rfl
  have hlen : L.length ≤ 30 := by omega
  clear hL
  have HC := Aside0.mk hC
  have HM := Aside0.mk hm
  have HP := Aside0.mk hp
  have HQ := Aside0.mk hq
  have HN := Aside0.mk hcm
  have HT := Aside0.mk ht
  have HS := Aside0.mk hs
  have HY := Aside0.mk hY
  have HE := Aside0.mk (And.intro he hlen)
  clear hr0 hC hp hq hm hcm ht hs hY he hlen
  have z1 : (9223372036854775807 < ((strOfNums L).size : Int) + ((strOfNums E).size : Int)) = False := eq_false (by rw [str_size, str_size]; have := HE.out; omega)
  have z2 : (9223372036854775807 < (strOfNums L).size + (strOfNums E).size) = False := eq_false (by rw [str_size, str_size]; have := HE.out; omega)
  have z3 : decide (9223372036854775807 < ((strOfNums L).size : Int) + ((strOfNums E).size : Int)) = false := decide_eq_false (by rw [str_size, str_size]; have := HE.out; omega)
  have HB := Aside0.mk (Below.refl w.heap.size w)
  go_enter Try.func4, Try.ntmps4
  go_wp2_with (first | ((with_reducible refine gate_dst (N := 14) rfl ?_); (try (refine gate_guard (by rfl) ?_; dsimp only)); refine Kd.R_lit (Kd.int .u8) _ 5 ?hg (N := 14) ?hd (xs := ([] : List Int)) (inner := []) (ok := fun _ => True) (okp := fun _ => True) ?hr ?hp (fun _ hk => hk) trivial (Below.refl _ _) (Nat.le_refl _) (by simp) ?_; (case hd => rfl); (case hg => rfl); (case hr => first | (go_simp; done) | (go_simp; rfl)); (case hp => exact (Reps.none _ _)); intro v140 w95 ho96 hb hg_ hnew_; clear hg_ hnew_; have HO141 := Aside0.mk (Kd.R_lower ho96 (below_size HB.out)); have HB1 := Aside0.mk (below_step HB.out hb); clear HB; have HB := HB1; clear HB1; clear hb ho96) | ((with_reducible refine gate_builtin (b := .append) (xs := #[.tmp 14, .tmp 15]) rfl ?_); (try (refine gate_guard (by rfl) ?_; dsimp only)); at_builtin; refine Kd.R_append_rows (Kd.int .u8) (w0 := w) w.heap.size rfl (.tmp 14) (.tmp 15) 22 5 (.int .u8 0) 1 rfl Try.underlying22 info5 rfl (by decide) (by omega) v140 [] L _ _ _ (fun _ => True) (fun _ => False) rfl rfl ?aO ?aR (fun _ _ h => h) (fun _ h => h.elim) ?aF ?aB ?aS ?aL ?_; (case aR => exact (Kd.C_below HC.out HB.out)); (case aB => exact HB.out); (case aF => exact (fun _ _ => trivial)); (case aO => exact HO141.out); (case aS => exact (below_size HB.out)); (case aL => have := HM.out; have := HE.out; simp only [List.length_nil]; omega); intro v143 w97 ho hb hg hat; have HB1 := Aside0.mk hb; have HO144 := Aside0.mk ho; clear HB; clear HO141; have HB := HB1; clear HB1; clear ho hb hg hat) | (with_reducible go_at_call 11; with_reducible refine (packNumber_y k v143 _ n Y w _ HB.out HO144.out HP.out).mono ?_; rintro e w2 ⟨A2, c2, rfl, hC2, hb⟩; have HA := Aside0.mk hC2; have HB1 := Aside0.mk hb; clear HB HO144 hC2 hb; have HB := HB1; clear HB1) | fail)
  have ca := cv (c := c2) _ (Kd.C_drew HA.out)
  have cb := cv (c := c0) _ (Kd.C_drew (Kd.C_below HC.out HB.out))
  replace HB := Aside0.mk (below_drew HB.out)
  replace HA := Aside0.mk (Kd.C_drew HA.out)
  refine start_ (n := 9) (S := fun w' => (convert 22 9 (.slice A2 Y.length c2)).run Try.prog w' = .ok (.string (strOfNums Y)) w' ∧ (convert 22 9 (.slice A0 30 c0)).run Try.prog w' = .ok (.string (strOfNums L)) w') (ds := []) #[false, false, false, false, false, false, false, false, false] (by kernel_rfl) rfl rfl ⟨ca, cb⟩ (fun hHeld => ?_)
  refine pure_ (i := 0) (N := some 19) (v := ?_) (a' := ?_) #[true, false, false, false, false, false, false, false, false] rfl rfl (by kernel_rfl) (fun _ _ _ h => h) (Or.inl ⟨by rfl, ?_⟩) ?_ ?_
  rotate_left
  · intro w'
    go_simp
    with_reducible rfl
  rotate_left
  · simp only [Act.put, List.setIfInBounds_toArray, List.set_cons_zero, List.set_cons_succ, i64_w, i32_w]
    rfl
  refine take_ (i := 1) (N := some 20) (v := ?_) (a' := ?_) #[true, true, false, false, false, false, false, false, false] rfl rfl (by kernel_rfl) (fun _ _ _ h => h) (Or.inl ⟨by rfl, ?_⟩) hHeld ?_ ?_
  rotate_left
  · rintro w' ⟨s0, s1⟩
    go_simp
    with_reducible rfl
  rotate_left
  · simp only [Act.put, List.setIfInBounds_toArray, List.set_cons_zero, List.set_cons_succ, i64_w, i32_w]
    rfl
  refine pure_ (i := 2) (N := some 21) (v := ?_) (a' := ?_) #[true, true, true, false, false, false, false, false, false] rfl rfl (by kernel_rfl) (fun _ _ _ h => h) (Or.inl ⟨by rfl, ?_⟩) ?_ ?_
  rotate_left
  · intro w'
    go_simp
    with_reducible rfl
  rotate_left
  · simp only [Act.put, List.setIfInBounds_toArray, List.set_cons_zero, List.set_cons_succ, i64_w, i32_w]
    rfl
  refine take_ (i := 3) (N := some 22) (v := ?_) (a' := ?_) #[true, true, true, true, false, false, false, false, false] rfl rfl (by kernel_rfl) (fun _ _ _ h => h) (Or.inl ⟨by rfl, ?_⟩) hHeld ?_ ?_
  rotate_left
  · rintro w' ⟨s0, s1⟩
    go_simp
    with_reducible rfl
  rotate_left
  · simp only [Act.put, List.setIfInBounds_toArray, List.set_cons_zero, List.set_cons_succ, i64_w, i32_w]
    rfl
  refine pure_ (i := 4) (N := some 23) (v := ?_) (a' := ?_) #[true, true, true, true, true, false, false, false, false] rfl rfl (by kernel_rfl) (fun _ _ _ h => h) (Or.inl ⟨by rfl, ?_⟩) ?_ ?_
  rotate_left
  · intro w'
    go_simp
    with_reducible rfl
  rotate_left
  · simp only [Act.put, List.setIfInBounds_toArray, List.set_cons_zero, List.set_cons_succ, i64_w, i32_w]
    rfl
  refine one_ (i := 5) (N := some 24) #[true, true, true, true, true, true, false, false, false] rfl rfl (by kernel_rfl) (by decide) (fun K hK => ?_)
  refine goes_ Try.func12 (by kernel_rfl) rfl #[.int .i64 n] (by rfl) rfl rfl (by (try simp only [List.map_toArray, List.map_cons, List.map_nil]); first | done | rfl) ?_
  with_reducible refine (refNumber_y k n E w _ HB.out HQ.out).mono ?_
  rintro e w5 ⟨A5, c5, rfl, hC5, hb5⟩
  have ca5 := cv (c := c2) _ (Kd.C_below HA.out hb5)
  have cb5 := cv (c := c0) _ (Kd.C_below HC.out (below_step HB.out hb5))
  have cc5 := cv (c := c5) _ hC5
  have HB5 := Aside0.mk (below_step HB.out hb5)
  clear hC5 hb5 hHeld
  refine ⟨_, rfl, ?_⟩
  refine hK.out _ _ ⟨ca5, cb5⟩ (fun hHeld => ?_)
  clear hK K
  refine norm_ (a' := ?_) ?_ ?_
  rotate_left
  · show Act.put _ (some 24) _ = _
    simp only [Act.put, List.setIfInBounds_toArray, List.set_cons_zero, List.set_cons_succ, i64_w, i32_w]
    rfl
  refine one_ (i := 6) (N := some 25) #[true, true, true, true, true, true, true, false, false] rfl rfl (by kernel_rfl) (by decide) (fun K hK => ?_)
  refine value_ (w1 := ?_) (v := ?_) (by rfl) rfl ?_ ?_
  rotate_left 2
  · go_simp
    constructor
    · rfl
    · rfl
  refine hK.out _ _ ⟨ca5, cb5⟩ (fun hHeld => ?_)
  clear hK K
  refine norm_ (a' := ?_) ?_ ?_
  rotate_left
  · show Act.put _ (some 25) _ = _
    simp only [Act.put, List.setIfInBounds_toArray, List.set_cons_zero, List.set_cons_succ, i64_w, i32_w]
    rfl
  refine pure_ (i := 7) (N := some 26) (v := ?_) (a' := ?_) #[true, true, true, true, true, true, true, true, false] rfl rfl (by kernel_rfl) (fun _ _ _ h => h) (Or.inl ⟨by rfl, ?_⟩) ?_ ?_
  rotate_left
  · intro w'
    go_simp
    with_reducible rfl
  rotate_left
  · simp only [Act.put, List.setIfInBounds_toArray, List.set_cons_zero, List.set_cons_succ, i64_w, i32_w]
    rfl
  refine pure_ (i := 8) (N := some 27) (v := ?_) (a' := ?_) #[true, true, true, true, true, true, true, true, true] rfl rfl (by kernel_rfl) (fun _ _ _ h => h) (Or.inl ⟨by rfl, ?_⟩) ?_ ?_
  rotate_left
  · intro w'
    go_simp
    with_reducible rfl
  rotate_left
  · simp only [Act.put, List.setIfInBounds_toArray, List.set_cons_zero, List.set_cons_succ, i64_w, i32_w]
    rfl
  refine done_ (by kernel_rfl) ?_
  have hne : (!((strOfNums Y).toList == (strOfNums L ++ strOfNums E).toList)) = false := by rw [HS.out]; simp
  rw [hne]
  replace HB := HB5
  clear ca cb ca5 cb5 cc5 hne z1 z2 z3 HB5
  go_wp2_with (first | (with_reducible go_at_call 12; with_reducible refine (zelligeref44_Number.calls k n E _ HQ.out).mono ?_; rintro e w6 ⟨v6, rfl, hR, hb⟩; have HO141 := Aside0.mk (Kd.R_lower hR (below_size HB.out)); have HB1 := Aside0.mk (below_step HB.out hb); clear HB hR hb; have HB := HB1; clear HB1) | ((with_reducible refine gate_builtin (b := .append) (xs := #[.tmp 30, .tmp 31]) rfl ?_); (try (refine gate_guard (by rfl) ?_; dsimp only)); at_builtin; refine Kd.R_append_rows (Kd.int .u8) (w0 := w) w.heap.size rfl (.tmp 30) (.tmp 31) 22 5 (.int .u8 0) 1 rfl Try.underlying22 info5 rfl (by decide) (by omega) v6 E L _ _ _ (fun _ => True) (fun _ => False) rfl rfl ?aO ?aR (fun _ _ h => h) (fun _ h => h.elim) ?aF ?aB ?aS ?aL ?_; (case aR => exact (Kd.C_below HC.out HB.out)); (case aB => exact HB.out); (case aF => exact (fun _ _ => trivial)); (case aO => exact HO141.out); (case aS => exact (below_size HB.out)); (case aL => have := HM.out; have := HE.out; omega); intro v7 w97 ho hb hg hat; have HB1 := Aside0.mk hb; have HO144 := Aside0.mk ho; clear HB; clear HO141; have HB := HB1; clear HB1; clear ho hb hg hat) | (with_reducible go_at_call 8; with_reducible refine (packTake_y v7 _ _ _ _ w _ HB.out HO144.out HT.out).mono ?_; rintro e w8 ⟨A8, c8, rfl, hC8, hc8, hb⟩; have ca8 := cv (c := c8) _ hC8; have cb8 := cv (c := c0) _ (Kd.C_below HC.out hb); have HB1 := Aside0.mk hb; clear HB HO144 hC8 hc8 hb; have HB := HB1; clear HB1) | (with_reducible go_at_call 10; with_reducible refine (zelligelaw44_lives.calls true _ lives_t).mono ?_; rintro e w4 ⟨rfl, hb⟩; have HB1 := Aside0.mk (below_step HB.out hb); clear HB hb; have HB := HB1; clear HB1) | fail)
  go_ret
  exact ⟨rfl, HB.out⟩
end Go.Proofs.Ytbmeleolpemakaa.Pk
