/- PackLong, walked by hand. -/
import Derived.Test.YtbmeleolpemakaaPackWU
import Derived.Test.YtbmeleolpemakaaFstringsHasPrefix
import Derived.Test.YtbmeleolpemakaaFx0
import Derived.OpenShut
namespace Go.Proofs.Ytbmeleolpemakaa.Pk
open Go Go.RowKit Go.Proofs.YtbmeleolpemakaaW.PrintWords Go.Proofs.YtbmeleolpemakaaW.PrintLast Go.Proofs.YtbmeleolpemakaaW.PrintMore Go.Proofs.Ytbmeleolpemakaa.F
set_option linter.unusedVariables false
set_option linter.unusedSimpArgs false
theorem k50_zero (W : World) (b : Nat) (ok : Nat → Prop) : k50.M W b ok (⟨0, 0, 0⟩ : S50) (Value.agg #[.int .i64 0, .int .i64 0, .int .i64 0]).cells.toList := k50_mkM W b ok ⟨0, 0, 0⟩
theorem packLong_y (l : List S50) (M : Nat) (hM : M = l.length) (A3 : Option Addr) (c3 : Nat) (r1 : List Int) (r2 : Int) (w0 w : World) (hb : Below w0.heap.size w0 w) (hR : Kd.R k50 50 w w0.heap.size (fun _ => True) (.slice A3 M c3) l) (h : pack_Pack.f 1 1 1 l [] = some (r1, r2)) :
    Calls Try.prog 14 #[.agg #[.int .i64 1, .int .i64 1, .int .i64 1, .slice A3 M c3, .slice none 0 0]] w fun e w' => ∃ (A : Option Addr) (c : Nat), e = .returned (.tuple #[.slice A r1.length c, .int .i64 r2]) ∧ Below w0.heap.size w0 w' ∧ Below w.heap.size w w' := by
  subst hM
  have q := Kd.R_reads' hR
  refine (pack_Pack.calls 1 1 1 A3 c3 l none 0 [] r1 r2 w q.2.2 q.2.1 (Kd.C_nil _ _) (Nat.le_refl _) h).mono ?_
  rintro e w' ⟨v, rfl, hR', hb'⟩
  obtain ⟨A, c, rfl⟩ := Kd.R_slice hR'
  exact ⟨A, c, rfl, below_step hb hb', hb'⟩
theorem unpack_y (ad : Addr) (c m : Nat) (E : Int) (hE : E = if m + 2 > 1048576 then 5 else 17) (w0 w : World) (hb : Below w0.heap.size w0 w) (hR : Kd.R (Kd.int .u8) 5 w w0.heap.size (fun _ => True) (.slice (some ad) (m + 2) c) (List.replicate (m + 2) 0)) :
    Calls Try.prog 15 #[.slice (some ad) (m + 2) c] w fun e w' => e = .returned (.tuple #[.agg #[.int .i64 0, .int .i64 0, .int .i64 0, .slice none 0 0, .slice none 0 0], .int .i64 0, .int .i64 E]) ∧ Below w0.heap.size w0 w' := by
  have q := Kd.R_reads' hR
  have hC := q.2.2
  rw [List.length_replicate] at hC
  by_cases h : m + 2 > 1048576
  · rw [if_pos h] at hE
    subst hE
    refine (unpack_many (some ad) c (m + 2) w h).mono ?_
    rintro e w' ⟨rfl, hb'⟩
    exact ⟨rfl, below_step hb hb'⟩
  · rw [if_neg h] at hE
    subst hE
    refine (unpack_zero ad c m w hC q.2.1 h).mono ?_
    rintro e w' ⟨rfl, hb'⟩
    exact ⟨rfl, below_step hb hb'⟩
set_option maxHeartbeats 4000000 in
theorem long_walk (n many : Int) (M m : Nat) (hM : (349500 + many % 64).toNat = M) (hm2 : (1048570 + n % 16).toNat = m + 2) (w : World) (hn : 0 ≤ n ∧ n ≤ 255) (hm : 0 ≤ many ∧ many ≤ 255)
    (r1 : List Int) (r2 : Int) (n1 : Nat) (bl b2 : Bool) (E : Int) (hp : pack_Pack.f 1 1 1 (List.replicate M ⟨0, 0, 0⟩) [] = some (r1, r2)) (hn1 : r1.length = n1) (h1 : (r2 == 5) = bl) (h2 : (r2 == 0) = !bl) (h3 : ((n1 : Int) == 0) = bl) (h4 : decide (1048576 < 9 + 3 * (M : Int)) = bl)
    (hE : E = if m + 2 > 1048576 then 5 else 17) (h5 : (E == 5) = b2) (h6 : decide (6 < n % 16) = b2) :
    Calls Try.prog 7 #[.int .u8 n, .int .u8 many] w fun e w' => e = .returned (.bool true) ∧ Below w.heap.size w w' := by
  have HB := Aside0.mk (Below.refl w.heap.size w)
  have HM := Aside0.mk hM
  have HM2 := Aside0.mk hm2
  have HE := Aside0.mk hE
  have HP := Aside0.mk hp
  have HN1 := Aside0.mk hn1
  have b1 : M ≤ 349563 := by omega
  have w3 : IntKind.i64.wrap (3 * (M : Int)) = 3 * (M : Int) := by rw [IntKind.wrap_i64]; omega
  have w9 : IntKind.i64.wrap (9 + 3 * (M : Int)) = 9 + 3 * (M : Int) := by rw [IntKind.wrap_i64]; omega
  clear hM hm2 hE hp hn1
  go_enter Try.func7, Try.ntmps7
  go_wp2_with (first | ((with_reducible refine gate_dst (N := 16) rfl ?_); refine Kd.R_make k50 (w0 := w) w.heap.size 50 ?hg (N := 16) ?hd 33 (.tmp 15) (.tmp 15) rfl (349500 + many % 64) rfl rfl Try.underlying33 (.agg #[.int .i64 0, .int .i64 0, .int .i64 0]) 24 info50 rfl (by decide) (by decide) ⟨0, 0, 0⟩ (ok := fun _ => True) (okp := fun _ => True) (k50_zero _ _ _) (fun _ h => h) trivial (by omega) (by omega) HB.out (Nat.le_refl _) ?_; (case hd => rfl); (case hg => rfl); intro v16 w1 ho hb hg_ hnew_; clear hg_ hnew_; rw [HM.out] at ho; have HO := Aside0.mk ho; have HB1 := Aside0.mk hb; clear HB ho hb; obtain ⟨A3, c3, ev⟩ := Kd.R_slice HO.out; rw [List.length_replicate] at ev; subst ev) | fail)
  have HF := Aside0.mk (blk_new w1 (.cells #[.int .i64 1, .int .i64 1, .int .i64 1, .slice A3 M c3, .slice none 0 0] 36))
  have HO2 := Aside0.mk (Kd.R_alloc HO.out (.cells #[.int .i64 1, .int .i64 1, .int .i64 1, .slice A3 M c3, .slice none 0 0] 36))
  have HB2 := Aside0.mk (below_alloc HB1.out (.cells #[.int .i64 1, .int .i64 1, .int .i64 1, .slice A3 M c3, .slice none 0 0] 36))
  clear HO HB1
  obtain ⟨g, hg⟩ : ∃ g, w1.heap.size = g := ⟨_, rfl⟩
  rw [hg] at HF ⊢
  generalize w1.alloc (.cells #[.int .i64 1, .int .i64 1, .int .i64 1, .slice A3 M c3, .slice none 0 0] 36) = w2 at HF HO2 HB2 ⊢
  clear hg
  with_reducible refine (packLong_y (List.replicate M ⟨0, 0, 0⟩) M (List.length_replicate).symm A3 c3 r1 r2 w _ HB2.out HO2.out HP.out).mono ?_
  rintro e w4 ⟨A6, c6, rfl, hb4, hb5⟩
  have hf3 := (blk_cell (blk_below HF.out hb5) 3).trans rfl
  have HB := Aside0.mk hb4
  rw [HN1.out]
  clear hb4 hb5 HB2 HO2 HF
  go_wp2_with (first | ((with_reducible refine gate_dst (N := 34) rfl ?_); refine Kd.R_make (Kd.int .u8) (w0 := w) w.heap.size 5 ?hg (N := 34) ?hd 22 (.tmp 33) (.tmp 33) rfl (1048570 + n % 16) rfl rfl Try.underlying22 (.int .u8 0) 1 info5 rfl (by decide) (by decide) 0 (ok := fun _ => True) (okp := fun _ => True) rfl (fun _ h => h) trivial (by omega) (by omega) HB.out (below_size HB.out) ?_; (case hd => rfl); (case hg => rfl); intro v34 w5 ho hb hg_ hnew_; clear hg_ hnew_; rw [HM2.out] at ho; have HO := Aside0.mk ho; have HB1 := Aside0.mk hb; clear HB ho hb; obtain ⟨ad, c5, ev⟩ := Kd.R_slice1 HO.out (by rw [List.length_replicate]; omega); rw [List.length_replicate] at ev; subst ev) | fail)
  with_reducible refine (unpack_y ad c5 m E HE.out w _ HB1.out HO.out).mono ?_
  rintro e w6 ⟨rfl, hb6⟩
  have HB := Aside0.mk hb6
  clear hb6 HB1 HO hf3 w3 w9
  have HB7 := Aside0.mk (below_alloc HB.out (.cells #[.int .i64 0, .int .i64 0, .int .i64 0, .slice none 0 0, .slice none 0 0] 36))
  go_wp2_with (first | (with_reducible go_at_call 10; with_reducible refine (zelligelaw44_lives.calls true _ lives_t).mono ?_; rintro e w8 ⟨rfl, hb⟩; have HB8 := Aside0.mk (below_step HB7.out hb); clear hb) | fail)
  go_ret
  exact ⟨rfl, HB8.out⟩
end Go.Proofs.Ytbmeleolpemakaa.Pk
