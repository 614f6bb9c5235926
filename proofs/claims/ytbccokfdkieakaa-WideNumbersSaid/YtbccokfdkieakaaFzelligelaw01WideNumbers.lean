import Derived.Test.YtbccokfdkieakaaFx0
import Derived.Test.YtbccokfdkieakaaFx1
import Derived.Test.YtbccokfdkieakaaFwideOf
import Derived.Test.YtbccokfdkieakaaFwideMul
import Derived.Test.YtbccokfdkieakaaFzelligelaw01lives
import Derived.Test.YtbccokfdkieakaaFwideSign
import Derived.Test.YtbccokfdkieakaaFwideCmp
namespace Go.Proofs.Ytbccokfdkieakaa.F
open Go.RowKit Go.Proofs.YtbccokfdkieakaaW.PrintWords Go.Proofs.YtbccokfdkieakaaW.PrintLast Go.Proofs.YtbccokfdkieakaaW.PrintMore
attribute [local go_sem] max2_int min2_int max_two min_two max_three min_three max_four min_four   -- for this text's walks alone
set_option linter.unusedVariables false
set_option linter.unusedSimpArgs false

attribute [local go_sem high] eqA24
/-! ### zelligelaw01_WideNumbers: function 6 -/
mutual
def zelligelaw01_WideNumbers.j0 : Nat → Int → Int → Int → Option (Bool)
  | 0, _, _, _ => none
  | k + 1, x0, x1, x5 => if x0 > x1 then (zelligelaw01_WideNumbers.j1 k x0 x1 1) else (zelligelaw01_WideNumbers.j1 k x0 x1 x5)
def zelligelaw01_WideNumbers.j1 : Nat → Int → Int → Int → Option (Bool)
  | 0, _, _, _ => none
  | k + 1, x0, x1, x5 => (wide_Of.f x0).bind fun bt264 => ((wide_Of.f x1).bind fun bt266 => ((wide_Cmp.f bt264.1 bt264.2 bt266.1 bt266.2).bind fun t268 => (if t268 = x5 then ((wide_Mul.f x0 x1).bind fun bt269 => ((wide_Sign.f bt269.1 bt269.2).bind fun t271 => ((wide_Of.f x0).bind fun bt272 => ((wide_Sign.f bt272.1 bt272.2).bind fun t274 => ((wide_Of.f x1).bind fun bt275 => ((wide_Sign.f bt275.1 bt275.2).bind fun t277 => (if t271 = (wrap64 (t274 * t277)) then ((wide_Mul.f x0 x1).bind fun bt278 => ((wide_Mul.f x1 x0).bind fun bt280 => (if (bt278.1 == bt280.1 && (bt278.2 == bt280.2)) = true then ((zelligelaw01_lives.f).bind fun t282 => (some t282)) else (some false)))) else (some false)))))))) else (some false))))
end
def zelligelaw01_WideNumbers.f (k : Nat) (a0 : Int) (a1 : Int) : Option (Bool) := if a0 < a1 then (zelligelaw01_WideNumbers.j0 k a0 a1 (-1)) else (zelligelaw01_WideNumbers.j0 k a0 a1 0)
theorem zelligelaw01_WideNumbers.mono_l : ∀ k, (∀ y0 y1 y2, LeO (zelligelaw01_WideNumbers.j0 k y0 y1 y2) (zelligelaw01_WideNumbers.j0 (k + 1) y0 y1 y2)) ∧ (∀ y0 y1 y2, LeO (zelligelaw01_WideNumbers.j1 k y0 y1 y2) (zelligelaw01_WideNumbers.j1 (k + 1) y0 y1 y2))
  | 0 => ⟨fun _ _ _ r h => by simp [zelligelaw01_WideNumbers.j0] at h, fun _ _ _ r h => by simp [zelligelaw01_WideNumbers.j1] at h⟩
  | k + 1 => by
    obtain ⟨ih0, ih1⟩ := zelligelaw01_WideNumbers.mono_l k
    refine ⟨?_, ?_⟩
    · intro y0 y1 y2
      unfold zelligelaw01_WideNumbers.j0
      repeat' first
      | (with_reducible exact ih0 _ _ _)
      | (with_reducible exact ih1 _ _ _)
      | (with_reducible exact LeO.refl _)
      | (with_reducible exact LeO.none _)
      | (with_reducible refine LeO.ite ?_ ?_)
      | (with_reducible refine LeO.bind ?_ (fun _ => ?_))
      | exact ih0 _ _ _
      | exact ih1 _ _ _
      | exact LeO.none _
      | refine LeO.ite ?_ ?_
      | refine LeO.bind ?_ (fun _ => ?_)
    · intro y0 y1 y2
      unfold zelligelaw01_WideNumbers.j1
      repeat' first
      | (with_reducible exact ih0 _ _ _)
      | (with_reducible exact ih1 _ _ _)
      | (with_reducible exact LeO.refl _)
      | (with_reducible exact LeO.none _)
      | (with_reducible refine LeO.ite ?_ ?_)
      | (with_reducible refine LeO.bind ?_ (fun _ => ?_))
      | exact ih0 _ _ _
      | exact ih1 _ _ _
      | exact LeO.none _
      | refine LeO.ite ?_ ?_
      | refine LeO.bind ?_ (fun _ => ?_)
theorem zelligelaw01_WideNumbers.mono : ∀ a0 a1 k, LeO (zelligelaw01_WideNumbers.f k a0 a1) (zelligelaw01_WideNumbers.f (k + 1) a0 a1) := by
  intro a0 a1 k
  obtain ⟨ih0, ih1⟩ := zelligelaw01_WideNumbers.mono_l k
  unfold zelligelaw01_WideNumbers.f
  repeat' first
      | (with_reducible exact ih0 _ _ _)
      | (with_reducible exact ih1 _ _ _)
      | (with_reducible exact LeO.refl _)
      | (with_reducible exact LeO.none _)
      | (with_reducible refine LeO.ite ?_ ?_)
      | (with_reducible refine LeO.bind ?_ (fun _ => ?_))
      | exact ih0 _ _ _
      | exact ih1 _ _ _
      | exact LeO.none _
      | refine LeO.ite ?_ ?_
      | refine LeO.bind ?_ (fun _ => ?_)
set_option maxHeartbeats 8000000 in
set_option maxRecDepth 100000 in
theorem zelligelaw01_WideNumbers.calls (k : Nat) (a0 : Int) (a1 : Int) (r : Bool) (w : World) (h : zelligelaw01_WideNumbers.f k a0 a1 = some r) :
    Calls Try.prog 6 #[.int .i64 a0, .int .i64 a1] w fun e w' => e = .returned (.bool r) ∧ Below w.heap.size w w' := by
  have HB := Aside0.mk (Below.refl w.heap.size w)
  have H : (if a0 < a1 then (zelligelaw01_WideNumbers.j0 k a0 a1 (-1)) else (zelligelaw01_WideNumbers.j0 k a0 a1 0)) = some r := h
  clear h
  have HC3 := Aside0.mk H
  clear H
  go_enter Try.func6, Try.ntmps6
  go_upto_if 8 with (fail)
  go_cut [5] (fun v5 wc => ∃ (kq : Nat) (x5_2 : Int), v5 = .int .i64 x5_2 ∧ Aside0 (zelligelaw01_WideNumbers.j0 kq a0 a1 x5_2 = some r) ∧ Aside0 (kq ≤ k) ∧ Aside0 (Below w.heap.size w wc))
  case first =>
    have H := HC3.out
    clear HC3
    by_cases c4 : a0 < a1
    · rw [if_pos c4] at H
      have c4b0 : decide (a0 < a1) = true := decide_eq_true c4
      clear c4
      (first | rw [c4b0] | (simp only [i64_w, i32_w]; rw [c4b0]) | skip)
      have H' := Aside0.mk H
      clear H
      go_wp2
      go_meet
      case rel => exact ⟨_, ((-1)), (by first | rfl | (simp; done) | (simp [*]; done)), H', ⟨by first | omega | exact Nat.le_refl _⟩, ⟨by repeat (first | (with_reducible first | exact HB.out | apply below_alloc | apply pw_below_drewN | apply below_drew1) | exact HB.out)⟩⟩
    · rw [if_neg c4] at H
      have c4b0 : decide (a0 < a1) = false := decide_eq_false c4
      clear c4
      (first | rw [c4b0] | (simp only [i64_w, i32_w]; rw [c4b0]) | skip)
      have H' := Aside0.mk H
      clear H
      go_wp2
      go_meet
      case rel => exact ⟨_, (0), (by first | rfl | (simp; done) | (simp [*]; done)), H', ⟨by first | omega | exact Nat.le_refl _⟩, ⟨by repeat (first | (with_reducible first | exact HB.out | apply below_alloc | apply pw_below_drewN | apply below_drew1) | exact HB.out)⟩⟩
  case rest =>
    clear HC3
    try clear p2
    try clear c4
    try clear c4b0
    obtain ⟨kq, x5_2, rfl, HA, HJ2, HB⟩ := hcut
    cases kq with
    | zero => exact absurd HA.out (by simp [zelligelaw01_WideNumbers.j0])
    | succ kj2 =>
      have H := HA.out
      clear HA
      simp only [zelligelaw01_WideNumbers.j0] at H
      have HC5 := Aside0.mk H
      clear H
      go_upto_if 11 with (fail)
      go_cut [5] (fun v5 wc => ∃ (kq : Nat) (x5_4 : Int), v5 = .int .i64 x5_4 ∧ Aside0 (zelligelaw01_WideNumbers.j1 kq a0 a1 x5_4 = some r) ∧ Aside0 (kq ≤ kj2) ∧ Aside0 (Below w.heap.size w wc))
      case first =>
        have H := HC5.out
        clear HC5
        by_cases c6 : a0 > a1
        · rw [if_pos c6] at H
          have c6b0 : decide (a1 < a0) = true := decide_eq_true c6
          clear c6
          (first | rw [c6b0] | (simp only [i64_w, i32_w]; rw [c6b0]) | skip)
          have H' := Aside0.mk H
          clear H
          go_wp2
          go_meet
          case rel => exact ⟨_, (1), (by first | rfl | (simp; done) | (simp [*]; done)), H', ⟨by have := HJ2.out; first | omega | exact Nat.le_refl _⟩, ⟨by repeat (first | (with_reducible first | exact HB.out | apply below_alloc | apply pw_below_drewN | apply below_drew1) | exact HB.out)⟩⟩
        · rw [if_neg c6] at H
          have c6b0 : decide (a1 < a0) = false := decide_eq_false c6
          clear c6
          (first | rw [c6b0] | (simp only [i64_w, i32_w]; rw [c6b0]) | skip)
          have H' := Aside0.mk H
          clear H
          go_wp2
          go_meet
          case rel => exact ⟨_, (x5_2), (by first | rfl | (simp; done) | (simp [*]; done)), H', ⟨by have := HJ2.out; first | omega | exact Nat.le_refl _⟩, ⟨by repeat (first | (with_reducible first | exact HB.out | apply below_alloc | apply pw_below_drewN | apply below_drew1) | exact HB.out)⟩⟩
      case rest =>
        clear HC5
        try clear p2
        try clear c4
        try clear c4b0
        try clear c6
        try clear c6b0
        try clear p2
        obtain ⟨kq, x5_4, rfl, HA, HJ4, HB⟩ := hcut
        cases kq with
        | zero => exact absurd HA.out (by simp [zelligelaw01_WideNumbers.j1])
        | succ kj4 =>
          have H := HA.out
          clear HA
          simp only [zelligelaw01_WideNumbers.j1] at H
          replace H := Option.bind_eq_some_iff.mp H
          obtain ⟨⟨t264, t265⟩, A70, H⟩ := H
          replace H : ((wide_Of.f a1).bind fun bt266 => ((wide_Cmp.f t264 t265 bt266.1 bt266.2).bind fun t268 => (if t268 = x5_4 then ((wide_Mul.f a0 a1).bind fun bt269 => ((wide_Sign.f bt269.1 bt269.2).bind fun t271 => ((wide_Of.f a0).bind fun bt272 => ((wide_Sign.f bt272.1 bt272.2).bind fun t274 => ((wide_Of.f a1).bind fun bt275 => ((wide_Sign.f bt275.1 bt275.2).bind fun t277 => (if t271 = (wrap64 (t274 * t277)) then ((wide_Mul.f a0 a1).bind fun bt278 => ((wide_Mul.f a1 a0).bind fun bt280 => (if (bt278.1 == bt280.1 && (bt278.2 == bt280.2)) = true then ((zelligelaw01_lives.f).bind fun t282 => (some t282)) else (some false)))) else (some false)))))))) else (some false)))) = some r := H
          have A7 := Aside0.mk A70
          clear A70
          replace H := Option.bind_eq_some_iff.mp H
          obtain ⟨⟨t266, t267⟩, A80, H⟩ := H
          replace H : ((wide_Cmp.f t264 t265 t266 t267).bind fun t268 => (if t268 = x5_4 then ((wide_Mul.f a0 a1).bind fun bt269 => ((wide_Sign.f bt269.1 bt269.2).bind fun t271 => ((wide_Of.f a0).bind fun bt272 => ((wide_Sign.f bt272.1 bt272.2).bind fun t274 => ((wide_Of.f a1).bind fun bt275 => ((wide_Sign.f bt275.1 bt275.2).bind fun t277 => (if t271 = (wrap64 (t274 * t277)) then ((wide_Mul.f a0 a1).bind fun bt278 => ((wide_Mul.f a1 a0).bind fun bt280 => (if (bt278.1 == bt280.1 && (bt278.2 == bt280.2)) = true then ((zelligelaw01_lives.f).bind fun t282 => (some t282)) else (some false)))) else (some false)))))))) else (some false))) = some r := H
          have A8 := Aside0.mk A80
          clear A80
          replace H := Option.bind_eq_some_iff.mp H
          obtain ⟨t268, A90, H⟩ := H
          replace H : (if t268 = x5_4 then ((wide_Mul.f a0 a1).bind fun bt269 => ((wide_Sign.f bt269.1 bt269.2).bind fun t271 => ((wide_Of.f a0).bind fun bt272 => ((wide_Sign.f bt272.1 bt272.2).bind fun t274 => ((wide_Of.f a1).bind fun bt275 => ((wide_Sign.f bt275.1 bt275.2).bind fun t277 => (if t271 = (wrap64 (t274 * t277)) then ((wide_Mul.f a0 a1).bind fun bt278 => ((wide_Mul.f a1 a0).bind fun bt280 => (if (bt278.1 == bt280.1 && (bt278.2 == bt280.2)) = true then ((zelligelaw01_lives.f).bind fun t282 => (some t282)) else (some false)))) else (some false)))))))) else (some false)) = some r := H
          have A9 := Aside0.mk A90
          clear A90
          by_cases c10 : t268 = x5_4
          · rw [if_pos c10] at H
            have c10b0 : (t268 == x5_4) = true := beq_iff_eq.mpr c10
            have c10b1 : (t268 != x5_4) = false := bne_eq_false_iff_eq.mpr c10
            clear c10
            replace H := Option.bind_eq_some_iff.mp H
            obtain ⟨⟨t269, t270⟩, A110, H⟩ := H
            replace H : ((wide_Sign.f t269 t270).bind fun t271 => ((wide_Of.f a0).bind fun bt272 => ((wide_Sign.f bt272.1 bt272.2).bind fun t274 => ((wide_Of.f a1).bind fun bt275 => ((wide_Sign.f bt275.1 bt275.2).bind fun t277 => (if t271 = (wrap64 (t274 * t277)) then ((wide_Mul.f a0 a1).bind fun bt278 => ((wide_Mul.f a1 a0).bind fun bt280 => (if (bt278.1 == bt280.1 && (bt278.2 == bt280.2)) = true then ((zelligelaw01_lives.f).bind fun t282 => (some t282)) else (some false)))) else (some false))))))) = some r := H
            have A11 := Aside0.mk A110
            clear A110
            replace H := Option.bind_eq_some_iff.mp H
            obtain ⟨t271, A120, H⟩ := H
            replace H : ((wide_Of.f a0).bind fun bt272 => ((wide_Sign.f bt272.1 bt272.2).bind fun t274 => ((wide_Of.f a1).bind fun bt275 => ((wide_Sign.f bt275.1 bt275.2).bind fun t277 => (if t271 = (wrap64 (t274 * t277)) then ((wide_Mul.f a0 a1).bind fun bt278 => ((wide_Mul.f a1 a0).bind fun bt280 => (if (bt278.1 == bt280.1 && (bt278.2 == bt280.2)) = true then ((zelligelaw01_lives.f).bind fun t282 => (some t282)) else (some false)))) else (some false)))))) = some r := H
            have A12 := Aside0.mk A120
            clear A120
            replace H := Option.bind_eq_some_iff.mp H
            obtain ⟨⟨t272, t273⟩, A130, H⟩ := H
            replace H : ((wide_Sign.f t272 t273).bind fun t274 => ((wide_Of.f a1).bind fun bt275 => ((wide_Sign.f bt275.1 bt275.2).bind fun t277 => (if t271 = (wrap64 (t274 * t277)) then ((wide_Mul.f a0 a1).bind fun bt278 => ((wide_Mul.f a1 a0).bind fun bt280 => (if (bt278.1 == bt280.1 && (bt278.2 == bt280.2)) = true then ((zelligelaw01_lives.f).bind fun t282 => (some t282)) else (some false)))) else (some false))))) = some r := H
            have A13 := Aside0.mk A130
            clear A130
            replace H := Option.bind_eq_some_iff.mp H
            obtain ⟨t274, A140, H⟩ := H
            replace H : ((wide_Of.f a1).bind fun bt275 => ((wide_Sign.f bt275.1 bt275.2).bind fun t277 => (if t271 = (wrap64 (t274 * t277)) then ((wide_Mul.f a0 a1).bind fun bt278 => ((wide_Mul.f a1 a0).bind fun bt280 => (if (bt278.1 == bt280.1 && (bt278.2 == bt280.2)) = true then ((zelligelaw01_lives.f).bind fun t282 => (some t282)) else (some false)))) else (some false)))) = some r := H
            have A14 := Aside0.mk A140
            clear A140
            replace H := Option.bind_eq_some_iff.mp H
            obtain ⟨⟨t275, t276⟩, A150, H⟩ := H
            replace H : ((wide_Sign.f t275 t276).bind fun t277 => (if t271 = (wrap64 (t274 * t277)) then ((wide_Mul.f a0 a1).bind fun bt278 => ((wide_Mul.f a1 a0).bind fun bt280 => (if (bt278.1 == bt280.1 && (bt278.2 == bt280.2)) = true then ((zelligelaw01_lives.f).bind fun t282 => (some t282)) else (some false)))) else (some false))) = some r := H
            have A15 := Aside0.mk A150
            clear A150
            replace H := Option.bind_eq_some_iff.mp H
            obtain ⟨t277, A160, H⟩ := H
            replace H : (if t271 = (wrap64 (t274 * t277)) then ((wide_Mul.f a0 a1).bind fun bt278 => ((wide_Mul.f a1 a0).bind fun bt280 => (if (bt278.1 == bt280.1 && (bt278.2 == bt280.2)) = true then ((zelligelaw01_lives.f).bind fun t282 => (some t282)) else (some false)))) else (some false)) = some r := H
            have A16 := Aside0.mk A160
            clear A160
            by_cases c17 : t271 = (wrap64 (t274 * t277))
            · rw [if_pos c17] at H
              have c17b0 : (t271 == (wrap64 (t274 * t277))) = true := beq_iff_eq.mpr c17
              have c17b1 : (t271 != (wrap64 (t274 * t277))) = false := bne_eq_false_iff_eq.mpr c17
              clear c17
              replace H := Option.bind_eq_some_iff.mp H
              obtain ⟨⟨t278, t279⟩, A180, H⟩ := H
              replace H : ((wide_Mul.f a1 a0).bind fun bt280 => (if (t278 == bt280.1 && (t279 == bt280.2)) = true then ((zelligelaw01_lives.f).bind fun t282 => (some t282)) else (some false))) = some r := H
              have A18 := Aside0.mk A180
              clear A180
              replace H := Option.bind_eq_some_iff.mp H
              obtain ⟨⟨t280, t281⟩, A190, H⟩ := H
              replace H : (if (t278 == t280 && (t279 == t281)) = true then ((zelligelaw01_lives.f).bind fun t282 => (some t282)) else (some false)) = some r := H
              have A19 := Aside0.mk A190
              clear A190
              by_cases c20 : (t278 == t280 && (t279 == t281)) = true
              · rw [if_pos c20] at H
                have c20b0 : (t278 == t280 && (t279 == t281)) = true := c20
                (try (have c20b1 : decide (t278 = t280 && (t279 == t281)) = true := by simpa using c20))
                (try (have c20b2 : (t278 == t280 && (t279 == t281)) = true := by simpa using c20))
                clear c20
                replace H := Option.bind_eq_some_iff.mp H
                obtain ⟨t282, A210, H⟩ := H
                replace H : (some t282) = some r := H
                have A21 := Aside0.mk A210
                clear A210
                obtain rfl := Option.some.inj H
                go_wp2_with (first | ((with_reducible refine gate_callee (f := 11) rfl ?_); refine goesL_ (some 13) rfl rfl Try.func11 (by kernel_rfl) rfl #[.int .i64 a0] rfl (by (try simp only [List.map_toArray, List.map_cons, List.map_nil]); first | done | rfl | (simp only [List.length_drop, List.length_take]; rfl)) ?_; (with_reducible refine (wide_Of.calls a0 t264 t265 _ A7.out).mono ?_); rintro e w22 ⟨rfl, hb⟩; clear A7; refine ⟨_, rfl, ?_⟩; have n0_ := Aside0.mk (below_step (by repeat (first | (with_reducible first | exact HB.out | apply below_alloc | apply pw_below_drewN | apply below_drew1) | exact HB.out)) hb); clear HB; have HB := n0_; clear n0_; (try clear hb); (try clear hb2); (try clear hk); (try clear hi)) | ((with_reducible refine gate_callee (f := 11) rfl ?_); refine goesL_ (some 15) rfl rfl Try.func11 (by kernel_rfl) rfl #[.int .i64 a1] rfl (by (try simp only [List.map_toArray, List.map_cons, List.map_nil]); first | done | rfl | (simp only [List.length_drop, List.length_take]; rfl)) ?_; (with_reducible refine (wide_Of.calls a1 t266 t267 _ A8.out).mono ?_); rintro e w23 ⟨rfl, hb⟩; clear A8; refine ⟨_, rfl, ?_⟩; have n0_ := Aside0.mk (below_step (by repeat (first | (with_reducible first | exact HB.out | apply below_alloc | apply pw_below_drewN | apply below_drew1) | exact HB.out)) hb); clear HB; have HB := n0_; clear n0_; (try clear hb); (try clear hb2); (try clear hk); (try clear hi)) | ((with_reducible refine gate_callee (f := 22) rfl ?_); refine goesL_ (some 16) rfl rfl Try.func22 (by kernel_rfl) rfl #[.agg #[.int .i64 t264, .int .u64 t265], .agg #[.int .i64 t266, .int .u64 t267]] rfl (by (try simp only [List.map_toArray, List.map_cons, List.map_nil]); first | done | rfl | (simp only [List.length_drop, List.length_take]; rfl)) ?_; (with_reducible refine (wide_Cmp.calls t264 t265 t266 t267 t268 _ A9.out).mono ?_); rintro e w24 ⟨rfl, hb⟩; refine ⟨_, rfl, ?_⟩; have n0_ := Aside0.mk (below_step (by repeat (first | (with_reducible first | exact HB.out | apply below_alloc | apply pw_below_drewN | apply below_drew1) | exact HB.out)) hb); clear HB; have HB := n0_; clear n0_; (try clear hb); (try clear hb2); (try clear hk); (try clear hi)) | (go_at_call 12; (with_reducible refine (wide_Mul.calls a0 a1 t269 t270 _ A11.out).mono ?_); rintro e w25 ⟨rfl, hb⟩; clear A11; have n0_ := Aside0.mk (below_step (by repeat (first | (with_reducible first | exact HB.out | apply below_alloc | apply pw_below_drewN | apply below_drew1) | exact HB.out)) hb); clear HB; have HB := n0_; clear n0_; (try clear hb); (try clear hb2); (try clear hk); (try clear hi)) | (go_at_call 23; (with_reducible refine (wide_Sign.calls t269 t270 t271 _ A12.out).mono ?_); rintro e w26 ⟨rfl, hb⟩; clear A12; have n0_ := Aside0.mk (below_step (by repeat (first | (with_reducible first | exact HB.out | apply below_alloc | apply pw_below_drewN | apply below_drew1) | exact HB.out)) hb); clear HB; have HB := n0_; clear n0_; (try clear hb); (try clear hb2); (try clear hk); (try clear hi)) | (go_at_call 11; (with_reducible refine (wide_Of.calls a0 t272 t273 _ A13.out).mono ?_); rintro e w27 ⟨rfl, hb⟩; clear A13; have n0_ := Aside0.mk (below_step (by repeat (first | (with_reducible first | exact HB.out | apply below_alloc | apply pw_below_drewN | apply below_drew1) | exact HB.out)) hb); clear HB; have HB := n0_; clear n0_; (try clear hb); (try clear hb2); (try clear hk); (try clear hi)) | (go_at_call 23; (with_reducible refine (wide_Sign.calls t272 t273 t274 _ A14.out).mono ?_); rintro e w28 ⟨rfl, hb⟩; clear A14; have n0_ := Aside0.mk (below_step (by repeat (first | (with_reducible first | exact HB.out | apply below_alloc | apply pw_below_drewN | apply below_drew1) | exact HB.out)) hb); clear HB; have HB := n0_; clear n0_; (try clear hb); (try clear hb2); (try clear hk); (try clear hi)) | (go_at_call 11; (with_reducible refine (wide_Of.calls a1 t275 t276 _ A15.out).mono ?_); rintro e w29 ⟨rfl, hb⟩; clear A15; have n0_ := Aside0.mk (below_step (by repeat (first | (with_reducible first | exact HB.out | apply below_alloc | apply pw_below_drewN | apply below_drew1) | exact HB.out)) hb); clear HB; have HB := n0_; clear n0_; (try clear hb); (try clear hb2); (try clear hk); (try clear hi)) | (go_at_call 23; (with_reducible refine (wide_Sign.calls t275 t276 t277 _ A16.out).mono ?_); rintro e w30 ⟨rfl, hb⟩; clear A16; have n0_ := Aside0.mk (below_step (by repeat (first | (with_reducible first | exact HB.out | apply below_alloc | apply pw_below_drewN | apply below_drew1) | exact HB.out)) hb); clear HB; have HB := n0_; clear n0_; (try clear hb); (try clear hb2); (try clear hk); (try clear hi)) | (go_at_call 12; (with_reducible refine (wide_Mul.calls a0 a1 t278 t279 _ A18.out).mono ?_); rintro e w31 ⟨rfl, hb⟩; clear A18; have n0_ := Aside0.mk (below_step (by repeat (first | (with_reducible first | exact HB.out | apply below_alloc | apply pw_below_drewN | apply below_drew1) | exact HB.out)) hb); clear HB; have HB := n0_; clear n0_; (try clear hb); (try clear hb2); (try clear hk); (try clear hi)) | (go_at_call 12; (with_reducible refine (wide_Mul.calls a1 a0 t280 t281 _ A19.out).mono ?_); rintro e w32 ⟨rfl, hb⟩; clear A19; have n0_ := Aside0.mk (below_step (by repeat (first | (with_reducible first | exact HB.out | apply below_alloc | apply pw_below_drewN | apply below_drew1) | exact HB.out)) hb); clear HB; have HB := n0_; clear n0_; (try clear hb); (try clear hb2); (try clear hk); (try clear hi)) | (go_at_call 16; (with_reducible refine (zelligelaw01_lives.calls  t282 _ A21.out).mono ?_); rintro e w33 ⟨rfl, hb⟩; have n0_ := Aside0.mk (below_step (by repeat (first | (with_reducible first | exact HB.out | apply below_alloc | apply pw_below_drewN | apply below_drew1) | exact HB.out)) hb); clear HB; have HB := n0_; clear n0_; (try clear hb); (try clear hb2); (try clear hk); (try clear hi)))
                go_ret
                exact ⟨by first | rfl | (simp [errW_none, errW_some] <;> rfl) | (simp [*, errW_none, errW_some] <;> rfl), by repeat (first | (with_reducible first | exact HB.out | apply below_alloc | apply pw_below_drewN | apply below_drew1) | exact HB.out)⟩
              · rw [if_neg c20] at H
                have c20b0 : (t278 == t280 && (t279 == t281)) = false := by simpa using c20
                (try (have c20b1 : decide (t278 = t280 && (t279 == t281)) = false := by simpa using c20))
                (try (have c20b2 : (t278 == t280 && (t279 == t281)) = false := by simpa using c20))
                (try (have c20b3 : ¬ (t278 = t280 && (t279 == t281)) := by simpa using c20))
                clear c20
                obtain rfl := Option.some.inj H
                go_wp2_with (first | ((with_reducible refine gate_callee (f := 11) rfl ?_); refine goesL_ (some 13) rfl rfl Try.func11 (by kernel_rfl) rfl #[.int .i64 a0] rfl (by (try simp only [List.map_toArray, List.map_cons, List.map_nil]); first | done | rfl | (simp only [List.length_drop, List.length_take]; rfl)) ?_; (with_reducible refine (wide_Of.calls a0 t264 t265 _ A7.out).mono ?_); rintro e w34 ⟨rfl, hb⟩; clear A7; refine ⟨_, rfl, ?_⟩; have n0_ := Aside0.mk (below_step (by repeat (first | (with_reducible first | exact HB.out | apply below_alloc | apply pw_below_drewN | apply below_drew1) | exact HB.out)) hb); clear HB; have HB := n0_; clear n0_; (try clear hb); (try clear hb2); (try clear hk); (try clear hi)) | ((with_reducible refine gate_callee (f := 11) rfl ?_); refine goesL_ (some 15) rfl rfl Try.func11 (by kernel_rfl) rfl #[.int .i64 a1] rfl (by (try simp only [List.map_toArray, List.map_cons, List.map_nil]); first | done | rfl | (simp only [List.length_drop, List.length_take]; rfl)) ?_; (with_reducible refine (wide_Of.calls a1 t266 t267 _ A8.out).mono ?_); rintro e w35 ⟨rfl, hb⟩; clear A8; refine ⟨_, rfl, ?_⟩; have n0_ := Aside0.mk (below_step (by repeat (first | (with_reducible first | exact HB.out | apply below_alloc | apply pw_below_drewN | apply below_drew1) | exact HB.out)) hb); clear HB; have HB := n0_; clear n0_; (try clear hb); (try clear hb2); (try clear hk); (try clear hi)) | ((with_reducible refine gate_callee (f := 22) rfl ?_); refine goesL_ (some 16) rfl rfl Try.func22 (by kernel_rfl) rfl #[.agg #[.int .i64 t264, .int .u64 t265], .agg #[.int .i64 t266, .int .u64 t267]] rfl (by (try simp only [List.map_toArray, List.map_cons, List.map_nil]); first | done | rfl | (simp only [List.length_drop, List.length_take]; rfl)) ?_; (with_reducible refine (wide_Cmp.calls t264 t265 t266 t267 t268 _ A9.out).mono ?_); rintro e w36 ⟨rfl, hb⟩; refine ⟨_, rfl, ?_⟩; have n0_ := Aside0.mk (below_step (by repeat (first | (with_reducible first | exact HB.out | apply below_alloc | apply pw_below_drewN | apply below_drew1) | exact HB.out)) hb); clear HB; have HB := n0_; clear n0_; (try clear hb); (try clear hb2); (try clear hk); (try clear hi)) | (go_at_call 12; (with_reducible refine (wide_Mul.calls a0 a1 t269 t270 _ A11.out).mono ?_); rintro e w37 ⟨rfl, hb⟩; clear A11; have n0_ := Aside0.mk (below_step (by repeat (first | (with_reducible first | exact HB.out | apply below_alloc | apply pw_below_drewN | apply below_drew1) | exact HB.out)) hb); clear HB; have HB := n0_; clear n0_; (try clear hb); (try clear hb2); (try clear hk); (try clear hi)) | (go_at_call 23; (with_reducible refine (wide_Sign.calls t269 t270 t271 _ A12.out).mono ?_); rintro e w38 ⟨rfl, hb⟩; clear A12; have n0_ := Aside0.mk (below_step (by repeat (first | (with_reducible first | exact HB.out | apply below_alloc | apply pw_below_drewN | apply below_drew1) | exact HB.out)) hb); clear HB; have HB := n0_; clear n0_; (try clear hb); (try clear hb2); (try clear hk); (try clear hi)) | (go_at_call 11; (with_reducible refine (wide_Of.calls a0 t272 t273 _ A13.out).mono ?_); rintro e w39 ⟨rfl, hb⟩; clear A13; have n0_ := Aside0.mk (below_step (by repeat (first | (with_reducible first | exact HB.out | apply below_alloc | apply pw_below_drewN | apply below_drew1) | exact HB.out)) hb); clear HB; have HB := n0_; clear n0_; (try clear hb); (try clear hb2); (try clear hk); (try clear hi)) | (go_at_call 23; (with_reducible refine (wide_Sign.calls t272 t273 t274 _ A14.out).mono ?_); rintro e w40 ⟨rfl, hb⟩; clear A14; have n0_ := Aside0.mk (below_step (by repeat (first | (with_reducible first | exact HB.out | apply below_alloc | apply pw_below_drewN | apply below_drew1) | exact HB.out)) hb); clear HB; have HB := n0_; clear n0_; (try clear hb); (try clear hb2); (try clear hk); (try clear hi)) | (go_at_call 11; (with_reducible refine (wide_Of.calls a1 t275 t276 _ A15.out).mono ?_); rintro e w41 ⟨rfl, hb⟩; clear A15; have n0_ := Aside0.mk (below_step (by repeat (first | (with_reducible first | exact HB.out | apply below_alloc | apply pw_below_drewN | apply below_drew1) | exact HB.out)) hb); clear HB; have HB := n0_; clear n0_; (try clear hb); (try clear hb2); (try clear hk); (try clear hi)) | (go_at_call 23; (with_reducible refine (wide_Sign.calls t275 t276 t277 _ A16.out).mono ?_); rintro e w42 ⟨rfl, hb⟩; clear A16; have n0_ := Aside0.mk (below_step (by repeat (first | (with_reducible first | exact HB.out | apply below_alloc | apply pw_below_drewN | apply below_drew1) | exact HB.out)) hb); clear HB; have HB := n0_; clear n0_; (try clear hb); (try clear hb2); (try clear hk); (try clear hi)) | (go_at_call 12; (with_reducible refine (wide_Mul.calls a0 a1 t278 t279 _ A18.out).mono ?_); rintro e w43 ⟨rfl, hb⟩; clear A18; have n0_ := Aside0.mk (below_step (by repeat (first | (with_reducible first | exact HB.out | apply below_alloc | apply pw_below_drewN | apply below_drew1) | exact HB.out)) hb); clear HB; have HB := n0_; clear n0_; (try clear hb); (try clear hb2); (try clear hk); (try clear hi)) | (go_at_call 12; (with_reducible refine (wide_Mul.calls a1 a0 t280 t281 _ A19.out).mono ?_); rintro e w44 ⟨rfl, hb⟩; clear A19; have n0_ := Aside0.mk (below_step (by repeat (first | (with_reducible first | exact HB.out | apply below_alloc | apply pw_below_drewN | apply below_drew1) | exact HB.out)) hb); clear HB; have HB := n0_; clear n0_; (try clear hb); (try clear hb2); (try clear hk); (try clear hi)))
                go_ret
                exact ⟨by first | rfl | (simp [errW_none, errW_some] <;> rfl) | (simp [*, errW_none, errW_some] <;> rfl), by repeat (first | (with_reducible first | exact HB.out | apply below_alloc | apply pw_below_drewN | apply below_drew1) | exact HB.out)⟩
            · rw [if_neg c17] at H
              have c17b0 : (t271 == (wrap64 (t274 * t277))) = false := beq_eq_false_iff_ne.mpr c17
              have c17b1 : (t271 != (wrap64 (t274 * t277))) = true := bne_iff_ne.mpr c17
              obtain rfl := Option.some.inj H
              go_wp2_with (first | ((with_reducible refine gate_callee (f := 11) rfl ?_); refine goesL_ (some 13) rfl rfl Try.func11 (by kernel_rfl) rfl #[.int .i64 a0] rfl (by (try simp only [List.map_toArray, List.map_cons, List.map_nil]); first | done | rfl | (simp only [List.length_drop, List.length_take]; rfl)) ?_; (with_reducible refine (wide_Of.calls a0 t264 t265 _ A7.out).mono ?_); rintro e w45 ⟨rfl, hb⟩; clear A7; refine ⟨_, rfl, ?_⟩; have n0_ := Aside0.mk (below_step (by repeat (first | (with_reducible first | exact HB.out | apply below_alloc | apply pw_below_drewN | apply below_drew1) | exact HB.out)) hb); clear HB; have HB := n0_; clear n0_; (try clear hb); (try clear hb2); (try clear hk); (try clear hi)) | ((with_reducible refine gate_callee (f := 11) rfl ?_); refine goesL_ (some 15) rfl rfl Try.func11 (by kernel_rfl) rfl #[.int .i64 a1] rfl (by (try simp only [List.map_toArray, List.map_cons, List.map_nil]); first | done | rfl | (simp only [List.length_drop, List.length_take]; rfl)) ?_; (with_reducible refine (wide_Of.calls a1 t266 t267 _ A8.out).mono ?_); rintro e w46 ⟨rfl, hb⟩; clear A8; refine ⟨_, rfl, ?_⟩; have n0_ := Aside0.mk (below_step (by repeat (first | (with_reducible first | exact HB.out | apply below_alloc | apply pw_below_drewN | apply below_drew1) | exact HB.out)) hb); clear HB; have HB := n0_; clear n0_; (try clear hb); (try clear hb2); (try clear hk); (try clear hi)) | ((with_reducible refine gate_callee (f := 22) rfl ?_); refine goesL_ (some 16) rfl rfl Try.func22 (by kernel_rfl) rfl #[.agg #[.int .i64 t264, .int .u64 t265], .agg #[.int .i64 t266, .int .u64 t267]] rfl (by (try simp only [List.map_toArray, List.map_cons, List.map_nil]); first | done | rfl | (simp only [List.length_drop, List.length_take]; rfl)) ?_; (with_reducible refine (wide_Cmp.calls t264 t265 t266 t267 t268 _ A9.out).mono ?_); rintro e w47 ⟨rfl, hb⟩; refine ⟨_, rfl, ?_⟩; have n0_ := Aside0.mk (below_step (by repeat (first | (with_reducible first | exact HB.out | apply below_alloc | apply pw_below_drewN | apply below_drew1) | exact HB.out)) hb); clear HB; have HB := n0_; clear n0_; (try clear hb); (try clear hb2); (try clear hk); (try clear hi)) | (go_at_call 12; (with_reducible refine (wide_Mul.calls a0 a1 t269 t270 _ A11.out).mono ?_); rintro e w48 ⟨rfl, hb⟩; have n0_ := Aside0.mk (below_step (by repeat (first | (with_reducible first | exact HB.out | apply below_alloc | apply pw_below_drewN | apply below_drew1) | exact HB.out)) hb); clear HB; have HB := n0_; clear n0_; (try clear hb); (try clear hb2); (try clear hk); (try clear hi)) | (go_at_call 23; (with_reducible refine (wide_Sign.calls t269 t270 t271 _ A12.out).mono ?_); rintro e w49 ⟨rfl, hb⟩; clear A12; have n0_ := Aside0.mk (below_step (by repeat (first | (with_reducible first | exact HB.out | apply below_alloc | apply pw_below_drewN | apply below_drew1) | exact HB.out)) hb); clear HB; have HB := n0_; clear n0_; (try clear hb); (try clear hb2); (try clear hk); (try clear hi)) | (go_at_call 11; (with_reducible refine (wide_Of.calls a0 t272 t273 _ A13.out).mono ?_); rintro e w50 ⟨rfl, hb⟩; clear A13; have n0_ := Aside0.mk (below_step (by repeat (first | (with_reducible first | exact HB.out | apply below_alloc | apply pw_below_drewN | apply below_drew1) | exact HB.out)) hb); clear HB; have HB := n0_; clear n0_; (try clear hb); (try clear hb2); (try clear hk); (try clear hi)) | (go_at_call 23; (with_reducible refine (wide_Sign.calls t272 t273 t274 _ A14.out).mono ?_); rintro e w51 ⟨rfl, hb⟩; clear A14; have n0_ := Aside0.mk (below_step (by repeat (first | (with_reducible first | exact HB.out | apply below_alloc | apply pw_below_drewN | apply below_drew1) | exact HB.out)) hb); clear HB; have HB := n0_; clear n0_; (try clear hb); (try clear hb2); (try clear hk); (try clear hi)) | (go_at_call 11; (with_reducible refine (wide_Of.calls a1 t275 t276 _ A15.out).mono ?_); rintro e w52 ⟨rfl, hb⟩; clear A15; have n0_ := Aside0.mk (below_step (by repeat (first | (with_reducible first | exact HB.out | apply below_alloc | apply pw_below_drewN | apply below_drew1) | exact HB.out)) hb); clear HB; have HB := n0_; clear n0_; (try clear hb); (try clear hb2); (try clear hk); (try clear hi)) | (go_at_call 23; (with_reducible refine (wide_Sign.calls t275 t276 t277 _ A16.out).mono ?_); rintro e w53 ⟨rfl, hb⟩; clear A16; have n0_ := Aside0.mk (below_step (by repeat (first | (with_reducible first | exact HB.out | apply below_alloc | apply pw_below_drewN | apply below_drew1) | exact HB.out)) hb); clear HB; have HB := n0_; clear n0_; (try clear hb); (try clear hb2); (try clear hk); (try clear hi)))
              go_ret
              exact ⟨by first | rfl | (simp [errW_none, errW_some] <;> rfl) | (simp [*, errW_none, errW_some] <;> rfl), by repeat (first | (with_reducible first | exact HB.out | apply below_alloc | apply pw_below_drewN | apply below_drew1) | exact HB.out)⟩
          · rw [if_neg c10] at H
            have c10b0 : (t268 == x5_4) = false := beq_eq_false_iff_ne.mpr c10
            have c10b1 : (t268 != x5_4) = true := bne_iff_ne.mpr c10
            obtain rfl := Option.some.inj H
            go_wp2_with (first | ((with_reducible refine gate_callee (f := 11) rfl ?_); refine goesL_ (some 13) rfl rfl Try.func11 (by kernel_rfl) rfl #[.int .i64 a0] rfl (by (try simp only [List.map_toArray, List.map_cons, List.map_nil]); first | done | rfl | (simp only [List.length_drop, List.length_take]; rfl)) ?_; (with_reducible refine (wide_Of.calls a0 t264 t265 _ A7.out).mono ?_); rintro e w54 ⟨rfl, hb⟩; clear A7; refine ⟨_, rfl, ?_⟩; have n0_ := Aside0.mk (below_step (by repeat (first | (with_reducible first | exact HB.out | apply below_alloc | apply pw_below_drewN | apply below_drew1) | exact HB.out)) hb); clear HB; have HB := n0_; clear n0_; (try clear hb); (try clear hb2); (try clear hk); (try clear hi)) | ((with_reducible refine gate_callee (f := 11) rfl ?_); refine goesL_ (some 15) rfl rfl Try.func11 (by kernel_rfl) rfl #[.int .i64 a1] rfl (by (try simp only [List.map_toArray, List.map_cons, List.map_nil]); first | done | rfl | (simp only [List.length_drop, List.length_take]; rfl)) ?_; (with_reducible refine (wide_Of.calls a1 t266 t267 _ A8.out).mono ?_); rintro e w55 ⟨rfl, hb⟩; clear A8; refine ⟨_, rfl, ?_⟩; have n0_ := Aside0.mk (below_step (by repeat (first | (with_reducible first | exact HB.out | apply below_alloc | apply pw_below_drewN | apply below_drew1) | exact HB.out)) hb); clear HB; have HB := n0_; clear n0_; (try clear hb); (try clear hb2); (try clear hk); (try clear hi)) | ((with_reducible refine gate_callee (f := 22) rfl ?_); refine goesL_ (some 16) rfl rfl Try.func22 (by kernel_rfl) rfl #[.agg #[.int .i64 t264, .int .u64 t265], .agg #[.int .i64 t266, .int .u64 t267]] rfl (by (try simp only [List.map_toArray, List.map_cons, List.map_nil]); first | done | rfl | (simp only [List.length_drop, List.length_take]; rfl)) ?_; (with_reducible refine (wide_Cmp.calls t264 t265 t266 t267 t268 _ A9.out).mono ?_); rintro e w56 ⟨rfl, hb⟩; refine ⟨_, rfl, ?_⟩; have n0_ := Aside0.mk (below_step (by repeat (first | (with_reducible first | exact HB.out | apply below_alloc | apply pw_below_drewN | apply below_drew1) | exact HB.out)) hb); clear HB; have HB := n0_; clear n0_; (try clear hb); (try clear hb2); (try clear hk); (try clear hi)))
            go_ret
            exact ⟨by first | rfl | (simp [errW_none, errW_some] <;> rfl) | (simp [*, errW_none, errW_some] <;> rfl), by repeat (first | (with_reducible first | exact HB.out | apply below_alloc | apply pw_below_drewN | apply below_drew1) | exact HB.out)⟩

/-- THE ONE PURE STATEMENT of zelligelaw01_WideNumbers: yours. -/
def zelligelaw01_WideNumbers.Pure : Prop := ∀ (a0 : Int) (a1 : Int), (Lit.int .i64 a0).wf = true → (Lit.int .i64 a1).wf = true → ∃ k, zelligelaw01_WideNumbers.f k a0 a1 = some true
theorem zelligelaw01_WideNumbers.walk (P : zelligelaw01_WideNumbers.Pure) (a0 : Int) (a1 : Int) (w : World) (w0 : (Lit.int .i64 a0).wf = true) (w1 : (Lit.int .i64 a1).wf = true) :
    Calls Try.prog 6 #[.int .i64 a0, .int .i64 a1] w fun e w' => e = .returned (.bool true) ∧ Below w.heap.size w w' := by
  obtain ⟨k, h⟩ := P a0 a1 w0 w1
  refine (zelligelaw01_WideNumbers.calls k a0 a1 true w h).mono ?_
  rintro e w' ⟨rfl, hd⟩
  exact ⟨rfl, hd⟩

end Go.Proofs.Ytbccokfdkieakaa.F
