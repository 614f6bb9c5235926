import Derived.Test.YtbccokfdkieakaaFx0
import Derived.Test.YtbccokfdkieakaaFwideMul
import Derived.Test.YtbccokfdkieakaaFwideShow
namespace Go.Proofs.Ytbccokfdkieakaa.F
open Go.RowKit Go.Proofs.YtbccokfdkieakaaW.PrintWords Go.Proofs.YtbccokfdkieakaaW.PrintLast Go.Proofs.YtbccokfdkieakaaW.PrintMore
attribute [local go_sem] max2_int min2_int max_two min_two max_three min_three max_four min_four   -- for this text's walks alone
set_option linter.unusedVariables false
set_option linter.unusedSimpArgs false

/-! ### zelligelaw01_lives: function 16 -/
def zelligelaw01_lives.f  : Option (Bool) := (wide_Mul.f (-3) 4611686018427387904).bind fun bt126 => ((wide_Show.f bt126.1 bt126.2).bind fun t128 => (some (t128.toList == ([45, 49, 51, 56, 51, 53, 48, 53, 56, 48, 53, 53, 50, 56, 50, 49, 54, 51, 55, 49, 50] : List UInt8))))
set_option maxHeartbeats 8000000 in
set_option maxRecDepth 100000 in
theorem zelligelaw01_lives.calls  (r : Bool) (w : World) (h : zelligelaw01_lives.f  = some r) :
    Calls Try.prog 16 #[] w fun e w' => e = .returned (.bool r) ∧ Below w.heap.size w w' := by
  have HB := Aside0.mk (Below.refl w.heap.size w)
  have H : ((wide_Mul.f (-3) 4611686018427387904).bind fun bt126 => ((wide_Show.f bt126.1 bt126.2).bind fun t128 => (some (t128.toList == ([45, 49, 51, 56, 51, 53, 48, 53, 56, 48, 53, 53, 50, 56, 50, 49, 54, 51, 55, 49, 50] : List UInt8))))) = some r := h
  clear h
  replace H := Option.bind_eq_some_iff.mp H
  obtain ⟨⟨t126, t127⟩, A10, H⟩ := H
  replace H : ((wide_Show.f t126 t127).bind fun t128 => (some (t128.toList == ([45, 49, 51, 56, 51, 53, 48, 53, 56, 48, 53, 53, 50, 56, 50, 49, 54, 51, 55, 49, 50] : List UInt8)))) = some r := H
  have A1 := Aside0.mk A10
  clear A10
  replace H := Option.bind_eq_some_iff.mp H
  obtain ⟨t128, A20, H⟩ := H
  replace H : (some (t128.toList == ([45, 49, 51, 56, 51, 53, 48, 53, 56, 48, 53, 53, 50, 56, 50, 49, 54, 51, 55, 49, 50] : List UInt8))) = some r := H
  have A2 := Aside0.mk A20
  clear A20
  obtain rfl := Option.some.inj H
  go_enter Try.func16, Try.ntmps16
  go_wp2_with (first | ((with_reducible refine gate_callee (f := 12) rfl ?_); refine goesL_ (some 1) rfl rfl Try.func12 (by kernel_rfl) rfl #[.int .i64 (-3), .int .i64 4611686018427387904] rfl (by (try simp only [List.map_toArray, List.map_cons, List.map_nil]); first | done | rfl | (simp only [List.length_drop, List.length_take]; rfl)) ?_; (with_reducible refine (wide_Mul.calls (-3) 4611686018427387904 t126 t127 _ A1.out).mono ?_); rintro e w3 ⟨rfl, hb⟩; refine ⟨_, rfl, ?_⟩; have n0_ := Aside0.mk (below_step (by repeat (first | (with_reducible first | exact HB.out | apply below_alloc | apply pw_below_drewN | apply below_drew1) | exact HB.out)) hb); clear HB; have HB := n0_; clear n0_; (try clear hb); (try clear hb2); (try clear hk); (try clear hi)) | ((with_reducible refine gate_callee (f := 27) rfl ?_); refine goesL_ (some 2) rfl rfl Try.func27 (by kernel_rfl) rfl #[.agg #[.int .i64 t126, .int .u64 t127]] rfl (by (try simp only [List.map_toArray, List.map_cons, List.map_nil]); first | done | rfl | (simp only [List.length_drop, List.length_take]; rfl)) ?_; (with_reducible refine (wide_Show.calls t126 t127 t128 _ A2.out).mono ?_); rintro e w4 ⟨rfl, hb⟩; refine ⟨_, rfl, ?_⟩; have n0_ := Aside0.mk (below_step (by repeat (first | (with_reducible first | exact HB.out | apply below_alloc | apply pw_below_drewN | apply below_drew1) | exact HB.out)) hb); clear HB; have HB := n0_; clear n0_; (try clear hb); (try clear hb2); (try clear hk); (try clear hi)))
  go_ret
  exact ⟨by first | rfl | (simp [errW_none, errW_some] <;> rfl) | (simp [*, errW_none, errW_some] <;> rfl), by repeat (first | (with_reducible first | exact HB.out | apply below_alloc | apply pw_below_drewN | apply below_drew1) | exact HB.out)⟩

end Go.Proofs.Ytbccokfdkieakaa.F
