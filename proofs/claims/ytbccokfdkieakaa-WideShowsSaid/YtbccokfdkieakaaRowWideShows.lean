/- The row of WideShows: for every input the law answers true and its input reads as it did. Out of the contract in YtbccokfdkieakaaWideLS. -/
import Derived.Test.YtbccokfdkieakaaRows
import Derived.Test.YtbccokfdkieakaaBWideShowsc
namespace Go.Proofs.Ytbccokfdkieakaa.wideShows
open Go.ChangeShapes Go.WideShapes Go.ChangeAt Go.RowKit
open Go.ChangeMaps (open_string shut_string)
set_option linter.unusedVariables false
theorem own : ownKnob Try.prog.godebug = none := by kernel_rfl
theorem laid : laidOutB Try.prog = true := by kernel_rfl
theorem recs : (Try.f9.params.toList.all fun t => Try.prog.readableRec t && decide (t < Try.prog.types.size)) = true := by kernel_rfl
set_option maxRecDepth 100000 in
theorem lifted (os : Os) (started : os.Started) (H : Type) (enc : TypeId × Value → H) :
    ReturnsInHanded {} Try.checked os 9 .any (Rows.wideShowsSpec.pre6 enc Try.prog Try.f9 Rows.wideShowsRow.domain false) (Rows.wideShowsSpec.post enc Try.prog Try.f9 false true false false) := by
  refine returnsInHanded_of_change_sized (C := Try.checked) own started (by kernel_rfl) Try.func9
    (ChangeSpec.witness6 (enc := enc) (C := Try.checked) false ⟨#[], #[.agg #[.int .i64 0, .int .u64 0]], []⟩ 8 (by kernel_rfl) (by kernel_rfl) (by kernel_rfl) (by kernel_rfl)) ?_
  intro W base args ds gs before hval0 hW hcnd hsz0 _
  have hsz : (DataW.weightsEach Try.prog (Try.f9.params.toList ++ Rows.wideShowsSpec.plain.varTypes Try.prog) (ds ++ gs)).all (· ≤ reachBytes) = true := hsz0
  have hval : ∀ (j : Nat) t v, Try.f9.params[j]? = some t → args[j]? = some v → Value.okWide Try.prog W .any base t v := hval0
  have hW' := hW
  obtain ⟨p, q, hA0, hV, rfl, hfz, hnd⟩ := hW
  obtain ⟨rfl, rfl⟩ := trodVars_none hV
  rw [List.append_nil] at hW'
  have fin : ∀ W' : World, Below W.heap.size W W' → Rows.wideShowsSpec.post enc Try.prog Try.f9 false true false false W args (.bool true) W' :=
    fun W' hb => RK.post_true (tb := 4) laid recs rfl Try.underlying4 rfl (by
      obtain ⟨args⟩ := args
      have hA1 : DataW.TrodAll enc Try.prog W 0 (fun _ => true) true Try.f9.params.toList args ds p := hA0
      rw [Try.params9] at hA1
      obtain ⟨v0, vs0, d0, ds0, p0, q0, hargs0, rfl, hp0, h0, r0⟩ := trodAll_cons hA1
      obtain ⟨hz, rfl, hq⟩ := trodAll_nil r0
      rfl) hA0 hW' hb
  have hA : DataW.TrodAll enc Try.prog W 0 (fun _ => true) true Try.f9.params.toList args.toList ds p := hA0
  rw [Try.params9] at hA hval hsz
  obtain ⟨v0, vs0, d0, ds0, p0, q0, hargs, rfl, rfl, h0, r0⟩ := trodAll_cons hA
  obtain ⟨rfl, rfl, rfl⟩ := trodAll_nil r0
  obtain rfl : args = #[v0] := by cases args; simp_all
  obtain ⟨a0_0, a0_1, rfl, w0_0, w0_1⟩ := RK.open_two (k0 := .i64) (k1 := .u64) Try.underlying24 (by kernel_rfl) (by kernel_rfl) Try.underlying2 Try.underlying22 (hval 0 24 v0 rfl rfl) h0
  clear hA0 hval0 hsz0 hsz
  refine (Wd.shows_calls a0_0 a0_1 W w0_0 w0_1).mono fun e W' ⟨he, bel⟩ => ?_
  subst he
  exact ⟨_, rfl, fin W' bel⟩
theorem over : Rows.wideShowsRow.holds Try.pinned (OpenSpec.ofChange Rows.wideShowsSpec) :=
  OpenClaim.holds_of_wide 9 Try.f9 rfl rfl rfl rfl rfl rfl rfl ⟨rfl, rfl, rfl, rfl, rfl⟩ rfl rfl rfl rfl rfl (by kernel_rfl) Try.func9 (by kernel_rfl)
    (of_decide_eq_true (by kernel_rfl)) (by unfold Func.isWrapper; first | (rw [if_pos (by decide +kernel)]; kernel_rfl) | (rw [if_neg (by decide +kernel)]; exact ⟨rfl, rfl⟩))
    (fun os started H enc _ => lifted os started H enc)
end Go.Proofs.Ytbccokfdkieakaa.wideShows
namespace Go.Proofs.Ytbccokfdkieakaa
/-- The given statement WideShows. -/
theorem wideShows_holds : Rows.WideShowsSaid := wideShows.over
#print axioms wideShows_holds
end Go.Proofs.Ytbccokfdkieakaa
