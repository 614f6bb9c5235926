/- PredCircles: own texts in one (part 5 of 5): contracts of the functions that the law reaches. -/
import Derived.Test.YtmeckkckjikjiaaBPredCirclesd

section
namespace Go.Proofs.Ytmeckkckjikjiaa.F
open Go.RowKit Go.Proofs.YtmeckkckjikjiaaW.PrintWords Go.Proofs.YtmeckkckjikjiaaW.PrintLast Go.Proofs.YtmeckkckjikjiaaW.PrintMore
attribute [local go_sem] max2_int min2_int max_two min_two max_three min_three max_four min_four
set_option linter.unusedVariables false
set_option linter.unusedSimpArgs false
def zelligeref07_flat.f (a0_0 : Int) (a0_1 : Int) (a1_0 : Int) (a1_1 : Int) (a2_0 : Int) (a2_1 : Int) (a3_0 : Int) (a3_1 : Int) : Option (Int) := (zelligeref07_sign.f (wrap64 ((wrap64 ((wrap64 ((wrap64 ((wrap64 ((wrap64 (a0_0 - a3_0)) * (wrap64 (a0_0 - a3_0)))) + (wrap64 ((wrap64 (a0_1 - a3_1)) * (wrap64 (a0_1 - a3_1)))))) * (wrap64 ((wrap64 ((wrap64 (a1_0 - a3_0)) * (wrap64 (a2_1 - a3_1)))) - (wrap64 ((wrap64 (a1_1 - a3_1)) * (wrap64 (a2_0 - a3_0)))))))) - (wrap64 ((wrap64 ((wrap64 ((wrap64 (a1_0 - a3_0)) * (wrap64 (a1_0 - a3_0)))) + (wrap64 ((wrap64 (a1_1 - a3_1)) * (wrap64 (a1_1 - a3_1)))))) * (wrap64 ((wrap64 ((wrap64 (a0_0 - a3_0)) * (wrap64 (a2_1 - a3_1)))) - (wrap64 ((wrap64 (a0_1 - a3_1)) * (wrap64 (a2_0 - a3_0)))))))))) + (wrap64 ((wrap64 ((wrap64 ((wrap64 (a2_0 - a3_0)) * (wrap64 (a2_0 - a3_0)))) + (wrap64 ((wrap64 (a2_1 - a3_1)) * (wrap64 (a2_1 - a3_1)))))) * (wrap64 ((wrap64 ((wrap64 (a0_0 - a3_0)) * (wrap64 (a1_1 - a3_1)))) - (wrap64 ((wrap64 (a0_1 - a3_1)) * (wrap64 (a1_0 - a3_0))))))))))).bind fun t446 => (some t446)
set_option maxHeartbeats 8000000 in
set_option maxRecDepth 100000 in
theorem zelligeref07_flat.calls (a0_0 : Int) (a0_1 : Int) (a1_0 : Int) (a1_1 : Int) (a2_0 : Int) (a2_1 : Int) (a3_0 : Int) (a3_1 : Int) (r : Int) (w : World) (h : zelligeref07_flat.f a0_0 a0_1 a1_0 a1_1 a2_0 a2_1 a3_0 a3_1 = some r) :
  Calls Try.prog 33 #[.agg #[.int .i64 a0_0, .int .i64 a0_1], .agg #[.int .i64 a1_0, .int .i64 a1_1], .agg #[.int .i64 a2_0, .int .i64 a2_1], .agg #[.int .i64 a3_0, .int .i64 a3_1]] w fun e w' => e = .returned (.int .i64 r) ∧ Below w.heap.size w w' := by
 have hu23 := Try.underlying23
 have HB := Aside0.mk (Below.refl w.heap.size w)
 have H : ((zelligeref07_sign.f (wrap64 ((wrap64 ((wrap64 ((wrap64 ((wrap64 ((wrap64 (a0_0 - a3_0)) * (wrap64 (a0_0 - a3_0)))) + (wrap64 ((wrap64 (a0_1 - a3_1)) * (wrap64 (a0_1 - a3_1)))))) * (wrap64 ((wrap64 ((wrap64 (a1_0 - a3_0)) * (wrap64 (a2_1 - a3_1)))) - (wrap64 ((wrap64 (a1_1 - a3_1)) * (wrap64 (a2_0 - a3_0)))))))) - (wrap64 ((wrap64 ((wrap64 ((wrap64 (a1_0 - a3_0)) * (wrap64 (a1_0 - a3_0)))) + (wrap64 ((wrap64 (a1_1 - a3_1)) * (wrap64 (a1_1 - a3_1)))))) * (wrap64 ((wrap64 ((wrap64 (a0_0 - a3_0)) * (wrap64 (a2_1 - a3_1)))) - (wrap64 ((wrap64 (a0_1 - a3_1)) * (wrap64 (a2_0 - a3_0)))))))))) + (wrap64 ((wrap64 ((wrap64 ((wrap64 (a2_0 - a3_0)) * (wrap64 (a2_0 - a3_0)))) + (wrap64 ((wrap64 (a2_1 - a3_1)) * (wrap64 (a2_1 - a3_1)))))) * (wrap64 ((wrap64 ((wrap64 (a0_0 - a3_0)) * (wrap64 (a1_1 - a3_1)))) - (wrap64 ((wrap64 (a0_1 - a3_1)) * (wrap64 (a1_0 - a3_0))))))))))).bind fun t446 => (some t446)) = some r := h
 clear h
 replace H := Option.bind_eq_some_iff.mp H
 obtain ⟨t446, A50, H⟩ := H
 replace H : (some t446) = some r := H
 have A5 := Aside0.mk A50
 clear A50
 obtain rfl := Option.some.inj H
 go_enter Try.func33, Try.ntmps33
 go_wp2_with (first | ((with_reducible refine gate_dst (N := 4) rfl ?_); refine box_event ?hg (N := 4) ?hd (cs := #[.int .i64 a0_0, .int .i64 a0_1]) (t := 23) ?hr ?_; (case hd => rfl); (case hg => rfl); (case hr => first | (go_simp; done) | (go_simp; rfl)); intro gb442 hg w6 hbox hb; have BK442 := Aside0.mk hbox; have GW442 := u3 hg HB; have GE442 := u3 hg HB; replace HB := u2 HB hb; clear hb hbox hg) | ((with_reducible refine gate_dst (N := 5) rfl ?_); refine box_event ?hg (N := 5) ?hd (cs := #[.int .i64 a1_0, .int .i64 a1_1]) (t := 23) ?hr ?_; (case hd => rfl); (case hg => rfl); (case hr => first | (go_simp; done) | (go_simp; rfl)); intro gb443 hg w7 hbox hb; have BK443 := Aside0.mk hbox; have GW443 := u3 hg HB; have GE443 := u3 hg HB; have NB442_443 := u4 hg BK442; have NB443_442 := u5 hg BK442; replace BK442 := u1 BK442 hb; replace HB := u2 HB hb; clear hb hbox hg) | ((with_reducible refine gate_dst (N := 6) rfl ?_); refine box_event ?hg (N := 6) ?hd (cs := #[.int .i64 a2_0, .int .i64 a2_1]) (t := 23) ?hr ?_; (case hd => rfl); (case hg => rfl); (case hr => first | (go_simp; done) | (go_simp; rfl)); intro gb444 hg w8 hbox hb; have BK444 := Aside0.mk hbox; have GW444 := u3 hg HB; have GE444 := u3 hg HB; have NB442_444 := u4 hg BK442; have NB444_442 := u5 hg BK442; have NB443_444 := u4 hg BK443; have NB444_443 := u5 hg BK443; replace BK442 := u1 BK442 hb; replace BK443 := u1 BK443 hb; replace HB := u2 HB hb; clear hb hbox hg) | ((with_reducible refine gate_dst (N := 7) rfl ?_); refine box_event ?hg (N := 7) ?hd (cs := #[.int .i64 a3_0, .int .i64 a3_1]) (t := 23) ?hr ?_; (case hd => rfl); (case hg => rfl); (case hr => first | (go_simp; done) | (go_simp; rfl)); intro gb445 hg w9 hbox hb; have BK445 := Aside0.mk hbox; have GW445 := u3 hg HB; have GE445 := u3 hg HB; have NB442_445 := u4 hg BK442; have NB445_442 := u5 hg BK442; have NB443_445 := u4 hg BK443; have NB445_443 := u5 hg BK443; have NB444_445 := u4 hg BK444; have NB445_444 := u5 hg BK444; replace BK442 := u1 BK442 hb; replace BK443 := u1 BK443 hb; replace BK444 := u1 BK444 hb; replace HB := u2 HB hb; clear hb hbox hg; have hnb10 := NB442_443.out; have hnc10 := NB443_442.out; have hnb11 := NB442_444.out; have hnc11 := NB444_442.out; have hnb12 := NB442_445.out; have hnc12 := NB445_442.out; obtain ⟨hcz13_0, hcz13_1, hfz13_0, hfz13_1⟩ := p2 BK442; have hnb14 := NB445_443.out; have hnc14 := NB443_445.out; have hnb15 := NB445_444.out; have hnc15 := NB444_445.out; obtain ⟨hcz16_0, hcz16_1, hfz16_0, hfz16_1⟩ := p2 BK445; have hnb17 := NB443_444.out; have hnc17 := NB444_443.out; obtain ⟨hcz18_0, hcz18_1, hfz18_0, hfz18_1⟩ := p2 BK443; obtain ⟨hcz19_0, hcz19_1, hfz19_0, hfz19_1⟩ := p2 BK444) | (go_at_call 42; (with_reducible refine (zelligeref07_sign.calls (wrap64 ((wrap64 ((wrap64 ((wrap64 ((wrap64 ((wrap64 (a0_0 - a3_0)) * (wrap64 (a0_0 - a3_0)))) + (wrap64 ((wrap64 (a0_1 - a3_1)) * (wrap64 (a0_1 - a3_1)))))) * (wrap64 ((wrap64 ((wrap64 (a1_0 - a3_0)) * (wrap64 (a2_1 - a3_1)))) - (wrap64 ((wrap64 (a1_1 - a3_1)) * (wrap64 (a2_0 - a3_0)))))))) - (wrap64 ((wrap64 ((wrap64 ((wrap64 (a1_0 - a3_0)) * (wrap64 (a1_0 - a3_0)))) + (wrap64 ((wrap64 (a1_1 - a3_1)) * (wrap64 (a1_1 - a3_1)))))) * (wrap64 ((wrap64 ((wrap64 (a0_0 - a3_0)) * (wrap64 (a2_1 - a3_1)))) - (wrap64 ((wrap64 (a0_1 - a3_1)) * (wrap64 (a2_0 - a3_0)))))))))) + (wrap64 ((wrap64 ((wrap64 ((wrap64 (a2_0 - a3_0)) * (wrap64 (a2_0 - a3_0)))) + (wrap64 ((wrap64 (a2_1 - a3_1)) * (wrap64 (a2_1 - a3_1)))))) * (wrap64 ((wrap64 ((wrap64 (a0_0 - a3_0)) * (wrap64 (a1_1 - a3_1)))) - (wrap64 ((wrap64 (a0_1 - a3_1)) * (wrap64 (a1_0 - a3_0)))))))))) t446 _ A5.out).mono ?_); rintro e w' ⟨rfl, ⟨nd, rfl⟩⟩; (try first | exact ⟨rfl, _, World.drewN_drewN _ _ _⟩ | exact ⟨rfl, _, Eq.trans (World.drewN_drewN _ _ _) (congrArg (World.drewN _) (Nat.add_assoc _ _ _))⟩)))
 repeat (go_quiet (first | ((with_reducible refine gate_dst (N := 4) rfl ?_); refine box_event ?hg (N := 4) ?hd (cs := #[.int .i64 a0_0, .int .i64 a0_1]) (t := 23) ?hr ?_; (case hd => rfl); (case hg => rfl); (case hr => first | (go_simp; done) | (go_simp; rfl)); intro gb442 hg w6 hbox hb; have BK442 := Aside0.mk hbox; have GW442 := u3 hg HB; have GE442 := u3 hg HB; replace HB := u2 HB hb; clear hb hbox hg) | ((with_reducible refine gate_dst (N := 5) rfl ?_); refine box_event ?hg (N := 5) ?hd (cs := #[.int .i64 a1_0, .int .i64 a1_1]) (t := 23) ?hr ?_; (case hd => rfl); (case hg => rfl); (case hr => first | (go_simp; done) | (go_simp; rfl)); intro gb443 hg w7 hbox hb; have BK443 := Aside0.mk hbox; have GW443 := u3 hg HB; have GE443 := u3 hg HB; have NB442_443 := u4 hg BK442; have NB443_442 := u5 hg BK442; replace BK442 := u1 BK442 hb; replace HB := u2 HB hb; clear hb hbox hg) | ((with_reducible refine gate_dst (N := 6) rfl ?_); refine box_event ?hg (N := 6) ?hd (cs := #[.int .i64 a2_0, .int .i64 a2_1]) (t := 23) ?hr ?_; (case hd => rfl); (case hg => rfl); (case hr => first | (go_simp; done) | (go_simp; rfl)); intro gb444 hg w8 hbox hb; have BK444 := Aside0.mk hbox; have GW444 := u3 hg HB; have GE444 := u3 hg HB; have NB442_444 := u4 hg BK442; have NB444_442 := u5 hg BK442; have NB443_444 := u4 hg BK443; have NB444_443 := u5 hg BK443; replace BK442 := u1 BK442 hb; replace BK443 := u1 BK443 hb; replace HB := u2 HB hb; clear hb hbox hg) | ((with_reducible refine gate_dst (N := 7) rfl ?_); refine box_event ?hg (N := 7) ?hd (cs := #[.int .i64 a3_0, .int .i64 a3_1]) (t := 23) ?hr ?_; (case hd => rfl); (case hg => rfl); (case hr => first | (go_simp; done) | (go_simp; rfl)); intro gb445 hg w9 hbox hb; have BK445 := Aside0.mk hbox; have GW445 := u3 hg HB; have GE445 := u3 hg HB; have NB442_445 := u4 hg BK442; have NB445_442 := u5 hg BK442; have NB443_445 := u4 hg BK443; have NB445_443 := u5 hg BK443; have NB444_445 := u4 hg BK444; have NB445_444 := u5 hg BK444; replace BK442 := u1 BK442 hb; replace BK443 := u1 BK443 hb; replace BK444 := u1 BK444 hb; replace HB := u2 HB hb; clear hb hbox hg; have hnb10 := NB442_443.out; have hnc10 := NB443_442.out; have hnb11 := NB442_444.out; have hnc11 := NB444_442.out; have hnb12 := NB442_445.out; have hnc12 := NB445_442.out; obtain ⟨hcz13_0, hcz13_1, hfz13_0, hfz13_1⟩ := p2 BK442; have hnb14 := NB445_443.out; have hnc14 := NB443_445.out; have hnb15 := NB445_444.out; have hnc15 := NB444_445.out; obtain ⟨hcz16_0, hcz16_1, hfz16_0, hfz16_1⟩ := p2 BK445; have hnb17 := NB443_444.out; have hnc17 := NB444_443.out; obtain ⟨hcz18_0, hcz18_1, hfz18_0, hfz18_1⟩ := p2 BK443; obtain ⟨hcz19_0, hcz19_1, hfz19_0, hfz19_1⟩ := p2 BK444) | (go_at_call 42; (with_reducible refine (zelligeref07_sign.calls (wrap64 ((wrap64 ((wrap64 ((wrap64 ((wrap64 ((wrap64 (a0_0 - a3_0)) * (wrap64 (a0_0 - a3_0)))) + (wrap64 ((wrap64 (a0_1 - a3_1)) * (wrap64 (a0_1 - a3_1)))))) * (wrap64 ((wrap64 ((wrap64 (a1_0 - a3_0)) * (wrap64 (a2_1 - a3_1)))) - (wrap64 ((wrap64 (a1_1 - a3_1)) * (wrap64 (a2_0 - a3_0)))))))) - (wrap64 ((wrap64 ((wrap64 ((wrap64 (a1_0 - a3_0)) * (wrap64 (a1_0 - a3_0)))) + (wrap64 ((wrap64 (a1_1 - a3_1)) * (wrap64 (a1_1 - a3_1)))))) * (wrap64 ((wrap64 ((wrap64 (a0_0 - a3_0)) * (wrap64 (a2_1 - a3_1)))) - (wrap64 ((wrap64 (a0_1 - a3_1)) * (wrap64 (a2_0 - a3_0)))))))))) + (wrap64 ((wrap64 ((wrap64 ((wrap64 (a2_0 - a3_0)) * (wrap64 (a2_0 - a3_0)))) + (wrap64 ((wrap64 (a2_1 - a3_1)) * (wrap64 (a2_1 - a3_1)))))) * (wrap64 ((wrap64 ((wrap64 (a0_0 - a3_0)) * (wrap64 (a1_1 - a3_1)))) - (wrap64 ((wrap64 (a0_1 - a3_1)) * (wrap64 (a1_0 - a3_0)))))))))) t446 _ A5.out).mono ?_); rintro e w' ⟨rfl, ⟨nd, rfl⟩⟩; (try first | exact ⟨rfl, _, World.drewN_drewN _ _ _⟩ | exact ⟨rfl, _, Eq.trans (World.drewN_drewN _ _ _) (congrArg (World.drewN _) (Nat.add_assoc _ _ _))⟩))); try go_wp2_with (first | ((with_reducible refine gate_dst (N := 4) rfl ?_); refine box_event ?hg (N := 4) ?hd (cs := #[.int .i64 a0_0, .int .i64 a0_1]) (t := 23) ?hr ?_; (case hd => rfl); (case hg => rfl); (case hr => first | (go_simp; done) | (go_simp; rfl)); intro gb442 hg w6 hbox hb; have BK442 := Aside0.mk hbox; have GW442 := u3 hg HB; have GE442 := u3 hg HB; replace HB := u2 HB hb; clear hb hbox hg) | ((with_reducible refine gate_dst (N := 5) rfl ?_); refine box_event ?hg (N := 5) ?hd (cs := #[.int .i64 a1_0, .int .i64 a1_1]) (t := 23) ?hr ?_; (case hd => rfl); (case hg => rfl); (case hr => first | (go_simp; done) | (go_simp; rfl)); intro gb443 hg w7 hbox hb; have BK443 := Aside0.mk hbox; have GW443 := u3 hg HB; have GE443 := u3 hg HB; have NB442_443 := u4 hg BK442; have NB443_442 := u5 hg BK442; replace BK442 := u1 BK442 hb; replace HB := u2 HB hb; clear hb hbox hg) | ((with_reducible refine gate_dst (N := 6) rfl ?_); refine box_event ?hg (N := 6) ?hd (cs := #[.int .i64 a2_0, .int .i64 a2_1]) (t := 23) ?hr ?_; (case hd => rfl); (case hg => rfl); (case hr => first | (go_simp; done) | (go_simp; rfl)); intro gb444 hg w8 hbox hb; have BK444 := Aside0.mk hbox; have GW444 := u3 hg HB; have GE444 := u3 hg HB; have NB442_444 := u4 hg BK442; have NB444_442 := u5 hg BK442; have NB443_444 := u4 hg BK443; have NB444_443 := u5 hg BK443; replace BK442 := u1 BK442 hb; replace BK443 := u1 BK443 hb; replace HB := u2 HB hb; clear hb hbox hg) | ((with_reducible refine gate_dst (N := 7) rfl ?_); refine box_event ?hg (N := 7) ?hd (cs := #[.int .i64 a3_0, .int .i64 a3_1]) (t := 23) ?hr ?_; (case hd => rfl); (case hg => rfl); (case hr => first | (go_simp; done) | (go_simp; rfl)); intro gb445 hg w9 hbox hb; have BK445 := Aside0.mk hbox; have GW445 := u3 hg HB; have GE445 := u3 hg HB; have NB442_445 := u4 hg BK442; have NB445_442 := u5 hg BK442; have NB443_445 := u4 hg BK443; have NB445_443 := u5 hg BK443; have NB444_445 := u4 hg BK444; have NB445_444 := u5 hg BK444; replace BK442 := u1 BK442 hb; replace BK443 := u1 BK443 hb; replace BK444 := u1 BK444 hb; replace HB := u2 HB hb; clear hb hbox hg; have hnb10 := NB442_443.out; have hnc10 := NB443_442.out; have hnb11 := NB442_444.out; have hnc11 := NB444_442.out; have hnb12 := NB442_445.out; have hnc12 := NB445_442.out; obtain ⟨hcz13_0, hcz13_1, hfz13_0, hfz13_1⟩ := p2 BK442; have hnb14 := NB445_443.out; have hnc14 := NB443_445.out; have hnb15 := NB445_444.out; have hnc15 := NB444_445.out; obtain ⟨hcz16_0, hcz16_1, hfz16_0, hfz16_1⟩ := p2 BK445; have hnb17 := NB443_444.out; have hnc17 := NB444_443.out; obtain ⟨hcz18_0, hcz18_1, hfz18_0, hfz18_1⟩ := p2 BK443; obtain ⟨hcz19_0, hcz19_1, hfz19_0, hfz19_1⟩ := p2 BK444) | (go_at_call 42; (with_reducible refine (zelligeref07_sign.calls (wrap64 ((wrap64 ((wrap64 ((wrap64 ((wrap64 ((wrap64 (a0_0 - a3_0)) * (wrap64 (a0_0 - a3_0)))) + (wrap64 ((wrap64 (a0_1 - a3_1)) * (wrap64 (a0_1 - a3_1)))))) * (wrap64 ((wrap64 ((wrap64 (a1_0 - a3_0)) * (wrap64 (a2_1 - a3_1)))) - (wrap64 ((wrap64 (a1_1 - a3_1)) * (wrap64 (a2_0 - a3_0)))))))) - (wrap64 ((wrap64 ((wrap64 ((wrap64 (a1_0 - a3_0)) * (wrap64 (a1_0 - a3_0)))) + (wrap64 ((wrap64 (a1_1 - a3_1)) * (wrap64 (a1_1 - a3_1)))))) * (wrap64 ((wrap64 ((wrap64 (a0_0 - a3_0)) * (wrap64 (a2_1 - a3_1)))) - (wrap64 ((wrap64 (a0_1 - a3_1)) * (wrap64 (a2_0 - a3_0)))))))))) + (wrap64 ((wrap64 ((wrap64 ((wrap64 (a2_0 - a3_0)) * (wrap64 (a2_0 - a3_0)))) + (wrap64 ((wrap64 (a2_1 - a3_1)) * (wrap64 (a2_1 - a3_1)))))) * (wrap64 ((wrap64 ((wrap64 (a0_0 - a3_0)) * (wrap64 (a1_1 - a3_1)))) - (wrap64 ((wrap64 (a0_1 - a3_1)) * (wrap64 (a1_0 - a3_0)))))))))) t446 _ A5.out).mono ?_); rintro e w' ⟨rfl, ⟨nd, rfl⟩⟩; (try first | exact ⟨rfl, _, World.drewN_drewN _ _ _⟩ | exact ⟨rfl, _, Eq.trans (World.drewN_drewN _ _ _) (congrArg (World.drewN _) (Nat.add_assoc _ _ _))⟩))))
 go_ret
 exact ⟨by first | rfl | (simp [*, errW_none, errW_some] <;> rfl), bw HB.out⟩
end Go.Proofs.Ytmeckkckjikjiaa.F
end
section
namespace Go.Proofs.Ytmeckkckjikjiaa.Rf
open Go Go.RowKit Go.Proofs.YtmeckkckjikjiaaW.PrintWords Go.Proofs.YtmeckkckjikjiaaW.PrintLast Go.Proofs.YtmeckkckjikjiaaW.PrintMore Go.Proofs.Ytmeckkckjikjiaa.F Go.Proofs.Ytmeckkckjikjiaa.Whole Go.Proofs.Ytmeckkckjikjiaa.Reg Go.Proofs.Ytmeckkckjikjiaa.Pm Go.Proofs.Ytmeckkckjikjiaa.Pd Go.Proofs.Ytmeckkckjikjiaa.Wd
set_option linter.unusedVariables false
set_option linter.unusedSimpArgs false
structure B4 (w : World) (a0 a1 b0 b1 c0 c1 d0 d1 : Int) (W : World) : Prop where
 mk :: (out : Below w.heap.size w W ∧ w.heap.size + 1 + 1 + 1 + 1 ≤ W.heap.size ∧ W.heap[w.heap.size]? = some (.cells #[.int .i64 a0, .int .i64 a1] 23 (0, 0)) ∧ W.heap[w.heap.size + 1]? = some (.cells #[.int .i64 b0, .int .i64 b1] 23 (0, 0)) ∧ W.heap[w.heap.size + 1 + 1]? = some (.cells #[.int .i64 c0, .int .i64 c1] 23 (0, 0)) ∧ W.heap[w.heap.size + 1 + 1 + 1]? = some (.cells #[.int .i64 d0, .int .i64 d1] 23 (0, 0)))
section
variable {w W W' : World} {a0 a1 b0 b1 c0 c1 d0 d1 : Int}
theorem B4.below (h : B4 w a0 a1 b0 b1 c0 c1 d0 d1 W) (hb : Below W.heap.size W W') : B4 w a0 a1 b0 b1 c0 c1 d0 d1 W' :=
 ⟨⟨below_step h.out.1 hb, Nat.le_trans h.out.2.1 hb.size, blk_below h.out.2.2.1 hb, blk_below h.out.2.2.2.1 hb, blk_below h.out.2.2.2.2.1 hb, blk_below h.out.2.2.2.2.2 hb⟩⟩
theorem B4.cells (h : B4 w a0 a1 b0 b1 c0 c1 d0 d1 W) : W.cell? ⟨w.heap.size, 0, none⟩ = some (.int .i64 a0) ∧ W.cell? ⟨w.heap.size, 1, none⟩ = some (.int .i64 a1) ∧ W.cell? ⟨w.heap.size + 1, 0, none⟩ = some (.int .i64 b0) ∧ W.cell? ⟨w.heap.size + 1, 1, none⟩ = some (.int .i64 b1) ∧ W.cell? ⟨w.heap.size + 1 + 1, 0, none⟩ = some (.int .i64 c0) ∧ W.cell? ⟨w.heap.size + 1 + 1, 1, none⟩ = some (.int .i64 c1) ∧ W.cell? ⟨w.heap.size + 1 + 1 + 1, 0, none⟩ = some (.int .i64 d0) ∧ W.cell? ⟨w.heap.size + 1 + 1 + 1, 1, none⟩ = some (.int .i64 d1) :=
 ⟨(blk_cell h.out.2.2.1 0).trans rfl, (blk_cell h.out.2.2.1 1).trans rfl, (blk_cell h.out.2.2.2.1 0).trans rfl, (blk_cell h.out.2.2.2.1 1).trans rfl, (blk_cell h.out.2.2.2.2.1 0).trans rfl, (blk_cell h.out.2.2.2.2.1 1).trans rfl, (blk_cell h.out.2.2.2.2.2 0).trans rfl, (blk_cell h.out.2.2.2.2.2 1).trans rfl⟩
end
theorem dt_ref (a0 a1 b0 b1 c0 c1 d0 d1 : Int) : (((ds a0 a1 d0 d1) * (((b0 - d0) * (c1 - d1)) - ((b1 - d1) * (c0 - d0)))) - ((ds b0 b1 d0 d1) * (((a0 - d0) * (c1 - d1)) - ((a1 - d1) * (c0 - d0))))) + ((ds c0 c1 d0 d1) * (((a0 - d0) * (b1 - d1)) - ((a1 - d1) * (b0 - d0)))) = dt a0 a1 b0 b1 c0 c1 d0 d1 := by unfold ds dt; grind
def inc3.T : Bool × List (List Nat × List Nat) := (true, [([], []), ([0], [0]), ([], []), ([2], [2]), ([1, 3], [1, 3]), ([], []), ([5], [5]), ([], []), ([7], [7]), ([6, 8, 4], [6, 8]), ([], []), ([10], [10]), ([], []), ([12], [12]), ([11, 13, 9], [11, 13]), ([], []), ([15], [15]), ([], []), ([17], [17]), ([16, 18, 14], [16, 18]), ([], []), ([20], [20]), ([], []), ([22], [22]), ([21, 23, 19], [21, 23]), ([], []), ([25], [25]), ([], []), ([27], [27]), ([26, 28, 24], [26, 28]), ([], []), ([], []), ([], []), ([], []), ([], []), ([], []), ([30, 4, 29, 0, 1, 2, 3, 4, 30, 31, 32, 33, 34, 35], [4, 30]), ([31, 9, 36, 0, 1, 2, 3, 4, 5, 6, 7, 8, 9, 30, 31, 32, 33, 34, 35, 36], [9, 31]), ([32, 14, 37, 0, 1, 2, 3, 4, 5, 6, 7, 8, 9, 10, 11, 12, 13, 14, 30, 31, 32, 33, 34, 35, 36, 37], [14, 32]), ([33, 19, 38, 0, 1, 2, 3, 4, 5, 6, 7, 8, 9, 10, 11, 12, 13, 14, 15, 16, 17, 18, 19, 30, 31, 32, 33, 34, 35, 36, 37, 38], [19, 33]), ([34, 24, 39, 0, 1, 2, 3, 4, 5, 6, 7, 8, 9, 10, 11, 12, 13, 14, 15, 16, 17, 18, 19, 20, 21, 22, 23, 24, 30, 31, 32, 33, 34, 35, 36, 37, 38, 39], [24, 34]), ([35, 29, 40, 0, 1, 2, 3, 4, 5, 6, 7, 8, 9, 10, 11, 12, 13, 14, 15, 16, 17, 18, 19, 20, 21, 22, 23, 24, 25, 26, 27, 28, 29, 30, 31, 32, 33, 34, 35, 36, 37, 38, 39, 40], [29, 35])])
def inc3.B : List Nat := [0, 1, 0, 4, 15, 0, 32, 0, 128, 511, 0, 1024, 0, 4096, 16383, 0, 32768, 0, 131072, 524287, 0, 1048576, 0, 4194304, 16777215, 0, 33554432, 0, 134217728, 536870911, 0, 0, 0, 0, 0, 0, 68719476735, 137438953471, 274877906943, 549755813887, 1099511627775, 2199023255551]
theorem inc3.tab : rtab .any (opsOf Try.f11 3) = inc3.T := by kernel_rfl
theorem inc3.bits : waitsOk inc3.T.2 inc3.B = true := by kernel_rfl
def inc4.T : Bool × List (List Nat × List Nat) := (true, [([], []), ([], []), ([0, 1], [0, 1]), ([], []), ([], []), ([3, 4, 2], [3, 4]), ([], []), ([], []), ([6, 7, 5], [6, 7]), ([5, 8, 8], [5, 8]), ([2, 9, 9], [2, 9]), ([], []), ([11, 10, 10, 0, 1, 2, 3, 4, 5, 6, 7, 8, 9, 10, 11], [10, 11])])
def inc4.B : List Nat := [0, 0, 3, 0, 0, 31, 0, 0, 255, 511, 1023, 0, 4095]
theorem inc4.tab : rtab .any (opsOf Try.f11 4) = inc4.T := by kernel_rfl
theorem inc4.bits : waitsOk inc4.T.2 inc4.B = true := by kernel_rfl
def inc5.T : Bool × List (List Nat × List Nat) := (true, [([], []), ([], []), ([], []), ([1, 2], [1, 2]), ([], []), ([], []), ([4, 5, 3], [4, 5]), ([], []), ([], []), ([7, 8, 6], [7, 8]), ([6, 9, 9], [6, 9]), ([3, 10, 10], [3, 10]), ([0, 11, 11], [0, 11]), ([12, 12, 0, 1, 2, 3, 4, 5, 6, 7, 8, 9, 10, 11, 12], [12])])
def inc5.B : List Nat := [0, 0, 0, 6, 0, 0, 62, 0, 0, 510, 1022, 2046, 4095, 8191]
theorem inc5.tab : rtab .any (opsOf Try.f11 5) = inc5.T := by kernel_rfl
theorem inc5.bits : waitsOk inc5.T.2 inc5.B = true := by kernel_rfl
def inc6.T : Bool × List (List Nat × List Nat) := (true, [([], []), ([], []), ([], []), ([1, 2], [1, 2]), ([], []), ([], []), ([4, 5, 3], [4, 5]), ([], []), ([], []), ([7, 8, 6], [7, 8]), ([6, 9, 9], [6, 9]), ([3, 10, 10], [3, 10]), ([0, 11, 11], [0, 11]), ([12, 12, 0, 1, 2, 3, 4, 5, 6, 7, 8, 9, 10, 11, 12], [12])])
def inc6.B : List Nat := [0, 0, 0, 6, 0, 0, 62, 0, 0, 510, 1022, 2046, 4095, 8191]
theorem inc6.tab : rtab .any (opsOf Try.f11 6) = inc6.T := by kernel_rfl
theorem inc6.bits : waitsOk inc6.T.2 inc6.B = true := by kernel_rfl
set_option maxHeartbeats 16000000 in
set_option maxRecDepth 100000 in
theorem incircle_near {a0 a1 b0 b1 c0 c1 d0 d1 : Int} (ha : CoP a0 a1) (hb : CoP b0 b1) (hc : CoP c0 c1) (hd : CoP d0 d1) (Na : Aside0 (zelligeref07_near.f a0 a1 d0 d1 = some true)) (Nb : Aside0 (zelligeref07_near.f b0 b1 d0 d1 = some true)) (Nc : Aside0 (zelligeref07_near.f c0 c1 d0 d1 = some true))
  (q : Int) (FL : Aside0 (zelligeref07_flat.f a0 a1 b0 b1 c0 c1 d0 d1 = some q)) (w : World) :
  Calls Try.prog 11 #[.agg #[.int .i64 a0, .int .i64 a1], .agg #[.int .i64 b0, .int .i64 b1], .agg #[.int .i64 c0, .int .i64 c1], .agg #[.int .i64 d0, .int .i64 d1]] w fun e w' => e = .returned (.int .i64 q) ∧ Below w.heap.size w w' := by
 have AH := Aside0.mk (And.intro ha (And.intro hb (And.intro hc hd)))
 clear ha hb hc hd
 go_enter Try.func11, Try.ntmps11
 go_upto_region 1 with fail
 obtain ⟨n0, n1, n2, n3, bw, nw⟩ := four_new w (.cells #[.int .i64 a0, .int .i64 a1] 23) (.cells #[.int .i64 b0, .int .i64 b1] 23) (.cells #[.int .i64 c0, .int .i64 c1] 23) (.cells #[.int .i64 d0, .int .i64 d1] 23)
 generalize ((((w.alloc (.cells #[.int .i64 a0, .int .i64 a1] 23)).alloc (.cells #[.int .i64 b0, .int .i64 b1] 23)).alloc (.cells #[.int .i64 c0, .int .i64 c1] 23)).alloc (.cells #[.int .i64 d0, .int .i64 d1] 23)) = W at n0 n1 n2 n3 bw nw ⊢
 have S := Aside0.mk (B4.mk ⟨bw, Nat.le_of_eq nw.symm, n0, n1, n2, n3⟩)
 clear n0 n1 n2 n3 bw nw
 obtain ⟨k0, k1, k2, k3, k4, k5, k6, k7⟩ := S.out.cells
 go_wp2_with (first | (first | (with_reducible go_at_call 32; with_reducible refine (zelligeref07_near.calls a0 a1 d0 d1 _ _ Na.out).mono ?_; rintro e v1 ⟨rfl, hb⟩; have S := Aside0.mk (S.out.below hb); clear hb k0 k1 k2 k3 k4 k5 k6 k7; obtain ⟨k0, k1, k2, k3, k4, k5, k6, k7⟩ := S.out.cells) | (with_reducible go_at_call 32; with_reducible refine (zelligeref07_near.calls b0 b1 d0 d1 _ _ Nb.out).mono ?_; rintro e v1 ⟨rfl, hb⟩; have S := Aside0.mk (S.out.below hb); clear hb k0 k1 k2 k3 k4 k5 k6 k7; obtain ⟨k0, k1, k2, k3, k4, k5, k6, k7⟩ := S.out.cells) | (with_reducible go_at_call 32; with_reducible refine (zelligeref07_near.calls c0 c1 d0 d1 _ _ Nc.out).mono ?_; rintro e v1 ⟨rfl, hb⟩; have S := Aside0.mk (S.out.below hb); clear hb k0 k1 k2 k3 k4 k5 k6 k7; obtain ⟨k0, k1, k2, k3, k4, k5, k6, k7⟩ := S.out.cells)) | (with_reducible go_at_call 33; with_reducible refine (zelligeref07_flat.calls a0 a1 b0 b1 c0 c1 d0 d1 _ _ FL.out).mono ?_; rintro e v1 ⟨rfl, hb⟩; have S := Aside0.mk (S.out.below hb); clear hb k0 k1 k2 k3 k4 k5 k6 k7; obtain ⟨k0, k1, k2, k3, k4, k5, k6, k7⟩ := S.out.cells))
 go_ret
 exact ⟨rfl, S.out.out.1⟩
set_option maxHeartbeats 16000000 in
set_option maxRecDepth 100000 in
theorem incircle_walk {a0 a1 b0 b1 c0 c1 d0 d1 : Int} (ha : CoP a0 a1) (hb : CoP b0 b1) (hc : CoP c0 c1) (hd : CoP d0 d1) (m1 m2 m3 : Bool) (hm : m1 = true → m2 = true → m3 = true → False) (Na : Aside0 (zelligeref07_near.f a0 a1 d0 d1 = some m1)) (Nb : Aside0 (zelligeref07_near.f b0 b1 d0 d1 = some m2)) (Nc : Aside0 (zelligeref07_near.f c0 c1 d0 d1 = some m3))
  (q : Int) (hq : Aside0 ((dt a0 a1 b0 b1 c0 c1 d0 d1).sign = q)) (w : World) :
  Calls Try.prog 11 #[.agg #[.int .i64 a0, .int .i64 a1], .agg #[.int .i64 b0, .int .i64 b1], .agg #[.int .i64 c0, .int .i64 c1], .agg #[.int .i64 d0, .int .i64 d1]] w fun e w' => e = .returned (.int .i64 q) ∧ Below w.heap.size w w' := by
 have AH := Aside0.mk (And.intro ha (And.intro hb (And.intro hc hd)))
 clear ha hb hc hd
 go_enter Try.func11, Try.ntmps11
 go_upto_region 1 with fail
 obtain ⟨n0, n1, n2, n3, bw, nw⟩ := four_new w (.cells #[.int .i64 a0, .int .i64 a1] 23) (.cells #[.int .i64 b0, .int .i64 b1] 23) (.cells #[.int .i64 c0, .int .i64 c1] 23) (.cells #[.int .i64 d0, .int .i64 d1] 23)
 generalize ((((w.alloc (.cells #[.int .i64 a0, .int .i64 a1] 23)).alloc (.cells #[.int .i64 b0, .int .i64 b1] 23)).alloc (.cells #[.int .i64 c0, .int .i64 c1] 23)).alloc (.cells #[.int .i64 d0, .int .i64 d1] 23)) = W at n0 n1 n2 n3 bw nw ⊢
 have S := Aside0.mk (B4.mk ⟨bw, Nat.le_of_eq nw.symm, n0, n1, n2, n3⟩)
 clear n0 n1 n2 n3 bw nw
 obtain ⟨k0, k1, k2, k3, k4, k5, k6, k7⟩ := S.out.cells
 go_cut [28] (fun v28 wx => v28 = .bool false ∧ B4 w a0 a1 b0 b1 c0 c1 d0 d1 wx)
 case first =>
  cases m1
  ·go_wp2_with (first | (with_reducible go_at_call 32; with_reducible refine (zelligeref07_near.calls a0 a1 d0 d1 _ _ Na.out).mono ?_; rintro e v1 ⟨rfl, hb⟩; have S := Aside0.mk (S.out.below hb); clear hb k0 k1 k2 k3 k4 k5 k6 k7; obtain ⟨k0, k1, k2, k3, k4, k5, k6, k7⟩ := S.out.cells) | (with_reducible go_at_call 32; with_reducible refine (zelligeref07_near.calls b0 b1 d0 d1 _ _ Nb.out).mono ?_; rintro e v1 ⟨rfl, hb⟩; have S := Aside0.mk (S.out.below hb); clear hb k0 k1 k2 k3 k4 k5 k6 k7; obtain ⟨k0, k1, k2, k3, k4, k5, k6, k7⟩ := S.out.cells) | (with_reducible go_at_call 32; with_reducible refine (zelligeref07_near.calls c0 c1 d0 d1 _ _ Nc.out).mono ?_; rintro e v1 ⟨rfl, hb⟩; have S := Aside0.mk (S.out.below hb); clear hb k0 k1 k2 k3 k4 k5 k6 k7; obtain ⟨k0, k1, k2, k3, k4, k5, k6, k7⟩ := S.out.cells))
   go_meet
   exact ⟨rfl, S.out⟩
  cases m2
  ·go_wp2_with (first | (with_reducible go_at_call 32; with_reducible refine (zelligeref07_near.calls a0 a1 d0 d1 _ _ Na.out).mono ?_; rintro e v1 ⟨rfl, hb⟩; have S := Aside0.mk (S.out.below hb); clear hb k0 k1 k2 k3 k4 k5 k6 k7; obtain ⟨k0, k1, k2, k3, k4, k5, k6, k7⟩ := S.out.cells) | (with_reducible go_at_call 32; with_reducible refine (zelligeref07_near.calls b0 b1 d0 d1 _ _ Nb.out).mono ?_; rintro e v1 ⟨rfl, hb⟩; have S := Aside0.mk (S.out.below hb); clear hb k0 k1 k2 k3 k4 k5 k6 k7; obtain ⟨k0, k1, k2, k3, k4, k5, k6, k7⟩ := S.out.cells) | (with_reducible go_at_call 32; with_reducible refine (zelligeref07_near.calls c0 c1 d0 d1 _ _ Nc.out).mono ?_; rintro e v1 ⟨rfl, hb⟩; have S := Aside0.mk (S.out.below hb); clear hb k0 k1 k2 k3 k4 k5 k6 k7; obtain ⟨k0, k1, k2, k3, k4, k5, k6, k7⟩ := S.out.cells))
   go_meet
   exact ⟨rfl, S.out⟩
  cases m3
  ·go_wp2_with (first | (with_reducible go_at_call 32; with_reducible refine (zelligeref07_near.calls a0 a1 d0 d1 _ _ Na.out).mono ?_; rintro e v1 ⟨rfl, hb⟩; have S := Aside0.mk (S.out.below hb); clear hb k0 k1 k2 k3 k4 k5 k6 k7; obtain ⟨k0, k1, k2, k3, k4, k5, k6, k7⟩ := S.out.cells) | (with_reducible go_at_call 32; with_reducible refine (zelligeref07_near.calls b0 b1 d0 d1 _ _ Nb.out).mono ?_; rintro e v1 ⟨rfl, hb⟩; have S := Aside0.mk (S.out.below hb); clear hb k0 k1 k2 k3 k4 k5 k6 k7; obtain ⟨k0, k1, k2, k3, k4, k5, k6, k7⟩ := S.out.cells) | (with_reducible go_at_call 32; with_reducible refine (zelligeref07_near.calls c0 c1 d0 d1 _ _ Nc.out).mono ?_; rintro e v1 ⟨rfl, hb⟩; have S := Aside0.mk (S.out.below hb); clear hb k0 k1 k2 k3 k4 k5 k6 k7; obtain ⟨k0, k1, k2, k3, k4, k5, k6, k7⟩ := S.out.cells))
   go_meet
   exact ⟨rfl, S.out⟩
  exact (hm rfl rfl rfl).elim
 case rest =>
 obtain ⟨rfl, S⟩ := hcut
 clear k0 k1 k2 k3 k4 k5 k6 k7 Na Nb Nc hm
 obtain ⟨ha, hb, hc, hd⟩ := AH.out
 have Qa := ha; have Qb := hb; have Qc := hc; have Qd := hd
 have A0 := ha.1.way hd.1
 have A1 := ha.2.way hd.2
 have A2 := hb.1.way hd.1
 have A3 := hb.2.way hd.2
 have A4 := hc.1.way hd.1
 have A5 := hc.2.way hd.2
 have s0 := sm_am A0 (by omega)
 have s1 := sm_am A1 (by omega)
 have s2 := sm_am A2 (by omega)
 have s3 := sm_am A3 (by omega)
 have s4 := sm_am A4 (by omega)
 have s5 := sm_am A5 (by omega)
 have P0 := Am.mul A2 A5; have p0 := sm_am P0 (by omega)
 have P1 := Am.mul A3 A4; have p1 := sm_am P1 (by omega)
 have P2 := Am.mul A0 A5; have p2 := sm_am P2 (by omega)
 have P3 := Am.mul A1 A4; have p3 := sm_am P3 (by omega)
 have P4 := Am.mul A0 A3; have p4 := sm_am P4 (by omega)
 have P5 := Am.mul A1 A2; have p5 := sm_am P5 (by omega)
 have C0 := Am.sub P0 P1; have r0 := sm_am C0 (by omega)
 have C1 := Am.sub P2 P3; have r1 := sm_am C1 (by omega)
 have C2 := Am.sub P4 P5; have r2 := sm_am C2 (by omega)
 have T0 : Am (ds a0 a1 d0 d1) (2199023255552 * 2199023255552 + 2199023255552 * 2199023255552) := by unfold ds; exact Am.add (Am.mul (hd.1.way ha.1) (hd.1.way ha.1)) (Am.mul (hd.2.way ha.2) (hd.2.way ha.2))
 have t0 := sm_am T0 (by omega); have U0 := Am.mul T0 C0; have u0 := sm_am U0 (by omega)
 have T1 : Am (ds b0 b1 d0 d1) (2199023255552 * 2199023255552 + 2199023255552 * 2199023255552) := by unfold ds; exact Am.add (Am.mul (hd.1.way hb.1) (hd.1.way hb.1)) (Am.mul (hd.2.way hb.2) (hd.2.way hb.2))
 have t1 := sm_am T1 (by omega); have U1 := Am.mul T1 C1; have u1 := sm_am U1 (by omega)
 have T2 : Am (ds c0 c1 d0 d1) (2199023255552 * 2199023255552 + 2199023255552 * 2199023255552) := by unfold ds; exact Am.add (Am.mul (hd.1.way hc.1) (hd.1.way hc.1)) (Am.mul (hd.2.way hc.2) (hd.2.way hc.2))
 have t2 := sm_am T2 (by omega); have U2 := Am.mul T2 C2; have u2 := sm_am U2 (by omega)
 have v1 := sm_am (Am.sub U0 U1) (by omega)
 clear A0 P0 A1 P1 A2 P2 A3 P3 A4 P4 A5 P5 C0 T0 U0 C1 T1 U1 C2 T2 U2
 have h_a0 := co_wf ha.1; have h_a1 := co_wf ha.2; have h_b0 := co_wf hb.1; have h_b1 := co_wf hb.2; have h_c0 := co_wf hc.1; have h_c1 := co_wf hc.2; have h_d0 := co_wf hd.1; have h_d1 := co_wf hd.2
 go_wp2_with fail
 obtain ⟨G, hGd⟩ : ∃ G : World → Prop, G = (fun w' => Below w.heap.size w w' ∧ w.heap.size + 1 + 1 + 1 + 1 ≤ w'.heap.size ∧ w'.heap[w.heap.size]? = some (.cells #[.int .i64 a0, .int .i64 a1] 23 (0, 0)) ∧ w'.heap[w.heap.size + 1]? = some (.cells #[.int .i64 b0, .int .i64 b1] 23 (0, 0)) ∧ w'.heap[w.heap.size + 1 + 1]? = some (.cells #[.int .i64 c0, .int .i64 c1] 23 (0, 0)) ∧ w'.heap[w.heap.size + 1 + 1 + 1]? = some (.cells #[.int .i64 d0, .int .i64 d1] 23 (0, 0))) := ⟨_, rfl⟩
 have GM : ∀ w1 w2 : World, G w1 → Below w1.heap.size w1 w2 → G w2 := by
  subst hGd
  rintro w1 w2 ⟨HBl, HSz, Bx4, Bx5, Bx6, Bx7⟩ hb
  exact ⟨below_step HBl hb, Nat.le_trans HSz hb.size, blk_below Bx4 hb, blk_below Bx5 hb, blk_below Bx6 hb, blk_below Bx7 hb⟩
 have HM : ∀ w1 w2 : World, (fun _ => True) w1 → Below w1.heap.size w1 w2 → (fun _ => True) w2 := fun _ _ _ _ => True.intro
 have GS : ∀ (w1 : World) (g : Nat) (x0 y0 x y : Value), G w1 → w1.heap[g]? = some (.cells #[x0, y0] 33 (0, 0)) → w.heap.size ≤ g → ((w.heap.size = g ∨ w.heap.size + 1 = g ∨ w.heap.size + 1 + 1 = g ∨ w.heap.size + 1 + 1 + 1 = g) → False) → G ((w1.setCell ⟨g, 0, none⟩ x).setCell ⟨g, 1, none⟩ y) := by
  subst hGd
  rintro w1 g x0 y0 x y ⟨HBl, HSz, Bx4, Bx5, Bx6, Bx7⟩ hgh hle hne
  exact ⟨below_set2 HBl hle _ _ _ _, (by simpa [World.setCell] using HSz), blk_far (blk_far Bx4 (fun e => hne (by simp [e])) _) (fun e => hne (by simp [e])) _, blk_far (blk_far Bx5 (fun e => hne (by simp [e])) _) (fun e => hne (by simp [e])) _, blk_far (blk_far Bx6 (fun e => hne (by simp [e])) _) (fun e => hne (by simp [e])) _, blk_far (blk_far Bx7 (fun e => hne (by simp [e])) _) (fun e => hne (by simp [e])) _⟩
 refine start_ (n := 42) (S := fun w' => True) (ds := []) #[false, false, false, false, false, false, false, false, false, false, false, false, false, false, false, false, false, false, false, false, false, false, false, false, false, false, false, false, false, false, false, false, false, false, false, false, false, false, false, false, false, false] (by kernel_rfl) rfl rfl trivial (fun _ => ?_); refine with_tabW inc3.tab inc3.bits (fun HT_ HW_ => ?_)
 have hG0 : G wc.drew := by subst hGd; exact ⟨below_drew S.out.1, S.out.2.1, S.out.2.2.1, S.out.2.2.2.1, S.out.2.2.2.2.1, S.out.2.2.2.2.2⟩
 generalize wc.drew = W1 at hG0 ⊢
 refine inv_at [0, 1, 2, 3, 4, 5, 6, 7, 8, 9, 10, 11, 12, 13, 14, 15, 16, 17, 18, 19, 20, 21, 22, 23, 24, 25, 26, 27, 28, 29, 30, 31, 32, 33, 34, 35, 36, 37, 38, 39, 40, 41] (fun a0_ b a w' => Rg ⟨[0, 1, 2, 3, 4, 5, 6, 7, 8, 9, 10, 11, 12, 13, 14, 15, 16, 17, 18, 19, 20, 21, 22, 23, 24, 25, 26, 27, 28, 29, 30, 31, 32, 33, 34, 35, 36, 37, 38, 39, 40, 41], [(0, 34), (1, 35), (2, 36), (3, 37), (4, 38), (5, 39), (6, 40), (7, 41), (8, 42), (9, 43), (10, 44), (11, 45), (12, 46), (13, 47), (14, 48), (15, 49), (16, 50), (17, 51), (18, 52), (19, 53), (20, 54), (21, 55), (22, 56), (23, 57), (24, 58), (25, 59), (26, 60), (27, 61), (28, 62), (29, 63), (30, 9), (31, 10), (32, 11), (33, 12), (34, 13), (35, 14)], fun j => [.const (.pointer (some ⟨w.heap.size + 1 + 1 + 1, 0, none⟩)), .const (.int .i64 d0), .const (.pointer (some ⟨w.heap.size, 0, none⟩)), .const (.int .i64 a0), .ni (a0 - d0), .const (.pointer (some ⟨w.heap.size + 1 + 1 + 1, 1, none⟩)), .const (.int .i64 d1), .const (.pointer (some ⟨w.heap.size, 1, none⟩)), .const (.int .i64 a1), .ni (a1 - d1), .const (.pointer (some ⟨w.heap.size + 1 + 1 + 1, 0, none⟩)), .const (.int .i64 d0), .const (.pointer (some ⟨w.heap.size + 1, 0, none⟩)), .const (.int .i64 b0), .ni (b0 - d0), .const (.pointer (some ⟨w.heap.size + 1 + 1 + 1, 1, none⟩)), .const (.int .i64 d1), .const (.pointer (some ⟨w.heap.size + 1, 1, none⟩)), .const (.int .i64 b1), .ni (b1 - d1), .const (.pointer (some ⟨w.heap.size + 1 + 1 + 1, 0, none⟩)), .const (.int .i64 d0), .const (.pointer (some ⟨w.heap.size + 1 + 1, 0, none⟩)), .const (.int .i64 c0), .ni (c0 - d0), .const (.pointer (some ⟨w.heap.size + 1 + 1 + 1, 1, none⟩)), .const (.int .i64 d1), .const (.pointer (some ⟨w.heap.size + 1 + 1, 1, none⟩)), .const (.int .i64 c1), .ni (c1 - d1), .box, .box, .box, .box, .box, .box, .put 30 4, .put 31 9, .put 32 14, .put 33 19, .put 34 24, .put 35 29].getD j .box, w.heap.size + 1 + 1 + 1 + 1, 6, G, fun _ => True, 1000⟩ a0_ b a w') HT_.out HW_.out (by kernel_rfl) (by kernel_rfl) ?_ ?_ ?_
 ·exact rg0 hG0 True.intro
 ·refine steps_cons ?_ ?_
  ·rintro b a w' ⟨ms, hR⟩ hb_ hon hoff
   obtain ⟨ha, hF, hD, hG, _⟩ := id hR
   have hG1 := hG
   rw [hGd] at hG1
   obtain ⟨HBl, HSz, Bx4, Bx5, Bx6, Bx7⟩ := hG1
   have HH := True.intro
   refine ⟨_, rfl, fun K hK => ?_⟩
   have e7 : a.tmps[7]? = some (.pointer (some ⟨w.heap.size + 1 + 1 + 1, 0, none⟩)) := (off_ ha rfl).trans rfl
   have HR := Aside0.mk hR
   clear hR ha hF
   refine value_ (w1 := w') (v := .pointer (some ⟨w.heap.size + 1 + 1 + 1, 0, none⟩)) (by rfl) rfl ?_ ?_
   ·go_simp
    try rfl
   exact hK.out _ _ (step_ 0 HR.out rfl rfl hb_ (Below.refl _ _) hG rfl (fun h => by cases h) (fun _ => HH) rfl)
  refine steps_cons ?_ ?_
  ·rintro b a w' ⟨ms, hR⟩ hb_ hon hoff
   obtain ⟨ha, hF, hD, hG, _⟩ := id hR
   have hG1 := hG
   rw [hGd] at hG1
   obtain ⟨HBl, HSz, Bx4, Bx5, Bx6, Bx7⟩ := hG1
   have HH := True.intro
   refine ⟨_, rfl, fun K hK => ?_⟩
   have e34 : a.tmps[34]? = some (.pointer (some ⟨w.heap.size + 1 + 1 + 1, 0, none⟩)) := (on_ 0 ha rfl (hon 0 (by kernel_rfl)) rfl).trans (congrArg some (hF 0 (hon 0 (by kernel_rfl))))
   have hc : w'.cell? ⟨w.heap.size + 1 + 1 + 1, 0, none⟩ = some (.int .i64 d0) := (blk_cell Bx7 0).trans rfl
   have HR := Aside0.mk hR
   clear hR ha hF
   refine value_ (w1 := w') (v := .int .i64 d0) (by rfl) rfl ?_ ?_
   ·go_simp
    (try simp only [i64_w])
    try rfl
   exact hK.out _ _ (step_ 1 HR.out rfl rfl hb_ (Below.refl _ _) hG rfl (fun h => by cases h) (fun _ => HH) rfl)
  refine steps_cons ?_ ?_
  ·rintro b a w' ⟨ms, hR⟩ hb_ hon hoff
   obtain ⟨ha, hF, hD, hG, _⟩ := id hR
   have hG1 := hG
   rw [hGd] at hG1
   obtain ⟨HBl, HSz, Bx4, Bx5, Bx6, Bx7⟩ := hG1
   have HH := True.intro
   refine ⟨_, rfl, fun K hK => ?_⟩
   have e4 : a.tmps[4]? = some (.pointer (some ⟨w.heap.size, 0, none⟩)) := (off_ ha rfl).trans rfl
   have HR := Aside0.mk hR
   clear hR ha hF
   refine value_ (w1 := w') (v := .pointer (some ⟨w.heap.size, 0, none⟩)) (by rfl) rfl ?_ ?_
   ·go_simp
    try rfl
   exact hK.out _ _ (step_ 2 HR.out rfl rfl hb_ (Below.refl _ _) hG rfl (fun h => by cases h) (fun _ => HH) rfl)
  refine steps_cons ?_ ?_
  ·rintro b a w' ⟨ms, hR⟩ hb_ hon hoff
   obtain ⟨ha, hF, hD, hG, _⟩ := id hR
   have hG1 := hG
   rw [hGd] at hG1
   obtain ⟨HBl, HSz, Bx4, Bx5, Bx6, Bx7⟩ := hG1
   have HH := True.intro
   refine ⟨_, rfl, fun K hK => ?_⟩
   have e36 : a.tmps[36]? = some (.pointer (some ⟨w.heap.size, 0, none⟩)) := (on_ 2 ha rfl (hon 2 (by kernel_rfl)) rfl).trans (congrArg some (hF 2 (hon 2 (by kernel_rfl))))
   have hc : w'.cell? ⟨w.heap.size, 0, none⟩ = some (.int .i64 a0) := (blk_cell Bx4 0).trans rfl
   have HR := Aside0.mk hR
   clear hR ha hF
   refine value_ (w1 := w') (v := .int .i64 a0) (by rfl) rfl ?_ ?_
   ·go_simp
    (try simp only [i64_w])
    try rfl
   exact hK.out _ _ (step_ 3 HR.out rfl rfl hb_ (Below.refl _ _) hG rfl (fun h => by cases h) (fun _ => HH) rfl)
  refine steps_cons ?_ ?_
  ·rintro b a w' ⟨ms, hR⟩ hb_ hon hoff
   obtain ⟨ha, hF, hD, hG, _⟩ := id hR
   have hG1 := hG
   rw [hGd] at hG1
   obtain ⟨HBl, HSz, Bx4, Bx5, Bx6, Bx7⟩ := hG1
   have HH := True.intro
   refine ⟨_, rfl, fun K hK => ?_⟩
   have e35 : a.tmps[35]? = some (.int .i64 d0) := (on_ 1 ha rfl (hon 1 (by kernel_rfl)) rfl).trans (congrArg some (hF 1 (hon 1 (by kernel_rfl))))
   have e37 : a.tmps[37]? = some (.int .i64 a0) := (on_ 3 ha rfl (hon 3 (by kernel_rfl)) rfl).trans (congrArg some (hF 3 (hon 3 (by kernel_rfl))))
   refine goes_ Try.func34 (by kernel_rfl) rfl #[.int .i64 d0, .int .i64 a0] (by rfl) rfl rfl (by first | (simp only [List.map_toArray, List.map_cons, List.map_nil, Act.eval, Array.getD_eq_getD_getElem?, Option.getD_some, e35, e37]; done) | (simp only [List.map_toArray, List.map_cons, List.map_nil, Act.eval, Array.getD_eq_getD_getElem?, Option.getD_some, e35, e37]; rfl)) ?_
   with_reducible refine (diff_c d0 a0 h_d0 h_a0 _).mono ?_
   rintro e w1 ⟨r, rfl, hN, hb⟩
   exact ⟨_, rfl, hK.out _ _ (step_ 4 hR rfl rfl hb_ hb (GM _ _ hG hb) hN (fun h => by cases h) (fun _ => HM _ _ HH hb) rfl)⟩
  refine steps_cons ?_ ?_
  ·rintro b a w' ⟨ms, hR⟩ hb_ hon hoff
   obtain ⟨ha, hF, hD, hG, _⟩ := id hR
   have hG1 := hG
   rw [hGd] at hG1
   obtain ⟨HBl, HSz, Bx4, Bx5, Bx6, Bx7⟩ := hG1
   have HH := True.intro
   refine ⟨_, rfl, fun K hK => ?_⟩
   have e7 : a.tmps[7]? = some (.pointer (some ⟨w.heap.size + 1 + 1 + 1, 0, none⟩)) := (off_ ha rfl).trans rfl
   have HR := Aside0.mk hR
   clear hR ha hF
   refine value_ (w1 := w') (v := .pointer (some ⟨w.heap.size + 1 + 1 + 1, 1, none⟩)) (by rfl) rfl ?_ ?_
   ·go_simp
    try rfl
   exact hK.out _ _ (step_ 5 HR.out rfl rfl hb_ (Below.refl _ _) hG rfl (fun h => by cases h) (fun _ => HH) rfl)
  refine steps_cons ?_ ?_
  ·rintro b a w' ⟨ms, hR⟩ hb_ hon hoff
   obtain ⟨ha, hF, hD, hG, _⟩ := id hR
   have hG1 := hG
   rw [hGd] at hG1
   obtain ⟨HBl, HSz, Bx4, Bx5, Bx6, Bx7⟩ := hG1
   have HH := True.intro
   refine ⟨_, rfl, fun K hK => ?_⟩
   have e39 : a.tmps[39]? = some (.pointer (some ⟨w.heap.size + 1 + 1 + 1, 1, none⟩)) := (on_ 5 ha rfl (hon 5 (by kernel_rfl)) rfl).trans (congrArg some (hF 5 (hon 5 (by kernel_rfl))))
   have hc : w'.cell? ⟨w.heap.size + 1 + 1 + 1, 1, none⟩ = some (.int .i64 d1) := (blk_cell Bx7 1).trans rfl
   have HR := Aside0.mk hR
   clear hR ha hF
   refine value_ (w1 := w') (v := .int .i64 d1) (by rfl) rfl ?_ ?_
   ·go_simp
    (try simp only [i64_w])
    try rfl
   exact hK.out _ _ (step_ 6 HR.out rfl rfl hb_ (Below.refl _ _) hG rfl (fun h => by cases h) (fun _ => HH) rfl)
  refine steps_cons ?_ ?_
  ·rintro b a w' ⟨ms, hR⟩ hb_ hon hoff
   obtain ⟨ha, hF, hD, hG, _⟩ := id hR
   have hG1 := hG
   rw [hGd] at hG1
   obtain ⟨HBl, HSz, Bx4, Bx5, Bx6, Bx7⟩ := hG1
   have HH := True.intro
   refine ⟨_, rfl, fun K hK => ?_⟩
   have e4 : a.tmps[4]? = some (.pointer (some ⟨w.heap.size, 0, none⟩)) := (off_ ha rfl).trans rfl
   have HR := Aside0.mk hR
   clear hR ha hF
   refine value_ (w1 := w') (v := .pointer (some ⟨w.heap.size, 1, none⟩)) (by rfl) rfl ?_ ?_
   ·go_simp
    try rfl
   exact hK.out _ _ (step_ 7 HR.out rfl rfl hb_ (Below.refl _ _) hG rfl (fun h => by cases h) (fun _ => HH) rfl)
  refine steps_cons ?_ ?_
  ·rintro b a w' ⟨ms, hR⟩ hb_ hon hoff
   obtain ⟨ha, hF, hD, hG, _⟩ := id hR
   have hG1 := hG
   rw [hGd] at hG1
   obtain ⟨HBl, HSz, Bx4, Bx5, Bx6, Bx7⟩ := hG1
   have HH := True.intro
   refine ⟨_, rfl, fun K hK => ?_⟩
   have e41 : a.tmps[41]? = some (.pointer (some ⟨w.heap.size, 1, none⟩)) := (on_ 7 ha rfl (hon 7 (by kernel_rfl)) rfl).trans (congrArg some (hF 7 (hon 7 (by kernel_rfl))))
   have hc : w'.cell? ⟨w.heap.size, 1, none⟩ = some (.int .i64 a1) := (blk_cell Bx4 1).trans rfl
   have HR := Aside0.mk hR
   clear hR ha hF
   refine value_ (w1 := w') (v := .int .i64 a1) (by rfl) rfl ?_ ?_
   ·go_simp
    (try simp only [i64_w])
    try rfl
   exact hK.out _ _ (step_ 8 HR.out rfl rfl hb_ (Below.refl _ _) hG rfl (fun h => by cases h) (fun _ => HH) rfl)
  refine steps_cons ?_ ?_
  ·rintro b a w' ⟨ms, hR⟩ hb_ hon hoff
   obtain ⟨ha, hF, hD, hG, _⟩ := id hR
   have hG1 := hG
   rw [hGd] at hG1
   obtain ⟨HBl, HSz, Bx4, Bx5, Bx6, Bx7⟩ := hG1
   have HH := True.intro
   refine ⟨_, rfl, fun K hK => ?_⟩
   have e40 : a.tmps[40]? = some (.int .i64 d1) := (on_ 6 ha rfl (hon 6 (by kernel_rfl)) rfl).trans (congrArg some (hF 6 (hon 6 (by kernel_rfl))))
   have e42 : a.tmps[42]? = some (.int .i64 a1) := (on_ 8 ha rfl (hon 8 (by kernel_rfl)) rfl).trans (congrArg some (hF 8 (hon 8 (by kernel_rfl))))
   refine goes_ Try.func34 (by kernel_rfl) rfl #[.int .i64 d1, .int .i64 a1] (by rfl) rfl rfl (by first | (simp only [List.map_toArray, List.map_cons, List.map_nil, Act.eval, Array.getD_eq_getD_getElem?, Option.getD_some, e40, e42]; done) | (simp only [List.map_toArray, List.map_cons, List.map_nil, Act.eval, Array.getD_eq_getD_getElem?, Option.getD_some, e40, e42]; rfl)) ?_
   with_reducible refine (diff_c d1 a1 h_d1 h_a1 _).mono ?_
   rintro e w1 ⟨r, rfl, hN, hb⟩
   exact ⟨_, rfl, hK.out _ _ (step_ 9 hR rfl rfl hb_ hb (GM _ _ hG hb) hN (fun h => by cases h) (fun _ => HM _ _ HH hb) rfl)⟩
  refine steps_cons ?_ ?_
  ·rintro b a w' ⟨ms, hR⟩ hb_ hon hoff
   obtain ⟨ha, hF, hD, hG, _⟩ := id hR
   have hG1 := hG
   rw [hGd] at hG1
   obtain ⟨HBl, HSz, Bx4, Bx5, Bx6, Bx7⟩ := hG1
   have HH := True.intro
   refine ⟨_, rfl, fun K hK => ?_⟩
   have e7 : a.tmps[7]? = some (.pointer (some ⟨w.heap.size + 1 + 1 + 1, 0, none⟩)) := (off_ ha rfl).trans rfl
   have HR := Aside0.mk hR
   clear hR ha hF
   refine value_ (w1 := w') (v := .pointer (some ⟨w.heap.size + 1 + 1 + 1, 0, none⟩)) (by rfl) rfl ?_ ?_
   ·go_simp
    try rfl
   exact hK.out _ _ (step_ 10 HR.out rfl rfl hb_ (Below.refl _ _) hG rfl (fun h => by cases h) (fun _ => HH) rfl)
  refine steps_cons ?_ ?_
  ·rintro b a w' ⟨ms, hR⟩ hb_ hon hoff
   obtain ⟨ha, hF, hD, hG, _⟩ := id hR
   have hG1 := hG
   rw [hGd] at hG1
   obtain ⟨HBl, HSz, Bx4, Bx5, Bx6, Bx7⟩ := hG1
   have HH := True.intro
   refine ⟨_, rfl, fun K hK => ?_⟩
   have e44 : a.tmps[44]? = some (.pointer (some ⟨w.heap.size + 1 + 1 + 1, 0, none⟩)) := (on_ 10 ha rfl (hon 10 (by kernel_rfl)) rfl).trans (congrArg some (hF 10 (hon 10 (by kernel_rfl))))
   have hc : w'.cell? ⟨w.heap.size + 1 + 1 + 1, 0, none⟩ = some (.int .i64 d0) := (blk_cell Bx7 0).trans rfl
   have HR := Aside0.mk hR
   clear hR ha hF
   refine value_ (w1 := w') (v := .int .i64 d0) (by rfl) rfl ?_ ?_
   ·go_simp
    (try simp only [i64_w])
    try rfl
   exact hK.out _ _ (step_ 11 HR.out rfl rfl hb_ (Below.refl _ _) hG rfl (fun h => by cases h) (fun _ => HH) rfl)
  refine steps_cons ?_ ?_
  ·rintro b a w' ⟨ms, hR⟩ hb_ hon hoff
   obtain ⟨ha, hF, hD, hG, _⟩ := id hR
   have hG1 := hG
   rw [hGd] at hG1
   obtain ⟨HBl, HSz, Bx4, Bx5, Bx6, Bx7⟩ := hG1
   have HH := True.intro
   refine ⟨_, rfl, fun K hK => ?_⟩
   have e5 : a.tmps[5]? = some (.pointer (some ⟨w.heap.size + 1, 0, none⟩)) := (off_ ha rfl).trans rfl
   have HR := Aside0.mk hR
   clear hR ha hF
   refine value_ (w1 := w') (v := .pointer (some ⟨w.heap.size + 1, 0, none⟩)) (by rfl) rfl ?_ ?_
   ·go_simp
    try rfl
   exact hK.out _ _ (step_ 12 HR.out rfl rfl hb_ (Below.refl _ _) hG rfl (fun h => by cases h) (fun _ => HH) rfl)
  refine steps_cons ?_ ?_
  ·rintro b a w' ⟨ms, hR⟩ hb_ hon hoff
   obtain ⟨ha, hF, hD, hG, _⟩ := id hR
   have hG1 := hG
   rw [hGd] at hG1
   obtain ⟨HBl, HSz, Bx4, Bx5, Bx6, Bx7⟩ := hG1
   have HH := True.intro
   refine ⟨_, rfl, fun K hK => ?_⟩
   have e46 : a.tmps[46]? = some (.pointer (some ⟨w.heap.size + 1, 0, none⟩)) := (on_ 12 ha rfl (hon 12 (by kernel_rfl)) rfl).trans (congrArg some (hF 12 (hon 12 (by kernel_rfl))))
   have hc : w'.cell? ⟨w.heap.size + 1, 0, none⟩ = some (.int .i64 b0) := (blk_cell Bx5 0).trans rfl
   have HR := Aside0.mk hR
   clear hR ha hF
   refine value_ (w1 := w') (v := .int .i64 b0) (by rfl) rfl ?_ ?_
   ·go_simp
    (try simp only [i64_w])
    try rfl
   exact hK.out _ _ (step_ 13 HR.out rfl rfl hb_ (Below.refl _ _) hG rfl (fun h => by cases h) (fun _ => HH) rfl)
  refine steps_cons ?_ ?_
  ·rintro b a w' ⟨ms, hR⟩ hb_ hon hoff
   obtain ⟨ha, hF, hD, hG, _⟩ := id hR
   have hG1 := hG
   rw [hGd] at hG1
   obtain ⟨HBl, HSz, Bx4, Bx5, Bx6, Bx7⟩ := hG1
   have HH := True.intro
   refine ⟨_, rfl, fun K hK => ?_⟩
   have e45 : a.tmps[45]? = some (.int .i64 d0) := (on_ 11 ha rfl (hon 11 (by kernel_rfl)) rfl).trans (congrArg some (hF 11 (hon 11 (by kernel_rfl))))
   have e47 : a.tmps[47]? = some (.int .i64 b0) := (on_ 13 ha rfl (hon 13 (by kernel_rfl)) rfl).trans (congrArg some (hF 13 (hon 13 (by kernel_rfl))))
   refine goes_ Try.func34 (by kernel_rfl) rfl #[.int .i64 d0, .int .i64 b0] (by rfl) rfl rfl (by first | (simp only [List.map_toArray, List.map_cons, List.map_nil, Act.eval, Array.getD_eq_getD_getElem?, Option.getD_some, e45, e47]; done) | (simp only [List.map_toArray, List.map_cons, List.map_nil, Act.eval, Array.getD_eq_getD_getElem?, Option.getD_some, e45, e47]; rfl)) ?_
   with_reducible refine (diff_c d0 b0 h_d0 h_b0 _).mono ?_
   rintro e w1 ⟨r, rfl, hN, hb⟩
   exact ⟨_, rfl, hK.out _ _ (step_ 14 hR rfl rfl hb_ hb (GM _ _ hG hb) hN (fun h => by cases h) (fun _ => HM _ _ HH hb) rfl)⟩
  refine steps_cons ?_ ?_
  ·rintro b a w' ⟨ms, hR⟩ hb_ hon hoff
   obtain ⟨ha, hF, hD, hG, _⟩ := id hR
   have hG1 := hG
   rw [hGd] at hG1
   obtain ⟨HBl, HSz, Bx4, Bx5, Bx6, Bx7⟩ := hG1
   have HH := True.intro
   refine ⟨_, rfl, fun K hK => ?_⟩
   have e7 : a.tmps[7]? = some (.pointer (some ⟨w.heap.size + 1 + 1 + 1, 0, none⟩)) := (off_ ha rfl).trans rfl
   have HR := Aside0.mk hR
   clear hR ha hF
   refine value_ (w1 := w') (v := .pointer (some ⟨w.heap.size + 1 + 1 + 1, 1, none⟩)) (by rfl) rfl ?_ ?_
   ·go_simp
    try rfl
   exact hK.out _ _ (step_ 15 HR.out rfl rfl hb_ (Below.refl _ _) hG rfl (fun h => by cases h) (fun _ => HH) rfl)
  refine steps_cons ?_ ?_
  ·rintro b a w' ⟨ms, hR⟩ hb_ hon hoff
   obtain ⟨ha, hF, hD, hG, _⟩ := id hR
   have hG1 := hG
   rw [hGd] at hG1
   obtain ⟨HBl, HSz, Bx4, Bx5, Bx6, Bx7⟩ := hG1
   have HH := True.intro
   refine ⟨_, rfl, fun K hK => ?_⟩
   have e49 : a.tmps[49]? = some (.pointer (some ⟨w.heap.size + 1 + 1 + 1, 1, none⟩)) := (on_ 15 ha rfl (hon 15 (by kernel_rfl)) rfl).trans (congrArg some (hF 15 (hon 15 (by kernel_rfl))))
   have hc : w'.cell? ⟨w.heap.size + 1 + 1 + 1, 1, none⟩ = some (.int .i64 d1) := (blk_cell Bx7 1).trans rfl
   have HR := Aside0.mk hR
   clear hR ha hF
   refine value_ (w1 := w') (v := .int .i64 d1) (by rfl) rfl ?_ ?_
   ·go_simp
    (try simp only [i64_w])
    try rfl
   exact hK.out _ _ (step_ 16 HR.out rfl rfl hb_ (Below.refl _ _) hG rfl (fun h => by cases h) (fun _ => HH) rfl)
  refine steps_cons ?_ ?_
  ·rintro b a w' ⟨ms, hR⟩ hb_ hon hoff
   obtain ⟨ha, hF, hD, hG, _⟩ := id hR
   have hG1 := hG
   rw [hGd] at hG1
   obtain ⟨HBl, HSz, Bx4, Bx5, Bx6, Bx7⟩ := hG1
   have HH := True.intro
   refine ⟨_, rfl, fun K hK => ?_⟩
   have e5 : a.tmps[5]? = some (.pointer (some ⟨w.heap.size + 1, 0, none⟩)) := (off_ ha rfl).trans rfl
   have HR := Aside0.mk hR
   clear hR ha hF
   refine value_ (w1 := w') (v := .pointer (some ⟨w.heap.size + 1, 1, none⟩)) (by rfl) rfl ?_ ?_
   ·go_simp
    try rfl
   exact hK.out _ _ (step_ 17 HR.out rfl rfl hb_ (Below.refl _ _) hG rfl (fun h => by cases h) (fun _ => HH) rfl)
  refine steps_cons ?_ ?_
  ·rintro b a w' ⟨ms, hR⟩ hb_ hon hoff
   obtain ⟨ha, hF, hD, hG, _⟩ := id hR
   have hG1 := hG
   rw [hGd] at hG1
   obtain ⟨HBl, HSz, Bx4, Bx5, Bx6, Bx7⟩ := hG1
   have HH := True.intro
   refine ⟨_, rfl, fun K hK => ?_⟩
   have e51 : a.tmps[51]? = some (.pointer (some ⟨w.heap.size + 1, 1, none⟩)) := (on_ 17 ha rfl (hon 17 (by kernel_rfl)) rfl).trans (congrArg some (hF 17 (hon 17 (by kernel_rfl))))
   have hc : w'.cell? ⟨w.heap.size + 1, 1, none⟩ = some (.int .i64 b1) := (blk_cell Bx5 1).trans rfl
   have HR := Aside0.mk hR
   clear hR ha hF
   refine value_ (w1 := w') (v := .int .i64 b1) (by rfl) rfl ?_ ?_
   ·go_simp
    (try simp only [i64_w])
    try rfl
   exact hK.out _ _ (step_ 18 HR.out rfl rfl hb_ (Below.refl _ _) hG rfl (fun h => by cases h) (fun _ => HH) rfl)
  refine steps_cons ?_ ?_
  ·rintro b a w' ⟨ms, hR⟩ hb_ hon hoff
   obtain ⟨ha, hF, hD, hG, _⟩ := id hR
   have hG1 := hG
   rw [hGd] at hG1
   obtain ⟨HBl, HSz, Bx4, Bx5, Bx6, Bx7⟩ := hG1
   have HH := True.intro
   refine ⟨_, rfl, fun K hK => ?_⟩
   have e50 : a.tmps[50]? = some (.int .i64 d1) := (on_ 16 ha rfl (hon 16 (by kernel_rfl)) rfl).trans (congrArg some (hF 16 (hon 16 (by kernel_rfl))))
   have e52 : a.tmps[52]? = some (.int .i64 b1) := (on_ 18 ha rfl (hon 18 (by kernel_rfl)) rfl).trans (congrArg some (hF 18 (hon 18 (by kernel_rfl))))
   refine goes_ Try.func34 (by kernel_rfl) rfl #[.int .i64 d1, .int .i64 b1] (by rfl) rfl rfl (by first | (simp only [List.map_toArray, List.map_cons, List.map_nil, Act.eval, Array.getD_eq_getD_getElem?, Option.getD_some, e50, e52]; done) | (simp only [List.map_toArray, List.map_cons, List.map_nil, Act.eval, Array.getD_eq_getD_getElem?, Option.getD_some, e50, e52]; rfl)) ?_
   with_reducible refine (diff_c d1 b1 h_d1 h_b1 _).mono ?_
   rintro e w1 ⟨r, rfl, hN, hb⟩
   exact ⟨_, rfl, hK.out _ _ (step_ 19 hR rfl rfl hb_ hb (GM _ _ hG hb) hN (fun h => by cases h) (fun _ => HM _ _ HH hb) rfl)⟩
  refine steps_cons ?_ ?_
  ·rintro b a w' ⟨ms, hR⟩ hb_ hon hoff
   obtain ⟨ha, hF, hD, hG, _⟩ := id hR
   have hG1 := hG
   rw [hGd] at hG1
   obtain ⟨HBl, HSz, Bx4, Bx5, Bx6, Bx7⟩ := hG1
   have HH := True.intro
   refine ⟨_, rfl, fun K hK => ?_⟩
   have e7 : a.tmps[7]? = some (.pointer (some ⟨w.heap.size + 1 + 1 + 1, 0, none⟩)) := (off_ ha rfl).trans rfl
   have HR := Aside0.mk hR
   clear hR ha hF
   refine value_ (w1 := w') (v := .pointer (some ⟨w.heap.size + 1 + 1 + 1, 0, none⟩)) (by rfl) rfl ?_ ?_
   ·go_simp
    try rfl
   exact hK.out _ _ (step_ 20 HR.out rfl rfl hb_ (Below.refl _ _) hG rfl (fun h => by cases h) (fun _ => HH) rfl)
  refine steps_cons ?_ ?_
  ·rintro b a w' ⟨ms, hR⟩ hb_ hon hoff
   obtain ⟨ha, hF, hD, hG, _⟩ := id hR
   have hG1 := hG
   rw [hGd] at hG1
   obtain ⟨HBl, HSz, Bx4, Bx5, Bx6, Bx7⟩ := hG1
   have HH := True.intro
   refine ⟨_, rfl, fun K hK => ?_⟩
   have e54 : a.tmps[54]? = some (.pointer (some ⟨w.heap.size + 1 + 1 + 1, 0, none⟩)) := (on_ 20 ha rfl (hon 20 (by kernel_rfl)) rfl).trans (congrArg some (hF 20 (hon 20 (by kernel_rfl))))
   have hc : w'.cell? ⟨w.heap.size + 1 + 1 + 1, 0, none⟩ = some (.int .i64 d0) := (blk_cell Bx7 0).trans rfl
   have HR := Aside0.mk hR
   clear hR ha hF
   refine value_ (w1 := w') (v := .int .i64 d0) (by rfl) rfl ?_ ?_
   ·go_simp
    (try simp only [i64_w])
    try rfl
   exact hK.out _ _ (step_ 21 HR.out rfl rfl hb_ (Below.refl _ _) hG rfl (fun h => by cases h) (fun _ => HH) rfl)
  refine steps_cons ?_ ?_
  ·rintro b a w' ⟨ms, hR⟩ hb_ hon hoff
   obtain ⟨ha, hF, hD, hG, _⟩ := id hR
   have hG1 := hG
   rw [hGd] at hG1
   obtain ⟨HBl, HSz, Bx4, Bx5, Bx6, Bx7⟩ := hG1
   have HH := True.intro
   refine ⟨_, rfl, fun K hK => ?_⟩
   have e6 : a.tmps[6]? = some (.pointer (some ⟨w.heap.size + 1 + 1, 0, none⟩)) := (off_ ha rfl).trans rfl
   have HR := Aside0.mk hR
   clear hR ha hF
   refine value_ (w1 := w') (v := .pointer (some ⟨w.heap.size + 1 + 1, 0, none⟩)) (by rfl) rfl ?_ ?_
   ·go_simp
    try rfl
   exact hK.out _ _ (step_ 22 HR.out rfl rfl hb_ (Below.refl _ _) hG rfl (fun h => by cases h) (fun _ => HH) rfl)
  refine steps_cons ?_ ?_
  ·rintro b a w' ⟨ms, hR⟩ hb_ hon hoff
   obtain ⟨ha, hF, hD, hG, _⟩ := id hR
   have hG1 := hG
   rw [hGd] at hG1
   obtain ⟨HBl, HSz, Bx4, Bx5, Bx6, Bx7⟩ := hG1
   have HH := True.intro
   refine ⟨_, rfl, fun K hK => ?_⟩
   have e56 : a.tmps[56]? = some (.pointer (some ⟨w.heap.size + 1 + 1, 0, none⟩)) := (on_ 22 ha rfl (hon 22 (by kernel_rfl)) rfl).trans (congrArg some (hF 22 (hon 22 (by kernel_rfl))))
   have hc : w'.cell? ⟨w.heap.size + 1 + 1, 0, none⟩ = some (.int .i64 c0) := (blk_cell Bx6 0).trans rfl
   have HR := Aside0.mk hR
   clear hR ha hF
   refine value_ (w1 := w') (v := .int .i64 c0) (by rfl) rfl ?_ ?_
   ·go_simp
    (try simp only [i64_w])
    try rfl
   exact hK.out _ _ (step_ 23 HR.out rfl rfl hb_ (Below.refl _ _) hG rfl (fun h => by cases h) (fun _ => HH) rfl)
  refine steps_cons ?_ ?_
  ·rintro b a w' ⟨ms, hR⟩ hb_ hon hoff
   obtain ⟨ha, hF, hD, hG, _⟩ := id hR
   have hG1 := hG
   rw [hGd] at hG1
   obtain ⟨HBl, HSz, Bx4, Bx5, Bx6, Bx7⟩ := hG1
   have HH := True.intro
   refine ⟨_, rfl, fun K hK => ?_⟩
   have e55 : a.tmps[55]? = some (.int .i64 d0) := (on_ 21 ha rfl (hon 21 (by kernel_rfl)) rfl).trans (congrArg some (hF 21 (hon 21 (by kernel_rfl))))
   have e57 : a.tmps[57]? = some (.int .i64 c0) := (on_ 23 ha rfl (hon 23 (by kernel_rfl)) rfl).trans (congrArg some (hF 23 (hon 23 (by kernel_rfl))))
   refine goes_ Try.func34 (by kernel_rfl) rfl #[.int .i64 d0, .int .i64 c0] (by rfl) rfl rfl (by first | (simp only [List.map_toArray, List.map_cons, List.map_nil, Act.eval, Array.getD_eq_getD_getElem?, Option.getD_some, e55, e57]; done) | (simp only [List.map_toArray, List.map_cons, List.map_nil, Act.eval, Array.getD_eq_getD_getElem?, Option.getD_some, e55, e57]; rfl)) ?_
   with_reducible refine (diff_c d0 c0 h_d0 h_c0 _).mono ?_
   rintro e w1 ⟨r, rfl, hN, hb⟩
   exact ⟨_, rfl, hK.out _ _ (step_ 24 hR rfl rfl hb_ hb (GM _ _ hG hb) hN (fun h => by cases h) (fun _ => HM _ _ HH hb) rfl)⟩
  refine steps_cons ?_ ?_
  ·rintro b a w' ⟨ms, hR⟩ hb_ hon hoff
   obtain ⟨ha, hF, hD, hG, _⟩ := id hR
   have hG1 := hG
   rw [hGd] at hG1
   obtain ⟨HBl, HSz, Bx4, Bx5, Bx6, Bx7⟩ := hG1
   have HH := True.intro
   refine ⟨_, rfl, fun K hK => ?_⟩
   have e7 : a.tmps[7]? = some (.pointer (some ⟨w.heap.size + 1 + 1 + 1, 0, none⟩)) := (off_ ha rfl).trans rfl
   have HR := Aside0.mk hR
   clear hR ha hF
   refine value_ (w1 := w') (v := .pointer (some ⟨w.heap.size + 1 + 1 + 1, 1, none⟩)) (by rfl) rfl ?_ ?_
   ·go_simp
    try rfl
   exact hK.out _ _ (step_ 25 HR.out rfl rfl hb_ (Below.refl _ _) hG rfl (fun h => by cases h) (fun _ => HH) rfl)
  refine steps_cons ?_ ?_
  ·rintro b a w' ⟨ms, hR⟩ hb_ hon hoff
   obtain ⟨ha, hF, hD, hG, _⟩ := id hR
   have hG1 := hG
   rw [hGd] at hG1
   obtain ⟨HBl, HSz, Bx4, Bx5, Bx6, Bx7⟩ := hG1
   have HH := True.intro
   refine ⟨_, rfl, fun K hK => ?_⟩
   have e59 : a.tmps[59]? = some (.pointer (some ⟨w.heap.size + 1 + 1 + 1, 1, none⟩)) := (on_ 25 ha rfl (hon 25 (by kernel_rfl)) rfl).trans (congrArg some (hF 25 (hon 25 (by kernel_rfl))))
   have hc : w'.cell? ⟨w.heap.size + 1 + 1 + 1, 1, none⟩ = some (.int .i64 d1) := (blk_cell Bx7 1).trans rfl
   have HR := Aside0.mk hR
   clear hR ha hF
   refine value_ (w1 := w') (v := .int .i64 d1) (by rfl) rfl ?_ ?_
   ·go_simp
    (try simp only [i64_w])
    try rfl
   exact hK.out _ _ (step_ 26 HR.out rfl rfl hb_ (Below.refl _ _) hG rfl (fun h => by cases h) (fun _ => HH) rfl)
  refine steps_cons ?_ ?_
  ·rintro b a w' ⟨ms, hR⟩ hb_ hon hoff
   obtain ⟨ha, hF, hD, hG, _⟩ := id hR
   have hG1 := hG
   rw [hGd] at hG1
   obtain ⟨HBl, HSz, Bx4, Bx5, Bx6, Bx7⟩ := hG1
   have HH := True.intro
   refine ⟨_, rfl, fun K hK => ?_⟩
   have e6 : a.tmps[6]? = some (.pointer (some ⟨w.heap.size + 1 + 1, 0, none⟩)) := (off_ ha rfl).trans rfl
   have HR := Aside0.mk hR
   clear hR ha hF
   refine value_ (w1 := w') (v := .pointer (some ⟨w.heap.size + 1 + 1, 1, none⟩)) (by rfl) rfl ?_ ?_
   ·go_simp
    try rfl
   exact hK.out _ _ (step_ 27 HR.out rfl rfl hb_ (Below.refl _ _) hG rfl (fun h => by cases h) (fun _ => HH) rfl)
  refine steps_cons ?_ ?_
  ·rintro b a w' ⟨ms, hR⟩ hb_ hon hoff
   obtain ⟨ha, hF, hD, hG, _⟩ := id hR
   have hG1 := hG
   rw [hGd] at hG1
   obtain ⟨HBl, HSz, Bx4, Bx5, Bx6, Bx7⟩ := hG1
   have HH := True.intro
   refine ⟨_, rfl, fun K hK => ?_⟩
   have e61 : a.tmps[61]? = some (.pointer (some ⟨w.heap.size + 1 + 1, 1, none⟩)) := (on_ 27 ha rfl (hon 27 (by kernel_rfl)) rfl).trans (congrArg some (hF 27 (hon 27 (by kernel_rfl))))
   have hc : w'.cell? ⟨w.heap.size + 1 + 1, 1, none⟩ = some (.int .i64 c1) := (blk_cell Bx6 1).trans rfl
   have HR := Aside0.mk hR
   clear hR ha hF
   refine value_ (w1 := w') (v := .int .i64 c1) (by rfl) rfl ?_ ?_
   ·go_simp
    (try simp only [i64_w])
    try rfl
   exact hK.out _ _ (step_ 28 HR.out rfl rfl hb_ (Below.refl _ _) hG rfl (fun h => by cases h) (fun _ => HH) rfl)
  refine steps_cons ?_ ?_
  ·rintro b a w' ⟨ms, hR⟩ hb_ hon hoff
   obtain ⟨ha, hF, hD, hG, _⟩ := id hR
   have hG1 := hG
   rw [hGd] at hG1
   obtain ⟨HBl, HSz, Bx4, Bx5, Bx6, Bx7⟩ := hG1
   have HH := True.intro
   refine ⟨_, rfl, fun K hK => ?_⟩
   have e60 : a.tmps[60]? = some (.int .i64 d1) := (on_ 26 ha rfl (hon 26 (by kernel_rfl)) rfl).trans (congrArg some (hF 26 (hon 26 (by kernel_rfl))))
   have e62 : a.tmps[62]? = some (.int .i64 c1) := (on_ 28 ha rfl (hon 28 (by kernel_rfl)) rfl).trans (congrArg some (hF 28 (hon 28 (by kernel_rfl))))
   refine goes_ Try.func34 (by kernel_rfl) rfl #[.int .i64 d1, .int .i64 c1] (by rfl) rfl rfl (by first | (simp only [List.map_toArray, List.map_cons, List.map_nil, Act.eval, Array.getD_eq_getD_getElem?, Option.getD_some, e60, e62]; done) | (simp only [List.map_toArray, List.map_cons, List.map_nil, Act.eval, Array.getD_eq_getD_getElem?, Option.getD_some, e60, e62]; rfl)) ?_
   with_reducible refine (diff_c d1 c1 h_d1 h_c1 _).mono ?_
   rintro e w1 ⟨r, rfl, hN, hb⟩
   exact ⟨_, rfl, hK.out _ _ (step_ 29 hR rfl rfl hb_ hb (GM _ _ hG hb) hN (fun h => by cases h) (fun _ => HM _ _ HH hb) rfl)⟩
  refine steps_cons ?_ ?_
  ·rintro b a w' ⟨ms, hR⟩ hb_ hon hoff
   obtain ⟨ha, hF, hD, hG, _⟩ := id hR
   have hG1 := hG
   rw [hGd] at hG1
   obtain ⟨HBl, HSz, Bx4, Bx5, Bx6, Bx7⟩ := hG1
   have HH := True.intro
   refine ⟨_, rfl, fun K hK => ?_⟩
   refine box_step ?hg (N := 9) ?hd (cs := #[.int .i64 0, .slice none 0 0]) (t := 33) ?hr ?_; (case hd => rfl); (case hg => rfl); (case hr => first | (go_simp; done) | (go_simp; rfl))
   intro g hg w1 hbox hb
   exact hK.out _ _ (step_ 30 hR rfl rfl hb_ hb (GM _ _ hG hb) ⟨g, _, _, rfl, by rw [hg]; exact HSz, hbox⟩ (fun _ => by rw [hg]) (fun _ => HM _ _ HH hb) rfl)
  refine steps_cons ?_ ?_
  ·rintro b a w' ⟨ms, hR⟩ hb_ hon hoff
   obtain ⟨ha, hF, hD, hG, _⟩ := id hR
   have hG1 := hG
   rw [hGd] at hG1
   obtain ⟨HBl, HSz, Bx4, Bx5, Bx6, Bx7⟩ := hG1
   have HH := True.intro
   refine ⟨_, rfl, fun K hK => ?_⟩
   refine box_step ?hg (N := 10) ?hd (cs := #[.int .i64 0, .slice none 0 0]) (t := 33) ?hr ?_; (case hd => rfl); (case hg => rfl); (case hr => first | (go_simp; done) | (go_simp; rfl))
   intro g hg w1 hbox hb
   exact hK.out _ _ (step_ 31 hR rfl rfl hb_ hb (GM _ _ hG hb) ⟨g, _, _, rfl, by rw [hg]; exact HSz, hbox⟩ (fun _ => by rw [hg]) (fun _ => HM _ _ HH hb) rfl)
  refine steps_cons ?_ ?_
  ·rintro b a w' ⟨ms, hR⟩ hb_ hon hoff
   obtain ⟨ha, hF, hD, hG, _⟩ := id hR
   have hG1 := hG
   rw [hGd] at hG1
   obtain ⟨HBl, HSz, Bx4, Bx5, Bx6, Bx7⟩ := hG1
   have HH := True.intro
   refine ⟨_, rfl, fun K hK => ?_⟩
   refine box_step ?hg (N := 11) ?hd (cs := #[.int .i64 0, .slice none 0 0]) (t := 33) ?hr ?_; (case hd => rfl); (case hg => rfl); (case hr => first | (go_simp; done) | (go_simp; rfl))
   intro g hg w1 hbox hb
   exact hK.out _ _ (step_ 32 hR rfl rfl hb_ hb (GM _ _ hG hb) ⟨g, _, _, rfl, by rw [hg]; exact HSz, hbox⟩ (fun _ => by rw [hg]) (fun _ => HM _ _ HH hb) rfl)
  refine steps_cons ?_ ?_
  ·rintro b a w' ⟨ms, hR⟩ hb_ hon hoff
   obtain ⟨ha, hF, hD, hG, _⟩ := id hR
   have hG1 := hG
   rw [hGd] at hG1
   obtain ⟨HBl, HSz, Bx4, Bx5, Bx6, Bx7⟩ := hG1
   have HH := True.intro
   refine ⟨_, rfl, fun K hK => ?_⟩
   refine box_step ?hg (N := 12) ?hd (cs := #[.int .i64 0, .slice none 0 0]) (t := 33) ?hr ?_; (case hd => rfl); (case hg => rfl); (case hr => first | (go_simp; done) | (go_simp; rfl))
   intro g hg w1 hbox hb
   exact hK.out _ _ (step_ 33 hR rfl rfl hb_ hb (GM _ _ hG hb) ⟨g, _, _, rfl, by rw [hg]; exact HSz, hbox⟩ (fun _ => by rw [hg]) (fun _ => HM _ _ HH hb) rfl)
  refine steps_cons ?_ ?_
  ·rintro b a w' ⟨ms, hR⟩ hb_ hon hoff
   obtain ⟨ha, hF, hD, hG, _⟩ := id hR
   have hG1 := hG
   rw [hGd] at hG1
   obtain ⟨HBl, HSz, Bx4, Bx5, Bx6, Bx7⟩ := hG1
   have HH := True.intro
   refine ⟨_, rfl, fun K hK => ?_⟩
   refine box_step ?hg (N := 13) ?hd (cs := #[.int .i64 0, .slice none 0 0]) (t := 33) ?hr ?_; (case hd => rfl); (case hg => rfl); (case hr => first | (go_simp; done) | (go_simp; rfl))
   intro g hg w1 hbox hb
   exact hK.out _ _ (step_ 34 hR rfl rfl hb_ hb (GM _ _ hG hb) ⟨g, _, _, rfl, by rw [hg]; exact HSz, hbox⟩ (fun _ => by rw [hg]) (fun _ => HM _ _ HH hb) rfl)
  refine steps_cons ?_ ?_
  ·rintro b a w' ⟨ms, hR⟩ hb_ hon hoff
   obtain ⟨ha, hF, hD, hG, _⟩ := id hR
   have hG1 := hG
   rw [hGd] at hG1
   obtain ⟨HBl, HSz, Bx4, Bx5, Bx6, Bx7⟩ := hG1
   have HH := True.intro
   refine ⟨_, rfl, fun K hK => ?_⟩
   refine box_step ?hg (N := 14) ?hd (cs := #[.int .i64 0, .slice none 0 0]) (t := 33) ?hr ?_; (case hd => rfl); (case hg => rfl); (case hr => first | (go_simp; done) | (go_simp; rfl))
   intro g hg w1 hbox hb
   exact hK.out _ _ (step_ 35 hR rfl rfl hb_ hb (GM _ _ hG hb) ⟨g, _, _, rfl, by rw [hg]; exact HSz, hbox⟩ (fun _ => by rw [hg]) (fun _ => HM _ _ HH hb) rfl)
  refine steps_cons ?_ ?_
  ·rintro b a w' ⟨ms, hR⟩ hb_ hon hoff
   obtain ⟨ha, hF, hD, hG, _⟩ := id hR
   have hG1 := hG
   rw [hGd] at hG1
   obtain ⟨HBl, HSz, Bx4, Bx5, Bx6, Bx7⟩ := hG1
   have HH := True.intro
   refine ⟨_, rfl, fun K hK => ?_⟩
   have hn := hF 4 (hon 4 (by kernel_rfl))
   obtain ⟨sz, Az, lz, cz, ev⟩ := NI.shape hn
   have e38 : a.tmps[38]? = some (.agg #[.int .i64 sz, .slice Az lz cz]) := (on_ 4 ha rfl (hon 4 (by kernel_rfl)) rfl).trans (congrArg some ev)
   obtain ⟨g, x0, y0, eg, hgK, hgh⟩ := hF 30 (hon 30 (by kernel_rfl))
   replace hgK : w.heap.size + 1 + 1 + 1 + 1 ≤ g := hgK
   have e9 : a.tmps[9]? = some (.pointer (some ⟨g, 0, none⟩)) := (on_ 30 ha rfl (hon 30 (by kernel_rfl)) rfl).trans (congrArg some eg)
   have h0 : w'.cell? ⟨g, 0, none⟩ = some x0 := (blk_cell hgh 0).trans rfl
   have h1 : w'.cell? ⟨g, 1, none⟩ = some y0 := (blk_cell hgh 1).trans rfl
   have f0 := blk_frozen hgh 0
   have f1 := blk_frozen hgh 1
   have HR := Aside0.mk hR
   clear hR ha
   refine skip_ (w1 := ?_) (by rfl) rfl ?_ ?_
   rotate_left
   ·go_simp
    rfl
   exact hK.out _ _ (put_ HR.out rfl rfl hb_ rfl rfl (hon 30 (by kernel_rfl)) (hon 4 (by kernel_rfl)) rfl eg ev (GS _ g _ _ _ _ hG hgh (by omega) (fun h => by omega)) (fun _ => HH) rfl)
  refine steps_cons ?_ ?_
  ·rintro b a w' ⟨ms, hR⟩ hb_ hon hoff
   obtain ⟨ha, hF, hD, hG, _⟩ := id hR
   have hG1 := hG
   rw [hGd] at hG1
   obtain ⟨HBl, HSz, Bx4, Bx5, Bx6, Bx7⟩ := hG1
   have HH := True.intro
   refine ⟨_, rfl, fun K hK => ?_⟩
   have hn := hF 9 (hon 9 (by kernel_rfl))
   obtain ⟨sz, Az, lz, cz, ev⟩ := NI.shape hn
   have e43 : a.tmps[43]? = some (.agg #[.int .i64 sz, .slice Az lz cz]) := (on_ 9 ha rfl (hon 9 (by kernel_rfl)) rfl).trans (congrArg some ev)
   obtain ⟨g, x0, y0, eg, hgK, hgh⟩ := hF 31 (hon 31 (by kernel_rfl))
   replace hgK : w.heap.size + 1 + 1 + 1 + 1 ≤ g := hgK
   have e10 : a.tmps[10]? = some (.pointer (some ⟨g, 0, none⟩)) := (on_ 31 ha rfl (hon 31 (by kernel_rfl)) rfl).trans (congrArg some eg)
   have h0 : w'.cell? ⟨g, 0, none⟩ = some x0 := (blk_cell hgh 0).trans rfl
   have h1 : w'.cell? ⟨g, 1, none⟩ = some y0 := (blk_cell hgh 1).trans rfl
   have f0 := blk_frozen hgh 0
   have f1 := blk_frozen hgh 1
   have HR := Aside0.mk hR
   clear hR ha
   refine skip_ (w1 := ?_) (by rfl) rfl ?_ ?_
   rotate_left
   ·go_simp
    rfl
   exact hK.out _ _ (put_ HR.out rfl rfl hb_ rfl rfl (hon 31 (by kernel_rfl)) (hon 9 (by kernel_rfl)) rfl eg ev (GS _ g _ _ _ _ hG hgh (by omega) (fun h => by omega)) (fun _ => HH) rfl)
  refine steps_cons ?_ ?_
  ·rintro b a w' ⟨ms, hR⟩ hb_ hon hoff
   obtain ⟨ha, hF, hD, hG, _⟩ := id hR
   have hG1 := hG
   rw [hGd] at hG1
   obtain ⟨HBl, HSz, Bx4, Bx5, Bx6, Bx7⟩ := hG1
   have HH := True.intro
   refine ⟨_, rfl, fun K hK => ?_⟩
   have hn := hF 14 (hon 14 (by kernel_rfl))
   obtain ⟨sz, Az, lz, cz, ev⟩ := NI.shape hn
   have e48 : a.tmps[48]? = some (.agg #[.int .i64 sz, .slice Az lz cz]) := (on_ 14 ha rfl (hon 14 (by kernel_rfl)) rfl).trans (congrArg some ev)
   obtain ⟨g, x0, y0, eg, hgK, hgh⟩ := hF 32 (hon 32 (by kernel_rfl))
   replace hgK : w.heap.size + 1 + 1 + 1 + 1 ≤ g := hgK
   have e11 : a.tmps[11]? = some (.pointer (some ⟨g, 0, none⟩)) := (on_ 32 ha rfl (hon 32 (by kernel_rfl)) rfl).trans (congrArg some eg)
   have h0 : w'.cell? ⟨g, 0, none⟩ = some x0 := (blk_cell hgh 0).trans rfl
   have h1 : w'.cell? ⟨g, 1, none⟩ = some y0 := (blk_cell hgh 1).trans rfl
   have f0 := blk_frozen hgh 0
   have f1 := blk_frozen hgh 1
   have HR := Aside0.mk hR
   clear hR ha
   refine skip_ (w1 := ?_) (by rfl) rfl ?_ ?_
   rotate_left
   ·go_simp
    rfl
   exact hK.out _ _ (put_ HR.out rfl rfl hb_ rfl rfl (hon 32 (by kernel_rfl)) (hon 14 (by kernel_rfl)) rfl eg ev (GS _ g _ _ _ _ hG hgh (by omega) (fun h => by omega)) (fun _ => HH) rfl)
  refine steps_cons ?_ ?_
  ·rintro b a w' ⟨ms, hR⟩ hb_ hon hoff
   obtain ⟨ha, hF, hD, hG, _⟩ := id hR
   have hG1 := hG
   rw [hGd] at hG1
   obtain ⟨HBl, HSz, Bx4, Bx5, Bx6, Bx7⟩ := hG1
   have HH := True.intro
   refine ⟨_, rfl, fun K hK => ?_⟩
   have hn := hF 19 (hon 19 (by kernel_rfl))
   obtain ⟨sz, Az, lz, cz, ev⟩ := NI.shape hn
   have e53 : a.tmps[53]? = some (.agg #[.int .i64 sz, .slice Az lz cz]) := (on_ 19 ha rfl (hon 19 (by kernel_rfl)) rfl).trans (congrArg some ev)
   obtain ⟨g, x0, y0, eg, hgK, hgh⟩ := hF 33 (hon 33 (by kernel_rfl))
   replace hgK : w.heap.size + 1 + 1 + 1 + 1 ≤ g := hgK
   have e12 : a.tmps[12]? = some (.pointer (some ⟨g, 0, none⟩)) := (on_ 33 ha rfl (hon 33 (by kernel_rfl)) rfl).trans (congrArg some eg)
   have h0 : w'.cell? ⟨g, 0, none⟩ = some x0 := (blk_cell hgh 0).trans rfl
   have h1 : w'.cell? ⟨g, 1, none⟩ = some y0 := (blk_cell hgh 1).trans rfl
   have f0 := blk_frozen hgh 0
   have f1 := blk_frozen hgh 1
   have HR := Aside0.mk hR
   clear hR ha
   refine skip_ (w1 := ?_) (by rfl) rfl ?_ ?_
   rotate_left
   ·go_simp
    rfl
   exact hK.out _ _ (put_ HR.out rfl rfl hb_ rfl rfl (hon 33 (by kernel_rfl)) (hon 19 (by kernel_rfl)) rfl eg ev (GS _ g _ _ _ _ hG hgh (by omega) (fun h => by omega)) (fun _ => HH) rfl)
  refine steps_cons ?_ ?_
  ·rintro b a w' ⟨ms, hR⟩ hb_ hon hoff
   obtain ⟨ha, hF, hD, hG, _⟩ := id hR
   have hG1 := hG
   rw [hGd] at hG1
   obtain ⟨HBl, HSz, Bx4, Bx5, Bx6, Bx7⟩ := hG1
   have HH := True.intro
   refine ⟨_, rfl, fun K hK => ?_⟩
   have hn := hF 24 (hon 24 (by kernel_rfl))
   obtain ⟨sz, Az, lz, cz, ev⟩ := NI.shape hn
   have e58 : a.tmps[58]? = some (.agg #[.int .i64 sz, .slice Az lz cz]) := (on_ 24 ha rfl (hon 24 (by kernel_rfl)) rfl).trans (congrArg some ev)
   obtain ⟨g, x0, y0, eg, hgK, hgh⟩ := hF 34 (hon 34 (by kernel_rfl))
   replace hgK : w.heap.size + 1 + 1 + 1 + 1 ≤ g := hgK
   have e13 : a.tmps[13]? = some (.pointer (some ⟨g, 0, none⟩)) := (on_ 34 ha rfl (hon 34 (by kernel_rfl)) rfl).trans (congrArg some eg)
   have h0 : w'.cell? ⟨g, 0, none⟩ = some x0 := (blk_cell hgh 0).trans rfl
   have h1 : w'.cell? ⟨g, 1, none⟩ = some y0 := (blk_cell hgh 1).trans rfl
   have f0 := blk_frozen hgh 0
   have f1 := blk_frozen hgh 1
   have HR := Aside0.mk hR
   clear hR ha
   refine skip_ (w1 := ?_) (by rfl) rfl ?_ ?_
   rotate_left
   ·go_simp
    rfl
   exact hK.out _ _ (put_ HR.out rfl rfl hb_ rfl rfl (hon 34 (by kernel_rfl)) (hon 24 (by kernel_rfl)) rfl eg ev (GS _ g _ _ _ _ hG hgh (by omega) (fun h => by omega)) (fun _ => HH) rfl)
  refine steps_cons ?_ ?_
  ·rintro b a w' ⟨ms, hR⟩ hb_ hon hoff
   obtain ⟨ha, hF, hD, hG, _⟩ := id hR
   have hG1 := hG
   rw [hGd] at hG1
   obtain ⟨HBl, HSz, Bx4, Bx5, Bx6, Bx7⟩ := hG1
   have HH := True.intro
   refine ⟨_, rfl, fun K hK => ?_⟩
   have hn := hF 29 (hon 29 (by kernel_rfl))
   obtain ⟨sz, Az, lz, cz, ev⟩ := NI.shape hn
   have e63 : a.tmps[63]? = some (.agg #[.int .i64 sz, .slice Az lz cz]) := (on_ 29 ha rfl (hon 29 (by kernel_rfl)) rfl).trans (congrArg some ev)
   obtain ⟨g, x0, y0, eg, hgK, hgh⟩ := hF 35 (hon 35 (by kernel_rfl))
   replace hgK : w.heap.size + 1 + 1 + 1 + 1 ≤ g := hgK
   have e14 : a.tmps[14]? = some (.pointer (some ⟨g, 0, none⟩)) := (on_ 35 ha rfl (hon 35 (by kernel_rfl)) rfl).trans (congrArg some eg)
   have h0 : w'.cell? ⟨g, 0, none⟩ = some x0 := (blk_cell hgh 0).trans rfl
   have h1 : w'.cell? ⟨g, 1, none⟩ = some y0 := (blk_cell hgh 1).trans rfl
   have f0 := blk_frozen hgh 0
   have f1 := blk_frozen hgh 1
   have HR := Aside0.mk hR
   clear hR ha
   refine skip_ (w1 := ?_) (by rfl) rfl ?_ ?_
   rotate_left
   ·go_simp
    rfl
   exact hK.out _ _ (put_ HR.out rfl rfl hb_ rfl rfl (hon 35 (by kernel_rfl)) (hon 29 (by kernel_rfl)) rfl eg ev (GS _ g _ _ _ _ hG hgh (by omega) (fun h => by omega)) (fun _ => HH) rfl)
  exact steps_nil
 rintro b a V3 hall ⟨ms, ha, hF, hD, hG, _⟩
 rw [hGd] at hG
 obtain ⟨HBl, HSz, Bx4, Bx5, Bx6, Bx7⟩ := hG
 have bb3_0 := hall 0 (by kernel_rfl)
 have bb3_1 := hall 1 (by kernel_rfl)
 have bb3_2 := hall 2 (by kernel_rfl)
 have bb3_3 := hall 3 (by kernel_rfl)
 have bb3_4 := hall 4 (by kernel_rfl)
 have bb3_5 := hall 5 (by kernel_rfl)
 have bb3_6 := hall 6 (by kernel_rfl)
 have bb3_7 := hall 7 (by kernel_rfl)
 have bb3_8 := hall 8 (by kernel_rfl)
 have bb3_9 := hall 9 (by kernel_rfl)
 have bb3_10 := hall 10 (by kernel_rfl)
 have bb3_11 := hall 11 (by kernel_rfl)
 have bb3_12 := hall 12 (by kernel_rfl)
 have bb3_13 := hall 13 (by kernel_rfl)
 have bb3_14 := hall 14 (by kernel_rfl)
 have bb3_15 := hall 15 (by kernel_rfl)
 have bb3_16 := hall 16 (by kernel_rfl)
 have bb3_17 := hall 17 (by kernel_rfl)
 have bb3_18 := hall 18 (by kernel_rfl)
 have bb3_19 := hall 19 (by kernel_rfl)
 have bb3_20 := hall 20 (by kernel_rfl)
 have bb3_21 := hall 21 (by kernel_rfl)
 have bb3_22 := hall 22 (by kernel_rfl)
 have bb3_23 := hall 23 (by kernel_rfl)
 have bb3_24 := hall 24 (by kernel_rfl)
 have bb3_25 := hall 25 (by kernel_rfl)
 have bb3_26 := hall 26 (by kernel_rfl)
 have bb3_27 := hall 27 (by kernel_rfl)
 have bb3_28 := hall 28 (by kernel_rfl)
 have bb3_29 := hall 29 (by kernel_rfl)
 have bb3_30 := hall 30 (by kernel_rfl)
 have bb3_31 := hall 31 (by kernel_rfl)
 have bb3_32 := hall 32 (by kernel_rfl)
 have bb3_33 := hall 33 (by kernel_rfl)
 have bb3_34 := hall 34 (by kernel_rfl)
 have bb3_35 := hall 35 (by kernel_rfl)
 have bb3_36 := hall 36 (by kernel_rfl)
 have bb3_37 := hall 37 (by kernel_rfl)
 have bb3_38 := hall 38 (by kernel_rfl)
 have bb3_39 := hall 39 (by kernel_rfl)
 have bb3_40 := hall 40 (by kernel_rfl)
 have bb3_41 := hall 41 (by kernel_rfl)
 have m3_0 : ms 0 = .pointer (some ⟨w.heap.size + 1 + 1 + 1, 0, none⟩) := hF 0 bb3_0
 have m3_1 : ms 1 = .int .i64 d0 := hF 1 bb3_1
 have m3_2 : ms 2 = .pointer (some ⟨w.heap.size, 0, none⟩) := hF 2 bb3_2
 have m3_3 : ms 3 = .int .i64 a0 := hF 3 bb3_3
 have m3_4 : NI V3 (ms 4) (a0 - d0) := hF 4 bb3_4
 have m3_5 : ms 5 = .pointer (some ⟨w.heap.size + 1 + 1 + 1, 1, none⟩) := hF 5 bb3_5
 have m3_6 : ms 6 = .int .i64 d1 := hF 6 bb3_6
 have m3_7 : ms 7 = .pointer (some ⟨w.heap.size, 1, none⟩) := hF 7 bb3_7
 have m3_8 : ms 8 = .int .i64 a1 := hF 8 bb3_8
 have m3_9 : NI V3 (ms 9) (a1 - d1) := hF 9 bb3_9
 have m3_10 : ms 10 = .pointer (some ⟨w.heap.size + 1 + 1 + 1, 0, none⟩) := hF 10 bb3_10
 have m3_11 : ms 11 = .int .i64 d0 := hF 11 bb3_11
 have m3_12 : ms 12 = .pointer (some ⟨w.heap.size + 1, 0, none⟩) := hF 12 bb3_12
 have m3_13 : ms 13 = .int .i64 b0 := hF 13 bb3_13
 have m3_14 : NI V3 (ms 14) (b0 - d0) := hF 14 bb3_14
 have m3_15 : ms 15 = .pointer (some ⟨w.heap.size + 1 + 1 + 1, 1, none⟩) := hF 15 bb3_15
 have m3_16 : ms 16 = .int .i64 d1 := hF 16 bb3_16
 have m3_17 : ms 17 = .pointer (some ⟨w.heap.size + 1, 1, none⟩) := hF 17 bb3_17
 have m3_18 : ms 18 = .int .i64 b1 := hF 18 bb3_18
 have m3_19 : NI V3 (ms 19) (b1 - d1) := hF 19 bb3_19
 have m3_20 : ms 20 = .pointer (some ⟨w.heap.size + 1 + 1 + 1, 0, none⟩) := hF 20 bb3_20
 have m3_21 : ms 21 = .int .i64 d0 := hF 21 bb3_21
 have m3_22 : ms 22 = .pointer (some ⟨w.heap.size + 1 + 1, 0, none⟩) := hF 22 bb3_22
 have m3_23 : ms 23 = .int .i64 c0 := hF 23 bb3_23
 have m3_24 : NI V3 (ms 24) (c0 - d0) := hF 24 bb3_24
 have m3_25 : ms 25 = .pointer (some ⟨w.heap.size + 1 + 1 + 1, 1, none⟩) := hF 25 bb3_25
 have m3_26 : ms 26 = .int .i64 d1 := hF 26 bb3_26
 have m3_27 : ms 27 = .pointer (some ⟨w.heap.size + 1 + 1, 1, none⟩) := hF 27 bb3_27
 have m3_28 : ms 28 = .int .i64 c1 := hF 28 bb3_28
 have m3_29 : NI V3 (ms 29) (c1 - d1) := hF 29 bb3_29
 obtain ⟨g3_30, _, _, m3_30, k3_30, _⟩ := hF 30 bb3_30
 replace k3_30 : w.heap.size + 1 + 1 + 1 + 1 ≤ g3_30 := k3_30
 obtain ⟨g3_31, _, _, m3_31, k3_31, _⟩ := hF 31 bb3_31
 replace k3_31 : w.heap.size + 1 + 1 + 1 + 1 ≤ g3_31 := k3_31
 obtain ⟨g3_32, _, _, m3_32, k3_32, _⟩ := hF 32 bb3_32
 replace k3_32 : w.heap.size + 1 + 1 + 1 + 1 ≤ g3_32 := k3_32
 obtain ⟨g3_33, _, _, m3_33, k3_33, _⟩ := hF 33 bb3_33
 replace k3_33 : w.heap.size + 1 + 1 + 1 + 1 ≤ g3_33 := k3_33
 obtain ⟨g3_34, _, _, m3_34, k3_34, _⟩ := hF 34 bb3_34
 replace k3_34 : w.heap.size + 1 + 1 + 1 + 1 ≤ g3_34 := k3_34
 obtain ⟨g3_35, _, _, m3_35, k3_35, _⟩ := hF 35 bb3_35
 replace k3_35 : w.heap.size + 1 + 1 + 1 + 1 ≤ g3_35 := k3_35
 obtain ⟨_, _, _, _, z3_36, x3_36, y3_36, n3_36, e3_36, h3_36⟩ := hF 36 bb3_36
 obtain rfl : g3_30 = z3_36 := by rw [m3_30] at n3_36; injection n3_36 with q; injection q with q; injection q with q
 rw [e3_36] at m3_4
 obtain ⟨_, _, _, _, z3_37, x3_37, y3_37, n3_37, e3_37, h3_37⟩ := hF 37 bb3_37
 obtain rfl : g3_31 = z3_37 := by rw [m3_31] at n3_37; injection n3_37 with q; injection q with q; injection q with q
 rw [e3_37] at m3_9
 obtain ⟨_, _, _, _, z3_38, x3_38, y3_38, n3_38, e3_38, h3_38⟩ := hF 38 bb3_38
 obtain rfl : g3_32 = z3_38 := by rw [m3_32] at n3_38; injection n3_38 with q; injection q with q; injection q with q
 rw [e3_38] at m3_14
 obtain ⟨_, _, _, _, z3_39, x3_39, y3_39, n3_39, e3_39, h3_39⟩ := hF 39 bb3_39
 obtain rfl : g3_33 = z3_39 := by rw [m3_33] at n3_39; injection n3_39 with q; injection q with q; injection q with q
 rw [e3_39] at m3_19
 obtain ⟨_, _, _, _, z3_40, x3_40, y3_40, n3_40, e3_40, h3_40⟩ := hF 40 bb3_40
 obtain rfl : g3_34 = z3_40 := by rw [m3_34] at n3_40; injection n3_40 with q; injection q with q; injection q with q
 rw [e3_40] at m3_24
 obtain ⟨_, _, _, _, z3_41, x3_41, y3_41, n3_41, e3_41, h3_41⟩ := hF 41 bb3_41
 obtain rfl : g3_35 = z3_41 := by rw [m3_35] at n3_41; injection n3_41 with q; injection q with q; injection q with q
 rw [e3_41] at m3_29
 subst ha
 simp only [ent, List.map_cons, List.map_nil, putSel, bb3_0, bb3_1, bb3_2, bb3_3, bb3_4, bb3_5, bb3_6, bb3_7, bb3_8, bb3_9, bb3_10, bb3_11, bb3_12, bb3_13, bb3_14, bb3_15, bb3_16, bb3_17, bb3_18, bb3_19, bb3_20, bb3_21, bb3_22, bb3_23, bb3_24, bb3_25, bb3_26, bb3_27, bb3_28, bb3_29, bb3_30, bb3_31, bb3_32, bb3_33, bb3_34, bb3_35, m3_0, m3_1, m3_2, m3_3, m3_5, m3_6, m3_7, m3_8, m3_10, m3_11, m3_12, m3_13, m3_15, m3_16, m3_17, m3_18, m3_20, m3_21, m3_22, m3_23, m3_25, m3_26, m3_27, m3_28, m3_30, m3_31, m3_32, m3_33, m3_34, m3_35, if_true, Act.put, List.setIfInBounds_toArray, List.set_cons_zero, List.set_cons_succ]
 clear hF hD bb3_0 bb3_1 bb3_2 bb3_3 bb3_4 bb3_5 bb3_6 bb3_7 bb3_8 bb3_9 bb3_10 bb3_11 bb3_12 bb3_13 bb3_14 bb3_15 bb3_16 bb3_17 bb3_18 bb3_19 bb3_20 bb3_21 bb3_22 bb3_23 bb3_24 bb3_25 bb3_26 bb3_27 bb3_28 bb3_29 bb3_30 bb3_31 bb3_32 bb3_33 bb3_34 bb3_35 bb3_36 bb3_37 bb3_38 bb3_39 bb3_40 bb3_41
 have l3_36 := blk_lt h3_36; have l3_37 := blk_lt h3_37; have l3_38 := blk_lt h3_38; have l3_39 := blk_lt h3_39; have l3_40 := blk_lt h3_40; have l3_41 := blk_lt h3_41; have lw : w.heap.size ≤ V3.heap.size := HBl.size; have lb : w.heap.size + 1 + 1 + 1 + 1 ≤ V3.heap.size := HSz
 go_wp2_with fail
 obtain ⟨G, hGd⟩ : ∃ G : World → Prop, G = (fun w' => Below w.heap.size w w' ∧ V3.heap.size ≤ w'.heap.size ∧ w'.heap[w.heap.size]? = some (.cells #[.int .i64 a0, .int .i64 a1] 23 (0, 0)) ∧ w'.heap[w.heap.size + 1]? = some (.cells #[.int .i64 b0, .int .i64 b1] 23 (0, 0)) ∧ w'.heap[w.heap.size + 1 + 1]? = some (.cells #[.int .i64 c0, .int .i64 c1] 23 (0, 0)) ∧ w'.heap[w.heap.size + 1 + 1 + 1]? = some (.cells #[.int .i64 d0, .int .i64 d1] 23 (0, 0)) ∧ w'.heap[g3_30]? = some (.cells #[x3_36, y3_36] 33 (0, 0)) ∧ w'.heap[g3_31]? = some (.cells #[x3_37, y3_37] 33 (0, 0)) ∧ w'.heap[g3_32]? = some (.cells #[x3_38, y3_38] 33 (0, 0)) ∧ w'.heap[g3_33]? = some (.cells #[x3_39, y3_39] 33 (0, 0)) ∧ w'.heap[g3_34]? = some (.cells #[x3_40, y3_40] 33 (0, 0)) ∧ w'.heap[g3_35]? = some (.cells #[x3_41, y3_41] 33 (0, 0)) ∧ NI w' (.agg #[x3_36, y3_36]) (a0 - d0) ∧ NI w' (.agg #[x3_37, y3_37]) (a1 - d1) ∧ NI w' (.agg #[x3_38, y3_38]) (b0 - d0) ∧ NI w' (.agg #[x3_39, y3_39]) (b1 - d1) ∧ NI w' (.agg #[x3_40, y3_40]) (c0 - d0) ∧ NI w' (.agg #[x3_41, y3_41]) (c1 - d1)) := ⟨_, rfl⟩
 have GM : ∀ w1 w2 : World, G w1 → Below w1.heap.size w1 w2 → G w2 := by
  subst hGd
  rintro w1 w2 ⟨HBl, HSz, Bx4, Bx5, Bx6, Bx7, Bx9, Bx10, Bx11, Bx12, Bx13, Bx14, Ni0, Ni1, Ni2, Ni3, Ni4, Ni5⟩ hb
  exact ⟨below_step HBl hb, Nat.le_trans HSz hb.size, blk_below Bx4 hb, blk_below Bx5 hb, blk_below Bx6 hb, blk_below Bx7 hb, blk_below Bx9 hb, blk_below Bx10 hb, blk_below Bx11 hb, blk_below Bx12 hb, blk_below Bx13 hb, blk_below Bx14 hb, NI.below Ni0 hb, NI.below Ni1 hb, NI.below Ni2 hb, NI.below Ni3 hb, NI.below Ni4 hb, NI.below Ni5 hb⟩
 have HM : ∀ w1 w2 : World, (fun _ => True) w1 → Below w1.heap.size w1 w2 → (fun _ => True) w2 := fun _ _ _ _ => True.intro
 have GS : ∀ (w1 : World) (g : Nat) (x0 y0 x y : Value), G w1 → w1.heap[g]? = some (.cells #[x0, y0] 33 (0, 0)) → w.heap.size ≤ g → ((w.heap.size = g ∨ w.heap.size + 1 = g ∨ w.heap.size + 1 + 1 = g ∨ w.heap.size + 1 + 1 + 1 = g ∨ g3_30 = g ∨ g3_31 = g ∨ g3_32 = g ∨ g3_33 = g ∨ g3_34 = g ∨ g3_35 = g) → False) → G ((w1.setCell ⟨g, 0, none⟩ x).setCell ⟨g, 1, none⟩ y) := by
  subst hGd
  rintro w1 g x0 y0 x y ⟨HBl, HSz, Bx4, Bx5, Bx6, Bx7, Bx9, Bx10, Bx11, Bx12, Bx13, Bx14, Ni0, Ni1, Ni2, Ni3, Ni4, Ni5⟩ hgh hle hne
  exact ⟨below_set2 HBl hle _ _ _ _, (by simpa [World.setCell] using HSz), blk_far (blk_far Bx4 (fun e => hne (by simp [e])) _) (fun e => hne (by simp [e])) _, blk_far (blk_far Bx5 (fun e => hne (by simp [e])) _) (fun e => hne (by simp [e])) _, blk_far (blk_far Bx6 (fun e => hne (by simp [e])) _) (fun e => hne (by simp [e])) _, blk_far (blk_far Bx7 (fun e => hne (by simp [e])) _) (fun e => hne (by simp [e])) _, blk_far (blk_far Bx9 (fun e => hne (by simp [e])) _) (fun e => hne (by simp [e])) _, blk_far (blk_far Bx10 (fun e => hne (by simp [e])) _) (fun e => hne (by simp [e])) _, blk_far (blk_far Bx11 (fun e => hne (by simp [e])) _) (fun e => hne (by simp [e])) _, blk_far (blk_far Bx12 (fun e => hne (by simp [e])) _) (fun e => hne (by simp [e])) _, blk_far (blk_far Bx13 (fun e => hne (by simp [e])) _) (fun e => hne (by simp [e])) _, blk_far (blk_far Bx14 (fun e => hne (by simp [e])) _) (fun e => hne (by simp [e])) _, NI.store (NI.store Ni0 hgh (by decide) 0 _) (blk_put hgh 0 _ rfl) (by decide) 1 _, NI.store (NI.store Ni1 hgh (by decide) 0 _) (blk_put hgh 0 _ rfl) (by decide) 1 _, NI.store (NI.store Ni2 hgh (by decide) 0 _) (blk_put hgh 0 _ rfl) (by decide) 1 _, NI.store (NI.store Ni3 hgh (by decide) 0 _) (blk_put hgh 0 _ rfl) (by decide) 1 _, NI.store (NI.store Ni4 hgh (by decide) 0 _) (blk_put hgh 0 _ rfl) (by decide) 1 _, NI.store (NI.store Ni5 hgh (by decide) 0 _) (blk_put hgh 0 _ rfl) (by decide) 1 _⟩
 refine start_ (n := 13) (S := fun w' => True) (ds := []) #[false, false, false, false, false, false, false, false, false, false, false, false, false] (by kernel_rfl) rfl rfl trivial (fun _ => ?_); refine with_tabW inc4.tab inc4.bits (fun HT_ HW_ => ?_)
 have hG0 : G V3.drew := by subst hGd; exact ⟨below_drew HBl, Nat.le_refl _, Bx4, Bx5, Bx6, Bx7, h3_36, h3_37, h3_38, h3_39, h3_40, h3_41, m3_4.drewN 1, m3_9.drewN 1, m3_14.drewN 1, m3_19.drewN 1, m3_24.drewN 1, m3_29.drewN 1⟩
 generalize V3.drew = W1 at hG0 ⊢
 refine inv_at [0, 1, 2, 3, 4, 5, 6, 7, 8, 9, 10, 11, 12] (fun a0_ b a w' => Rg ⟨[0, 1, 2, 3, 4, 5, 6, 7, 8, 9, 10, 11, 12], [(0, 64), (1, 65), (2, 66), (3, 67), (4, 68), (5, 69), (6, 70), (7, 71), (8, 72), (9, 73), (10, 74), (11, 15)], fun j => [.const (.agg #[.int .i64 a0, .int .i64 a1]), .const (.agg #[.int .i64 d0, .int .i64 d1]), .ni (ds a0 a1 d0 d1), .const (.agg #[x3_38, y3_38]), .const (.agg #[x3_41, y3_41]), .ni ((b0 - d0) * (c1 - d1)), .const (.agg #[x3_39, y3_39]), .const (.agg #[x3_40, y3_40]), .ni ((b1 - d1) * (c0 - d0)), .ni (((b0 - d0) * (c1 - d1)) - ((b1 - d1) * (c0 - d0))), .ni ((ds a0 a1 d0 d1) * (((b0 - d0) * (c1 - d1)) - ((b1 - d1) * (c0 - d0)))), .box, .put 11 10].getD j .box, V3.heap.size, 1, G, fun _ => True, 1000⟩ a0_ b a w') HT_.out HW_.out (by kernel_rfl) (by kernel_rfl) ?_ ?_ ?_
 ·exact rg0 hG0 True.intro
 ·refine steps_cons ?_ ?_
  ·rintro b a w' ⟨ms, hR⟩ hb_ hon hoff
   obtain ⟨ha, hF, hD, hG, _⟩ := id hR
   have hG1 := hG
   rw [hGd] at hG1
   obtain ⟨HBl, HSz, Bx4, Bx5, Bx6, Bx7, Bx9, Bx10, Bx11, Bx12, Bx13, Bx14, Ni0, Ni1, Ni2, Ni3, Ni4, Ni5⟩ := hG1
   have HH := True.intro
   refine ⟨_, rfl, fun K hK => ?_⟩
   have e4 : a.tmps[4]? = some (.pointer (some ⟨w.heap.size, 0, none⟩)) := (off_ ha rfl).trans rfl
   have hc0 : w'.cell? ⟨w.heap.size, 0, none⟩ = some (.int .i64 a0) := (blk_cell Bx4 0).trans rfl
   have hc1 : w'.cell? ⟨w.heap.size, 1, none⟩ = some (.int .i64 a1) := (blk_cell Bx4 1).trans rfl
   have HR := Aside0.mk hR
   clear hR ha hF
   refine value_ (w1 := w') (v := .agg #[.int .i64 a0, .int .i64 a1]) (by rfl) rfl ?_ ?_
   ·go_simp
    (try simp only [i64_w])
    try rfl
   exact hK.out _ _ (step_ 0 HR.out rfl rfl hb_ (Below.refl _ _) hG rfl (fun h => by cases h) (fun _ => HH) rfl)
  refine steps_cons ?_ ?_
  ·rintro b a w' ⟨ms, hR⟩ hb_ hon hoff
   obtain ⟨ha, hF, hD, hG, _⟩ := id hR
   have hG1 := hG
   rw [hGd] at hG1
   obtain ⟨HBl, HSz, Bx4, Bx5, Bx6, Bx7, Bx9, Bx10, Bx11, Bx12, Bx13, Bx14, Ni0, Ni1, Ni2, Ni3, Ni4, Ni5⟩ := hG1
   have HH := True.intro
   refine ⟨_, rfl, fun K hK => ?_⟩
   have e7 : a.tmps[7]? = some (.pointer (some ⟨w.heap.size + 1 + 1 + 1, 0, none⟩)) := (off_ ha rfl).trans rfl
   have hc0 : w'.cell? ⟨w.heap.size + 1 + 1 + 1, 0, none⟩ = some (.int .i64 d0) := (blk_cell Bx7 0).trans rfl
   have hc1 : w'.cell? ⟨w.heap.size + 1 + 1 + 1, 1, none⟩ = some (.int .i64 d1) := (blk_cell Bx7 1).trans rfl
   have HR := Aside0.mk hR
   clear hR ha hF
   refine value_ (w1 := w') (v := .agg #[.int .i64 d0, .int .i64 d1]) (by rfl) rfl ?_ ?_
   ·go_simp
    (try simp only [i64_w])
    try rfl
   exact hK.out _ _ (step_ 1 HR.out rfl rfl hb_ (Below.refl _ _) hG rfl (fun h => by cases h) (fun _ => HH) rfl)
  refine steps_cons ?_ ?_
  ·rintro b a w' ⟨ms, hR⟩ hb_ hon hoff
   obtain ⟨ha, hF, hD, hG, _⟩ := id hR
   have hG1 := hG
   rw [hGd] at hG1
   obtain ⟨HBl, HSz, Bx4, Bx5, Bx6, Bx7, Bx9, Bx10, Bx11, Bx12, Bx13, Bx14, Ni0, Ni1, Ni2, Ni3, Ni4, Ni5⟩ := hG1
   have HH := True.intro
   refine ⟨_, rfl, fun K hK => ?_⟩
   have e64 : a.tmps[64]? = some (.agg #[.int .i64 a0, .int .i64 a1]) := (on_ 0 ha rfl (hon 0 (by kernel_rfl)) rfl).trans (congrArg some (hF 0 (hon 0 (by kernel_rfl))))
   have e65 : a.tmps[65]? = some (.agg #[.int .i64 d0, .int .i64 d1]) := (on_ 1 ha rfl (hon 1 (by kernel_rfl)) rfl).trans (congrArg some (hF 1 (hon 1 (by kernel_rfl))))
   refine goes_ Try.func19 (by kernel_rfl) rfl #[.agg #[.int .i64 a0, .int .i64 a1], .agg #[.int .i64 d0, .int .i64 d1]] (by rfl) rfl rfl (by first | (simp only [List.map_toArray, List.map_cons, List.map_nil, Act.eval, Array.getD_eq_getD_getElem?, Option.getD_some, e64, e65]; done) | (simp only [List.map_toArray, List.map_cons, List.map_nil, Act.eval, Array.getD_eq_getD_getElem?, Option.getD_some, e64, e65]; rfl)) ?_
   with_reducible refine (dist_c Qa Qd _).mono ?_
   rintro e w1 ⟨r, rfl, hN, hb⟩
   exact ⟨_, rfl, hK.out _ _ (step_ 2 hR rfl rfl hb_ hb (GM _ _ hG hb) hN (fun h => by cases h) (fun _ => HM _ _ HH hb) rfl)⟩
  refine steps_cons ?_ ?_
  ·rintro b a w' ⟨ms, hR⟩ hb_ hon hoff
   obtain ⟨ha, hF, hD, hG, _⟩ := id hR
   have hG1 := hG
   rw [hGd] at hG1
   obtain ⟨HBl, HSz, Bx4, Bx5, Bx6, Bx7, Bx9, Bx10, Bx11, Bx12, Bx13, Bx14, Ni0, Ni1, Ni2, Ni3, Ni4, Ni5⟩ := hG1
   have HH := True.intro
   refine ⟨_, rfl, fun K hK => ?_⟩
   have e11 : a.tmps[11]? = some (.pointer (some ⟨g3_32, 0, none⟩)) := (off_ ha rfl).trans rfl
   have hc0 : w'.cell? ⟨g3_32, 0, none⟩ = some (x3_38) := (blk_cell Bx11 0).trans rfl
   have hc1 : w'.cell? ⟨g3_32, 1, none⟩ = some (y3_38) := (blk_cell Bx11 1).trans rfl
   have HR := Aside0.mk hR
   clear hR ha hF
   refine value_ (w1 := w') (v := .agg #[x3_38, y3_38]) (by rfl) rfl ?_ ?_
   ·go_simp
    (try simp only [i64_w])
    try rfl
   exact hK.out _ _ (step_ 3 HR.out rfl rfl hb_ (Below.refl _ _) hG rfl (fun h => by cases h) (fun _ => HH) rfl)
  refine steps_cons ?_ ?_
  ·rintro b a w' ⟨ms, hR⟩ hb_ hon hoff
   obtain ⟨ha, hF, hD, hG, _⟩ := id hR
   have hG1 := hG
   rw [hGd] at hG1
   obtain ⟨HBl, HSz, Bx4, Bx5, Bx6, Bx7, Bx9, Bx10, Bx11, Bx12, Bx13, Bx14, Ni0, Ni1, Ni2, Ni3, Ni4, Ni5⟩ := hG1
   have HH := True.intro
   refine ⟨_, rfl, fun K hK => ?_⟩
   have e14 : a.tmps[14]? = some (.pointer (some ⟨g3_35, 0, none⟩)) := (off_ ha rfl).trans rfl
   have hc0 : w'.cell? ⟨g3_35, 0, none⟩ = some (x3_41) := (blk_cell Bx14 0).trans rfl
   have hc1 : w'.cell? ⟨g3_35, 1, none⟩ = some (y3_41) := (blk_cell Bx14 1).trans rfl
   have HR := Aside0.mk hR
   clear hR ha hF
   refine value_ (w1 := w') (v := .agg #[x3_41, y3_41]) (by rfl) rfl ?_ ?_
   ·go_simp
    (try simp only [i64_w])
    try rfl
   exact hK.out _ _ (step_ 4 HR.out rfl rfl hb_ (Below.refl _ _) hG rfl (fun h => by cases h) (fun _ => HH) rfl)
  refine steps_cons ?_ ?_
  ·rintro b a w' ⟨ms, hR⟩ hb_ hon hoff
   obtain ⟨ha, hF, hD, hG, _⟩ := id hR
   have hG1 := hG
   rw [hGd] at hG1
   obtain ⟨HBl, HSz, Bx4, Bx5, Bx6, Bx7, Bx9, Bx10, Bx11, Bx12, Bx13, Bx14, Ni0, Ni1, Ni2, Ni3, Ni4, Ni5⟩ := hG1
   have HH := True.intro
   refine ⟨_, rfl, fun K hK => ?_⟩
   have e67 : a.tmps[67]? = some (.agg #[x3_38, y3_38]) := (on_ 3 ha rfl (hon 3 (by kernel_rfl)) rfl).trans (congrArg some (hF 3 (hon 3 (by kernel_rfl))))
   have e68 : a.tmps[68]? = some (.agg #[x3_41, y3_41]) := (on_ 4 ha rfl (hon 4 (by kernel_rfl)) rfl).trans (congrArg some (hF 4 (hon 4 (by kernel_rfl))))
   refine goes_ Try.func35 (by kernel_rfl) rfl #[.agg #[x3_38, y3_38], .agg #[x3_41, y3_41]] (by rfl) rfl rfl (by first | (simp only [List.map_toArray, List.map_cons, List.map_nil, Act.eval, Array.getD_eq_getD_getElem?, Option.getD_some, e67, e68]; done) | (simp only [List.map_toArray, List.map_cons, List.map_nil, Act.eval, Array.getD_eq_getD_getElem?, Option.getD_some, e67, e68]; rfl)) ?_
   with_reducible refine (mul_c _ _ (b0 - d0) (c1 - d1) s2 s5 _ (Ni2) (Ni5)).mono ?_
   rintro e w1 ⟨r, rfl, hN, hb⟩
   exact ⟨_, rfl, hK.out _ _ (step_ 5 hR rfl rfl hb_ hb (GM _ _ hG hb) hN (fun h => by cases h) (fun _ => HM _ _ HH hb) rfl)⟩
  refine steps_cons ?_ ?_
  ·rintro b a w' ⟨ms, hR⟩ hb_ hon hoff
   obtain ⟨ha, hF, hD, hG, _⟩ := id hR
   have hG1 := hG
   rw [hGd] at hG1
   obtain ⟨HBl, HSz, Bx4, Bx5, Bx6, Bx7, Bx9, Bx10, Bx11, Bx12, Bx13, Bx14, Ni0, Ni1, Ni2, Ni3, Ni4, Ni5⟩ := hG1
   have HH := True.intro
   refine ⟨_, rfl, fun K hK => ?_⟩
   have e12 : a.tmps[12]? = some (.pointer (some ⟨g3_33, 0, none⟩)) := (off_ ha rfl).trans rfl
   have hc0 : w'.cell? ⟨g3_33, 0, none⟩ = some (x3_39) := (blk_cell Bx12 0).trans rfl
   have hc1 : w'.cell? ⟨g3_33, 1, none⟩ = some (y3_39) := (blk_cell Bx12 1).trans rfl
   have HR := Aside0.mk hR
   clear hR ha hF
   refine value_ (w1 := w') (v := .agg #[x3_39, y3_39]) (by rfl) rfl ?_ ?_
   ·go_simp
    (try simp only [i64_w])
    try rfl
   exact hK.out _ _ (step_ 6 HR.out rfl rfl hb_ (Below.refl _ _) hG rfl (fun h => by cases h) (fun _ => HH) rfl)
  refine steps_cons ?_ ?_
  ·rintro b a w' ⟨ms, hR⟩ hb_ hon hoff
   obtain ⟨ha, hF, hD, hG, _⟩ := id hR
   have hG1 := hG
   rw [hGd] at hG1
   obtain ⟨HBl, HSz, Bx4, Bx5, Bx6, Bx7, Bx9, Bx10, Bx11, Bx12, Bx13, Bx14, Ni0, Ni1, Ni2, Ni3, Ni4, Ni5⟩ := hG1
   have HH := True.intro
   refine ⟨_, rfl, fun K hK => ?_⟩
   have e13 : a.tmps[13]? = some (.pointer (some ⟨g3_34, 0, none⟩)) := (off_ ha rfl).trans rfl
   have hc0 : w'.cell? ⟨g3_34, 0, none⟩ = some (x3_40) := (blk_cell Bx13 0).trans rfl
   have hc1 : w'.cell? ⟨g3_34, 1, none⟩ = some (y3_40) := (blk_cell Bx13 1).trans rfl
   have HR := Aside0.mk hR
   clear hR ha hF
   refine value_ (w1 := w') (v := .agg #[x3_40, y3_40]) (by rfl) rfl ?_ ?_
   ·go_simp
    (try simp only [i64_w])
    try rfl
   exact hK.out _ _ (step_ 7 HR.out rfl rfl hb_ (Below.refl _ _) hG rfl (fun h => by cases h) (fun _ => HH) rfl)
  refine steps_cons ?_ ?_
  ·rintro b a w' ⟨ms, hR⟩ hb_ hon hoff
   obtain ⟨ha, hF, hD, hG, _⟩ := id hR
   have hG1 := hG
   rw [hGd] at hG1
   obtain ⟨HBl, HSz, Bx4, Bx5, Bx6, Bx7, Bx9, Bx10, Bx11, Bx12, Bx13, Bx14, Ni0, Ni1, Ni2, Ni3, Ni4, Ni5⟩ := hG1
   have HH := True.intro
   refine ⟨_, rfl, fun K hK => ?_⟩
   have e70 : a.tmps[70]? = some (.agg #[x3_39, y3_39]) := (on_ 6 ha rfl (hon 6 (by kernel_rfl)) rfl).trans (congrArg some (hF 6 (hon 6 (by kernel_rfl))))
   have e71 : a.tmps[71]? = some (.agg #[x3_40, y3_40]) := (on_ 7 ha rfl (hon 7 (by kernel_rfl)) rfl).trans (congrArg some (hF 7 (hon 7 (by kernel_rfl))))
   refine goes_ Try.func35 (by kernel_rfl) rfl #[.agg #[x3_39, y3_39], .agg #[x3_40, y3_40]] (by rfl) rfl rfl (by first | (simp only [List.map_toArray, List.map_cons, List.map_nil, Act.eval, Array.getD_eq_getD_getElem?, Option.getD_some, e70, e71]; done) | (simp only [List.map_toArray, List.map_cons, List.map_nil, Act.eval, Array.getD_eq_getD_getElem?, Option.getD_some, e70, e71]; rfl)) ?_
   with_reducible refine (mul_c _ _ (b1 - d1) (c0 - d0) s3 s4 _ (Ni3) (Ni4)).mono ?_
   rintro e w1 ⟨r, rfl, hN, hb⟩
   exact ⟨_, rfl, hK.out _ _ (step_ 8 hR rfl rfl hb_ hb (GM _ _ hG hb) hN (fun h => by cases h) (fun _ => HM _ _ HH hb) rfl)⟩
  refine steps_cons ?_ ?_
  ·rintro b a w' ⟨ms, hR⟩ hb_ hon hoff
   obtain ⟨ha, hF, hD, hG, _⟩ := id hR
   have hG1 := hG
   rw [hGd] at hG1
   obtain ⟨HBl, HSz, Bx4, Bx5, Bx6, Bx7, Bx9, Bx10, Bx11, Bx12, Bx13, Bx14, Ni0, Ni1, Ni2, Ni3, Ni4, Ni5⟩ := hG1
   have HH := True.intro
   refine ⟨_, rfl, fun K hK => ?_⟩
   have e69 : a.tmps[69]? = some (ms 5) := on_ 5 ha rfl (hon 5 (by kernel_rfl)) rfl
   have q5 : NI w' (ms 5) ((b0 - d0) * (c1 - d1)) := hF 5 (hon 5 (by kernel_rfl))
   have e72 : a.tmps[72]? = some (ms 8) := on_ 8 ha rfl (hon 8 (by kernel_rfl)) rfl
   have q8 : NI w' (ms 8) ((b1 - d1) * (c0 - d0)) := hF 8 (hon 8 (by kernel_rfl))
   refine goes_ Try.func36 (by kernel_rfl) rfl #[ms 5, ms 8] (by rfl) rfl rfl (by first | (simp only [List.map_toArray, List.map_cons, List.map_nil, Act.eval, Array.getD_eq_getD_getElem?, Option.getD_some, e69, e72]; done) | (simp only [List.map_toArray, List.map_cons, List.map_nil, Act.eval, Array.getD_eq_getD_getElem?, Option.getD_some, e69, e72]; rfl)) ?_
   with_reducible refine (sub_c _ _ ((b0 - d0) * (c1 - d1)) ((b1 - d1) * (c0 - d0)) p0 p1 _ (q5) (q8)).mono ?_
   rintro e w1 ⟨r, rfl, hN, hb⟩
   exact ⟨_, rfl, hK.out _ _ (step_ 9 hR rfl rfl hb_ hb (GM _ _ hG hb) hN (fun h => by cases h) (fun _ => HM _ _ HH hb) rfl)⟩
  refine steps_cons ?_ ?_
  ·rintro b a w' ⟨ms, hR⟩ hb_ hon hoff
   obtain ⟨ha, hF, hD, hG, _⟩ := id hR
   have hG1 := hG
   rw [hGd] at hG1
   obtain ⟨HBl, HSz, Bx4, Bx5, Bx6, Bx7, Bx9, Bx10, Bx11, Bx12, Bx13, Bx14, Ni0, Ni1, Ni2, Ni3, Ni4, Ni5⟩ := hG1
   have HH := True.intro
   refine ⟨_, rfl, fun K hK => ?_⟩
   have e66 : a.tmps[66]? = some (ms 2) := on_ 2 ha rfl (hon 2 (by kernel_rfl)) rfl
   have q2 : NI w' (ms 2) (ds a0 a1 d0 d1) := hF 2 (hon 2 (by kernel_rfl))
   have e73 : a.tmps[73]? = some (ms 9) := on_ 9 ha rfl (hon 9 (by kernel_rfl)) rfl
   have q9 : NI w' (ms 9) (((b0 - d0) * (c1 - d1)) - ((b1 - d1) * (c0 - d0))) := hF 9 (hon 9 (by kernel_rfl))
   refine goes_ Try.func35 (by kernel_rfl) rfl #[ms 2, ms 9] (by rfl) rfl rfl (by first | (simp only [List.map_toArray, List.map_cons, List.map_nil, Act.eval, Array.getD_eq_getD_getElem?, Option.getD_some, e66, e73]; done) | (simp only [List.map_toArray, List.map_cons, List.map_nil, Act.eval, Array.getD_eq_getD_getElem?, Option.getD_some, e66, e73]; rfl)) ?_
   with_reducible refine (mul_c _ _ (ds a0 a1 d0 d1) (((b0 - d0) * (c1 - d1)) - ((b1 - d1) * (c0 - d0))) t0 r0 _ (q2) (q9)).mono ?_
   rintro e w1 ⟨r, rfl, hN, hb⟩
   exact ⟨_, rfl, hK.out _ _ (step_ 10 hR rfl rfl hb_ hb (GM _ _ hG hb) hN (fun h => by cases h) (fun _ => HM _ _ HH hb) rfl)⟩
  refine steps_cons ?_ ?_
  ·rintro b a w' ⟨ms, hR⟩ hb_ hon hoff
   obtain ⟨ha, hF, hD, hG, _⟩ := id hR
   have hG1 := hG
   rw [hGd] at hG1
   obtain ⟨HBl, HSz, Bx4, Bx5, Bx6, Bx7, Bx9, Bx10, Bx11, Bx12, Bx13, Bx14, Ni0, Ni1, Ni2, Ni3, Ni4, Ni5⟩ := hG1
   have HH := True.intro
   refine ⟨_, rfl, fun K hK => ?_⟩
   refine box_step ?hg (N := 15) ?hd (cs := #[.int .i64 0, .slice none 0 0]) (t := 33) ?hr ?_; (case hd => rfl); (case hg => rfl); (case hr => first | (go_simp; done) | (go_simp; rfl))
   intro g hg w1 hbox hb
   exact hK.out _ _ (step_ 11 hR rfl rfl hb_ hb (GM _ _ hG hb) ⟨g, _, _, rfl, by rw [hg]; exact HSz, hbox⟩ (fun _ => by rw [hg]) (fun _ => HM _ _ HH hb) rfl)
  refine steps_cons ?_ ?_
  ·rintro b a w' ⟨ms, hR⟩ hb_ hon hoff
   obtain ⟨ha, hF, hD, hG, _⟩ := id hR
   have hG1 := hG
   rw [hGd] at hG1
   obtain ⟨HBl, HSz, Bx4, Bx5, Bx6, Bx7, Bx9, Bx10, Bx11, Bx12, Bx13, Bx14, Ni0, Ni1, Ni2, Ni3, Ni4, Ni5⟩ := hG1
   have HH := True.intro
   refine ⟨_, rfl, fun K hK => ?_⟩
   have hn := hF 10 (hon 10 (by kernel_rfl))
   obtain ⟨sz, Az, lz, cz, ev⟩ := NI.shape hn
   have e74 : a.tmps[74]? = some (.agg #[.int .i64 sz, .slice Az lz cz]) := (on_ 10 ha rfl (hon 10 (by kernel_rfl)) rfl).trans (congrArg some ev)
   obtain ⟨g, x0, y0, eg, hgK, hgh⟩ := hF 11 (hon 11 (by kernel_rfl))
   replace hgK : V3.heap.size ≤ g := hgK
   have e15 : a.tmps[15]? = some (.pointer (some ⟨g, 0, none⟩)) := (on_ 11 ha rfl (hon 11 (by kernel_rfl)) rfl).trans (congrArg some eg)
   have h0 : w'.cell? ⟨g, 0, none⟩ = some x0 := (blk_cell hgh 0).trans rfl
   have h1 : w'.cell? ⟨g, 1, none⟩ = some y0 := (blk_cell hgh 1).trans rfl
   have f0 := blk_frozen hgh 0
   have f1 := blk_frozen hgh 1
   have HR := Aside0.mk hR
   clear hR ha
   refine skip_ (w1 := ?_) (by rfl) rfl ?_ ?_
   rotate_left
   ·go_simp
    rfl
   exact hK.out _ _ (put_ HR.out rfl rfl hb_ rfl rfl (hon 11 (by kernel_rfl)) (hon 10 (by kernel_rfl)) rfl eg ev (GS _ g _ _ _ _ hG hgh (by omega) (fun h => by omega)) (fun _ => HH) rfl)
  exact steps_nil
 rintro b a V4 hall ⟨ms, ha, hF, hD, hG, _⟩
 rw [hGd] at hG
 obtain ⟨HBl, HSz, Bx4, Bx5, Bx6, Bx7, Bx9, Bx10, Bx11, Bx12, Bx13, Bx14, Ni0, Ni1, Ni2, Ni3, Ni4, Ni5⟩ := hG
 have bb4_0 := hall 0 (by kernel_rfl)
 have bb4_1 := hall 1 (by kernel_rfl)
 have bb4_2 := hall 2 (by kernel_rfl)
 have bb4_3 := hall 3 (by kernel_rfl)
 have bb4_4 := hall 4 (by kernel_rfl)
 have bb4_5 := hall 5 (by kernel_rfl)
 have bb4_6 := hall 6 (by kernel_rfl)
 have bb4_7 := hall 7 (by kernel_rfl)
 have bb4_8 := hall 8 (by kernel_rfl)
 have bb4_9 := hall 9 (by kernel_rfl)
 have bb4_10 := hall 10 (by kernel_rfl)
 have bb4_11 := hall 11 (by kernel_rfl)
 have bb4_12 := hall 12 (by kernel_rfl)
 have m4_0 : ms 0 = .agg #[.int .i64 a0, .int .i64 a1] := hF 0 bb4_0
 have m4_1 : ms 1 = .agg #[.int .i64 d0, .int .i64 d1] := hF 1 bb4_1
 have m4_2 : NI V4 (ms 2) (ds a0 a1 d0 d1) := hF 2 bb4_2
 have m4_3 : ms 3 = .agg #[x3_38, y3_38] := hF 3 bb4_3
 have m4_4 : ms 4 = .agg #[x3_41, y3_41] := hF 4 bb4_4
 have m4_5 : NI V4 (ms 5) ((b0 - d0) * (c1 - d1)) := hF 5 bb4_5
 have m4_6 : ms 6 = .agg #[x3_39, y3_39] := hF 6 bb4_6
 have m4_7 : ms 7 = .agg #[x3_40, y3_40] := hF 7 bb4_7
 have m4_8 : NI V4 (ms 8) ((b1 - d1) * (c0 - d0)) := hF 8 bb4_8
 have m4_9 : NI V4 (ms 9) (((b0 - d0) * (c1 - d1)) - ((b1 - d1) * (c0 - d0))) := hF 9 bb4_9
 have m4_10 : NI V4 (ms 10) ((ds a0 a1 d0 d1) * (((b0 - d0) * (c1 - d1)) - ((b1 - d1) * (c0 - d0)))) := hF 10 bb4_10
 obtain ⟨g4_11, _, _, m4_11, k4_11, _⟩ := hF 11 bb4_11
 replace k4_11 : V3.heap.size ≤ g4_11 := k4_11
 obtain ⟨_, _, _, _, z4_12, x4_12, y4_12, n4_12, e4_12, h4_12⟩ := hF 12 bb4_12
 obtain rfl : g4_11 = z4_12 := by rw [m4_11] at n4_12; injection n4_12 with q; injection q with q; injection q with q
 rw [e4_12] at m4_10
 subst ha
 simp only [ent, List.map_cons, List.map_nil, putSel, bb4_0, bb4_1, bb4_2, bb4_3, bb4_4, bb4_5, bb4_6, bb4_7, bb4_8, bb4_9, bb4_10, bb4_11, m4_0, m4_1, m4_3, m4_4, m4_6, m4_7, m4_11, if_true, Act.put, List.setIfInBounds_toArray, List.set_cons_zero, List.set_cons_succ]
 clear hF hD bb4_0 bb4_1 bb4_2 bb4_3 bb4_4 bb4_5 bb4_6 bb4_7 bb4_8 bb4_9 bb4_10 bb4_11 bb4_12
 obtain ⟨K5, e5⟩ : ∃ K5, K5 = g4_11 + 1 := ⟨_, rfl⟩
 have hK5 : K5 ≤ V4.heap.size := by have := blk_lt h4_12; omega
 go_wp2_with fail
 obtain ⟨G, hGd⟩ : ∃ G : World → Prop, G = (fun w' => Below w.heap.size w w' ∧ K5 ≤ w'.heap.size ∧ w'.heap[w.heap.size]? = some (.cells #[.int .i64 a0, .int .i64 a1] 23 (0, 0)) ∧ w'.heap[w.heap.size + 1]? = some (.cells #[.int .i64 b0, .int .i64 b1] 23 (0, 0)) ∧ w'.heap[w.heap.size + 1 + 1]? = some (.cells #[.int .i64 c0, .int .i64 c1] 23 (0, 0)) ∧ w'.heap[w.heap.size + 1 + 1 + 1]? = some (.cells #[.int .i64 d0, .int .i64 d1] 23 (0, 0)) ∧ w'.heap[g3_30]? = some (.cells #[x3_36, y3_36] 33 (0, 0)) ∧ w'.heap[g3_31]? = some (.cells #[x3_37, y3_37] 33 (0, 0)) ∧ w'.heap[g3_32]? = some (.cells #[x3_38, y3_38] 33 (0, 0)) ∧ w'.heap[g3_33]? = some (.cells #[x3_39, y3_39] 33 (0, 0)) ∧ w'.heap[g3_34]? = some (.cells #[x3_40, y3_40] 33 (0, 0)) ∧ w'.heap[g3_35]? = some (.cells #[x3_41, y3_41] 33 (0, 0)) ∧ NI w' (.agg #[x3_36, y3_36]) (a0 - d0) ∧ NI w' (.agg #[x3_37, y3_37]) (a1 - d1) ∧ NI w' (.agg #[x3_38, y3_38]) (b0 - d0) ∧ NI w' (.agg #[x3_39, y3_39]) (b1 - d1) ∧ NI w' (.agg #[x3_40, y3_40]) (c0 - d0) ∧ NI w' (.agg #[x3_41, y3_41]) (c1 - d1) ∧ ∃ x y, w'.heap[g4_11]? = some (.cells #[x, y] 33 (0, 0))) := ⟨_, rfl⟩
 have GM : ∀ w1 w2 : World, G w1 → Below w1.heap.size w1 w2 → G w2 := by
  subst hGd
  rintro w1 w2 ⟨HBl, HSz, Bx4, Bx5, Bx6, Bx7, Bx9, Bx10, Bx11, Bx12, Bx13, Bx14, Ni0, Ni1, Ni2, Ni3, Ni4, Ni5, Rs⟩ hb
  exact ⟨below_step HBl hb, Nat.le_trans HSz hb.size, blk_below Bx4 hb, blk_below Bx5 hb, blk_below Bx6 hb, blk_below Bx7 hb, blk_below Bx9 hb, blk_below Bx10 hb, blk_below Bx11 hb, blk_below Bx12 hb, blk_below Bx13 hb, blk_below Bx14 hb, NI.below Ni0 hb, NI.below Ni1 hb, NI.below Ni2 hb, NI.below Ni3 hb, NI.below Ni4 hb, NI.below Ni5 hb, (Rs.elim fun x h => h.elim fun y h => ⟨x, y, blk_below h hb⟩)⟩
 have HM : ∀ w1 w2 : World, (fun w' => w'.heap[g4_11]? = some (.cells #[x4_12, y4_12] 33 (0, 0)) ∧ NI w' (.agg #[x4_12, y4_12]) ((ds a0 a1 d0 d1) * (((b0 - d0) * (c1 - d1)) - ((b1 - d1) * (c0 - d0))))) w1 → Below w1.heap.size w1 w2 → (fun w' => w'.heap[g4_11]? = some (.cells #[x4_12, y4_12] 33 (0, 0)) ∧ NI w' (.agg #[x4_12, y4_12]) ((ds a0 a1 d0 d1) * (((b0 - d0) * (c1 - d1)) - ((b1 - d1) * (c0 - d0))))) w2 := fun w1 w2 h hb => ⟨blk_below h.1 hb, h.2.below hb⟩
 have GR : ∀ (w1 : World) (x0 y0 x y : Value), G w1 → w1.heap[g4_11]? = some (.cells #[x0, y0] 33 (0, 0)) → G ((w1.setCell ⟨g4_11, 0, none⟩ x).setCell ⟨g4_11, 1, none⟩ y) := by
  subst hGd
  rintro w1 x0 y0 x y ⟨HBl, HSz, Bx4, Bx5, Bx6, Bx7, Bx9, Bx10, Bx11, Bx12, Bx13, Bx14, Ni0, Ni1, Ni2, Ni3, Ni4, Ni5, Rs⟩ hgh
  have hle : w.heap.size ≤ g4_11 := by omega
  exact ⟨below_set2 HBl hle _ _ _ _, (by simpa [World.setCell] using HSz), blk_far (blk_far Bx4 (fun e => by have e1 : (w.heap.size : Nat) = g4_11 := e; omega) _) (fun e => by have e1 : (w.heap.size : Nat) = g4_11 := e; omega) _, blk_far (blk_far Bx5 (fun e => by have e1 : (w.heap.size + 1 : Nat) = g4_11 := e; omega) _) (fun e => by have e1 : (w.heap.size + 1 : Nat) = g4_11 := e; omega) _, blk_far (blk_far Bx6 (fun e => by have e1 : (w.heap.size + 1 + 1 : Nat) = g4_11 := e; omega) _) (fun e => by have e1 : (w.heap.size + 1 + 1 : Nat) = g4_11 := e; omega) _, blk_far (blk_far Bx7 (fun e => by have e1 : (w.heap.size + 1 + 1 + 1 : Nat) = g4_11 := e; omega) _) (fun e => by have e1 : (w.heap.size + 1 + 1 + 1 : Nat) = g4_11 := e; omega) _, blk_far (blk_far Bx9 (fun e => by have e1 : (g3_30 : Nat) = g4_11 := e; omega) _) (fun e => by have e1 : (g3_30 : Nat) = g4_11 := e; omega) _, blk_far (blk_far Bx10 (fun e => by have e1 : (g3_31 : Nat) = g4_11 := e; omega) _) (fun e => by have e1 : (g3_31 : Nat) = g4_11 := e; omega) _, blk_far (blk_far Bx11 (fun e => by have e1 : (g3_32 : Nat) = g4_11 := e; omega) _) (fun e => by have e1 : (g3_32 : Nat) = g4_11 := e; omega) _, blk_far (blk_far Bx12 (fun e => by have e1 : (g3_33 : Nat) = g4_11 := e; omega) _) (fun e => by have e1 : (g3_33 : Nat) = g4_11 := e; omega) _, blk_far (blk_far Bx13 (fun e => by have e1 : (g3_34 : Nat) = g4_11 := e; omega) _) (fun e => by have e1 : (g3_34 : Nat) = g4_11 := e; omega) _, blk_far (blk_far Bx14 (fun e => by have e1 : (g3_35 : Nat) = g4_11 := e; omega) _) (fun e => by have e1 : (g3_35 : Nat) = g4_11 := e; omega) _, NI.store (NI.store Ni0 hgh (by decide) 0 _) (blk_put hgh 0 _ rfl) (by decide) 1 _, NI.store (NI.store Ni1 hgh (by decide) 0 _) (blk_put hgh 0 _ rfl) (by decide) 1 _, NI.store (NI.store Ni2 hgh (by decide) 0 _) (blk_put hgh 0 _ rfl) (by decide) 1 _, NI.store (NI.store Ni3 hgh (by decide) 0 _) (blk_put hgh 0 _ rfl) (by decide) 1 _, NI.store (NI.store Ni4 hgh (by decide) 0 _) (blk_put hgh 0 _ rfl) (by decide) 1 _, NI.store (NI.store Ni5 hgh (by decide) 0 _) (blk_put hgh 0 _ rfl) (by decide) 1 _, _, _, blk_put (blk_put hgh 0 _ rfl) 1 _ rfl⟩
 refine start_ (n := 14) (S := fun w' => True) (ds := []) #[false, false, false, false, false, false, false, false, false, false, false, false, false, false] (by kernel_rfl) rfl rfl trivial (fun _ => ?_); refine with_tabW inc5.tab inc5.bits (fun HT_ HW_ => ?_)
 have hG0 : G V4.drew := by subst hGd; exact ⟨below_drew HBl, hK5, Bx4, Bx5, Bx6, Bx7, Bx9, Bx10, Bx11, Bx12, Bx13, Bx14, Ni0.drewN 1, Ni1.drewN 1, Ni2.drewN 1, Ni3.drewN 1, Ni4.drewN 1, Ni5.drewN 1, _, _, h4_12⟩
 have hH0 : (fun w' => w'.heap[g4_11]? = some (.cells #[x4_12, y4_12] 33 (0, 0)) ∧ NI w' (.agg #[x4_12, y4_12]) ((ds a0 a1 d0 d1) * (((b0 - d0) * (c1 - d1)) - ((b1 - d1) * (c0 - d0))))) V4.drew := ⟨h4_12, m4_10.drewN 1⟩
 generalize V4.drew = W1 at hG0 hH0 ⊢
 refine inv_at [0, 1, 2, 3, 4, 5, 6, 7, 8, 9, 10, 11, 12, 13] (fun a0_ b a w' => Rg ⟨[0, 1, 2, 3, 4, 5, 6, 7, 8, 9, 10, 11, 12, 13], [(0, 75), (1, 76), (2, 77), (3, 78), (4, 79), (5, 80), (6, 81), (7, 82), (8, 83), (9, 84), (10, 85), (11, 86), (12, 87)], fun j => [.const (.agg #[x4_12, y4_12]), .const (.agg #[.int .i64 b0, .int .i64 b1]), .const (.agg #[.int .i64 d0, .int .i64 d1]), .ni (ds b0 b1 d0 d1), .const (.agg #[x3_36, y3_36]), .const (.agg #[x3_41, y3_41]), .ni ((a0 - d0) * (c1 - d1)), .const (.agg #[x3_37, y3_37]), .const (.agg #[x3_40, y3_40]), .ni ((a1 - d1) * (c0 - d0)), .ni (((a0 - d0) * (c1 - d1)) - ((a1 - d1) * (c0 - d0))), .ni ((ds b0 b1 d0 d1) * (((a0 - d0) * (c1 - d1)) - ((a1 - d1) * (c0 - d0)))), .ni (((ds a0 a1 d0 d1) * (((b0 - d0) * (c1 - d1)) - ((b1 - d1) * (c0 - d0)))) - ((ds b0 b1 d0 d1) * (((a0 - d0) * (c1 - d1)) - ((a1 - d1) * (c0 - d0))))), .fin (fun ms w' => ∃ x y, w'.heap[g4_11]? = some (.cells #[x, y] 33 (0, 0)) ∧ NI w' (.agg #[x, y]) (((ds a0 a1 d0 d1) * (((b0 - d0) * (c1 - d1)) - ((b1 - d1) * (c0 - d0)))) - ((ds b0 b1 d0 d1) * (((a0 - d0) * (c1 - d1)) - ((a1 - d1) * (c0 - d0))))))].getD j .box, K5, 0, G, fun w' => w'.heap[g4_11]? = some (.cells #[x4_12, y4_12] 33 (0, 0)) ∧ NI w' (.agg #[x4_12, y4_12]) ((ds a0 a1 d0 d1) * (((b0 - d0) * (c1 - d1)) - ((b1 - d1) * (c0 - d0)))), 13⟩ a0_ b a w') HT_.out HW_.out (by kernel_rfl) (by kernel_rfl) ?_ ?_ ?_
 ·exact rg0 hG0 hH0
 ·refine steps_cons ?_ ?_
  ·rintro b a w' ⟨ms, hR⟩ hb_ hon hoff
   obtain ⟨ha, hF, hD, hG, _⟩ := id hR
   have hG1 := hG
   rw [hGd] at hG1
   obtain ⟨HBl, HSz, Bx4, Bx5, Bx6, Bx7, Bx9, Bx10, Bx11, Bx12, Bx13, Bx14, Ni0, Ni1, Ni2, Ni3, Ni4, Ni5, Rs⟩ := hG1
   have HH := hR.2.2.2.2 (hoff 13 (by kernel_rfl))
   refine ⟨_, rfl, fun K hK => ?_⟩
   have e15 : a.tmps[15]? = some (.pointer (some ⟨g4_11, 0, none⟩)) := (off_ ha rfl).trans rfl
   have hc0 : w'.cell? ⟨g4_11, 0, none⟩ = some (x4_12) := (blk_cell HH.1 0).trans rfl
   have hc1 : w'.cell? ⟨g4_11, 1, none⟩ = some (y4_12) := (blk_cell HH.1 1).trans rfl
   have HR := Aside0.mk hR
   clear hR ha hF
   refine value_ (w1 := w') (v := .agg #[x4_12, y4_12]) (by rfl) rfl ?_ ?_
   ·go_simp
    (try simp only [i64_w])
    try rfl
   exact hK.out _ _ (step_ 0 HR.out rfl rfl hb_ (Below.refl _ _) hG rfl (fun h => by cases h) (fun _ => HH) rfl)
  refine steps_cons ?_ ?_
  ·rintro b a w' ⟨ms, hR⟩ hb_ hon hoff
   obtain ⟨ha, hF, hD, hG, _⟩ := id hR
   have hG1 := hG
   rw [hGd] at hG1
   obtain ⟨HBl, HSz, Bx4, Bx5, Bx6, Bx7, Bx9, Bx10, Bx11, Bx12, Bx13, Bx14, Ni0, Ni1, Ni2, Ni3, Ni4, Ni5, Rs⟩ := hG1
   have HH := hR.2.2.2.2 (hoff 13 (by kernel_rfl))
   refine ⟨_, rfl, fun K hK => ?_⟩
   have e5 : a.tmps[5]? = some (.pointer (some ⟨w.heap.size + 1, 0, none⟩)) := (off_ ha rfl).trans rfl
   have hc0 : w'.cell? ⟨w.heap.size + 1, 0, none⟩ = some (.int .i64 b0) := (blk_cell Bx5 0).trans rfl
   have hc1 : w'.cell? ⟨w.heap.size + 1, 1, none⟩ = some (.int .i64 b1) := (blk_cell Bx5 1).trans rfl
   have HR := Aside0.mk hR
   clear hR ha hF
   refine value_ (w1 := w') (v := .agg #[.int .i64 b0, .int .i64 b1]) (by rfl) rfl ?_ ?_
   ·go_simp
    (try simp only [i64_w])
    try rfl
   exact hK.out _ _ (step_ 1 HR.out rfl rfl hb_ (Below.refl _ _) hG rfl (fun h => by cases h) (fun _ => HH) rfl)
  refine steps_cons ?_ ?_
  ·rintro b a w' ⟨ms, hR⟩ hb_ hon hoff
   obtain ⟨ha, hF, hD, hG, _⟩ := id hR
   have hG1 := hG
   rw [hGd] at hG1
   obtain ⟨HBl, HSz, Bx4, Bx5, Bx6, Bx7, Bx9, Bx10, Bx11, Bx12, Bx13, Bx14, Ni0, Ni1, Ni2, Ni3, Ni4, Ni5, Rs⟩ := hG1
   have HH := hR.2.2.2.2 (hoff 13 (by kernel_rfl))
   refine ⟨_, rfl, fun K hK => ?_⟩
   have e7 : a.tmps[7]? = some (.pointer (some ⟨w.heap.size + 1 + 1 + 1, 0, none⟩)) := (off_ ha rfl).trans rfl
   have hc0 : w'.cell? ⟨w.heap.size + 1 + 1 + 1, 0, none⟩ = some (.int .i64 d0) := (blk_cell Bx7 0).trans rfl
   have hc1 : w'.cell? ⟨w.heap.size + 1 + 1 + 1, 1, none⟩ = some (.int .i64 d1) := (blk_cell Bx7 1).trans rfl
   have HR := Aside0.mk hR
   clear hR ha hF
   refine value_ (w1 := w') (v := .agg #[.int .i64 d0, .int .i64 d1]) (by rfl) rfl ?_ ?_
   ·go_simp
    (try simp only [i64_w])
    try rfl
   exact hK.out _ _ (step_ 2 HR.out rfl rfl hb_ (Below.refl _ _) hG rfl (fun h => by cases h) (fun _ => HH) rfl)
  refine steps_cons ?_ ?_
  ·rintro b a w' ⟨ms, hR⟩ hb_ hon hoff
   obtain ⟨ha, hF, hD, hG, _⟩ := id hR
   have hG1 := hG
   rw [hGd] at hG1
   obtain ⟨HBl, HSz, Bx4, Bx5, Bx6, Bx7, Bx9, Bx10, Bx11, Bx12, Bx13, Bx14, Ni0, Ni1, Ni2, Ni3, Ni4, Ni5, Rs⟩ := hG1
   have HH := hR.2.2.2.2 (hoff 13 (by kernel_rfl))
   refine ⟨_, rfl, fun K hK => ?_⟩
   have e76 : a.tmps[76]? = some (.agg #[.int .i64 b0, .int .i64 b1]) := (on_ 1 ha rfl (hon 1 (by kernel_rfl)) rfl).trans (congrArg some (hF 1 (hon 1 (by kernel_rfl))))
   have e77 : a.tmps[77]? = some (.agg #[.int .i64 d0, .int .i64 d1]) := (on_ 2 ha rfl (hon 2 (by kernel_rfl)) rfl).trans (congrArg some (hF 2 (hon 2 (by kernel_rfl))))
   refine goes_ Try.func19 (by kernel_rfl) rfl #[.agg #[.int .i64 b0, .int .i64 b1], .agg #[.int .i64 d0, .int .i64 d1]] (by rfl) rfl rfl (by first | (simp only [List.map_toArray, List.map_cons, List.map_nil, Act.eval, Array.getD_eq_getD_getElem?, Option.getD_some, e76, e77]; done) | (simp only [List.map_toArray, List.map_cons, List.map_nil, Act.eval, Array.getD_eq_getD_getElem?, Option.getD_some, e76, e77]; rfl)) ?_
   with_reducible refine (dist_c Qb Qd _).mono ?_
   rintro e w1 ⟨r, rfl, hN, hb⟩
   exact ⟨_, rfl, hK.out _ _ (step_ 3 hR rfl rfl hb_ hb (GM _ _ hG hb) hN (fun h => by cases h) (fun _ => HM _ _ HH hb) rfl)⟩
  refine steps_cons ?_ ?_
  ·rintro b a w' ⟨ms, hR⟩ hb_ hon hoff
   obtain ⟨ha, hF, hD, hG, _⟩ := id hR
   have hG1 := hG
   rw [hGd] at hG1
   obtain ⟨HBl, HSz, Bx4, Bx5, Bx6, Bx7, Bx9, Bx10, Bx11, Bx12, Bx13, Bx14, Ni0, Ni1, Ni2, Ni3, Ni4, Ni5, Rs⟩ := hG1
   have HH := hR.2.2.2.2 (hoff 13 (by kernel_rfl))
   refine ⟨_, rfl, fun K hK => ?_⟩
   have e9 : a.tmps[9]? = some (.pointer (some ⟨g3_30, 0, none⟩)) := (off_ ha rfl).trans rfl
   have hc0 : w'.cell? ⟨g3_30, 0, none⟩ = some (x3_36) := (blk_cell Bx9 0).trans rfl
   have hc1 : w'.cell? ⟨g3_30, 1, none⟩ = some (y3_36) := (blk_cell Bx9 1).trans rfl
   have HR := Aside0.mk hR
   clear hR ha hF
   refine value_ (w1 := w') (v := .agg #[x3_36, y3_36]) (by rfl) rfl ?_ ?_
   ·go_simp
    (try simp only [i64_w])
    try rfl
   exact hK.out _ _ (step_ 4 HR.out rfl rfl hb_ (Below.refl _ _) hG rfl (fun h => by cases h) (fun _ => HH) rfl)
  refine steps_cons ?_ ?_
  ·rintro b a w' ⟨ms, hR⟩ hb_ hon hoff
   obtain ⟨ha, hF, hD, hG, _⟩ := id hR
   have hG1 := hG
   rw [hGd] at hG1
   obtain ⟨HBl, HSz, Bx4, Bx5, Bx6, Bx7, Bx9, Bx10, Bx11, Bx12, Bx13, Bx14, Ni0, Ni1, Ni2, Ni3, Ni4, Ni5, Rs⟩ := hG1
   have HH := hR.2.2.2.2 (hoff 13 (by kernel_rfl))
   refine ⟨_, rfl, fun K hK => ?_⟩
   have e14 : a.tmps[14]? = some (.pointer (some ⟨g3_35, 0, none⟩)) := (off_ ha rfl).trans rfl
   have hc0 : w'.cell? ⟨g3_35, 0, none⟩ = some (x3_41) := (blk_cell Bx14 0).trans rfl
   have hc1 : w'.cell? ⟨g3_35, 1, none⟩ = some (y3_41) := (blk_cell Bx14 1).trans rfl
   have HR := Aside0.mk hR
   clear hR ha hF
   refine value_ (w1 := w') (v := .agg #[x3_41, y3_41]) (by rfl) rfl ?_ ?_
   ·go_simp
    (try simp only [i64_w])
    try rfl
   exact hK.out _ _ (step_ 5 HR.out rfl rfl hb_ (Below.refl _ _) hG rfl (fun h => by cases h) (fun _ => HH) rfl)
  refine steps_cons ?_ ?_
  ·rintro b a w' ⟨ms, hR⟩ hb_ hon hoff
   obtain ⟨ha, hF, hD, hG, _⟩ := id hR
   have hG1 := hG
   rw [hGd] at hG1
   obtain ⟨HBl, HSz, Bx4, Bx5, Bx6, Bx7, Bx9, Bx10, Bx11, Bx12, Bx13, Bx14, Ni0, Ni1, Ni2, Ni3, Ni4, Ni5, Rs⟩ := hG1
   have HH := hR.2.2.2.2 (hoff 13 (by kernel_rfl))
   refine ⟨_, rfl, fun K hK => ?_⟩
   have e79 : a.tmps[79]? = some (.agg #[x3_36, y3_36]) := (on_ 4 ha rfl (hon 4 (by kernel_rfl)) rfl).trans (congrArg some (hF 4 (hon 4 (by kernel_rfl))))
   have e80 : a.tmps[80]? = some (.agg #[x3_41, y3_41]) := (on_ 5 ha rfl (hon 5 (by kernel_rfl)) rfl).trans (congrArg some (hF 5 (hon 5 (by kernel_rfl))))
   refine goes_ Try.func35 (by kernel_rfl) rfl #[.agg #[x3_36, y3_36], .agg #[x3_41, y3_41]] (by rfl) rfl rfl (by first | (simp only [List.map_toArray, List.map_cons, List.map_nil, Act.eval, Array.getD_eq_getD_getElem?, Option.getD_some, e79, e80]; done) | (simp only [List.map_toArray, List.map_cons, List.map_nil, Act.eval, Array.getD_eq_getD_getElem?, Option.getD_some, e79, e80]; rfl)) ?_
   with_reducible refine (mul_c _ _ (a0 - d0) (c1 - d1) s0 s5 _ (Ni0) (Ni5)).mono ?_
   rintro e w1 ⟨r, rfl, hN, hb⟩
   exact ⟨_, rfl, hK.out _ _ (step_ 6 hR rfl rfl hb_ hb (GM _ _ hG hb) hN (fun h => by cases h) (fun _ => HM _ _ HH hb) rfl)⟩
  refine steps_cons ?_ ?_
  ·rintro b a w' ⟨ms, hR⟩ hb_ hon hoff
   obtain ⟨ha, hF, hD, hG, _⟩ := id hR
   have hG1 := hG
   rw [hGd] at hG1
   obtain ⟨HBl, HSz, Bx4, Bx5, Bx6, Bx7, Bx9, Bx10, Bx11, Bx12, Bx13, Bx14, Ni0, Ni1, Ni2, Ni3, Ni4, Ni5, Rs⟩ := hG1
   have HH := hR.2.2.2.2 (hoff 13 (by kernel_rfl))
   refine ⟨_, rfl, fun K hK => ?_⟩
   have e10 : a.tmps[10]? = some (.pointer (some ⟨g3_31, 0, none⟩)) := (off_ ha rfl).trans rfl
   have hc0 : w'.cell? ⟨g3_31, 0, none⟩ = some (x3_37) := (blk_cell Bx10 0).trans rfl
   have hc1 : w'.cell? ⟨g3_31, 1, none⟩ = some (y3_37) := (blk_cell Bx10 1).trans rfl
   have HR := Aside0.mk hR
   clear hR ha hF
   refine value_ (w1 := w') (v := .agg #[x3_37, y3_37]) (by rfl) rfl ?_ ?_
   ·go_simp
    (try simp only [i64_w])
    try rfl
   exact hK.out _ _ (step_ 7 HR.out rfl rfl hb_ (Below.refl _ _) hG rfl (fun h => by cases h) (fun _ => HH) rfl)
  refine steps_cons ?_ ?_
  ·rintro b a w' ⟨ms, hR⟩ hb_ hon hoff
   obtain ⟨ha, hF, hD, hG, _⟩ := id hR
   have hG1 := hG
   rw [hGd] at hG1
   obtain ⟨HBl, HSz, Bx4, Bx5, Bx6, Bx7, Bx9, Bx10, Bx11, Bx12, Bx13, Bx14, Ni0, Ni1, Ni2, Ni3, Ni4, Ni5, Rs⟩ := hG1
   have HH := hR.2.2.2.2 (hoff 13 (by kernel_rfl))
   refine ⟨_, rfl, fun K hK => ?_⟩
   have e13 : a.tmps[13]? = some (.pointer (some ⟨g3_34, 0, none⟩)) := (off_ ha rfl).trans rfl
   have hc0 : w'.cell? ⟨g3_34, 0, none⟩ = some (x3_40) := (blk_cell Bx13 0).trans rfl
   have hc1 : w'.cell? ⟨g3_34, 1, none⟩ = some (y3_40) := (blk_cell Bx13 1).trans rfl
   have HR := Aside0.mk hR
   clear hR ha hF
   refine value_ (w1 := w') (v := .agg #[x3_40, y3_40]) (by rfl) rfl ?_ ?_
   ·go_simp
    (try simp only [i64_w])
    try rfl
   exact hK.out _ _ (step_ 8 HR.out rfl rfl hb_ (Below.refl _ _) hG rfl (fun h => by cases h) (fun _ => HH) rfl)
  refine steps_cons ?_ ?_
  ·rintro b a w' ⟨ms, hR⟩ hb_ hon hoff
   obtain ⟨ha, hF, hD, hG, _⟩ := id hR
   have hG1 := hG
   rw [hGd] at hG1
   obtain ⟨HBl, HSz, Bx4, Bx5, Bx6, Bx7, Bx9, Bx10, Bx11, Bx12, Bx13, Bx14, Ni0, Ni1, Ni2, Ni3, Ni4, Ni5, Rs⟩ := hG1
   have HH := hR.2.2.2.2 (hoff 13 (by kernel_rfl))
   refine ⟨_, rfl, fun K hK => ?_⟩
   have e82 : a.tmps[82]? = some (.agg #[x3_37, y3_37]) := (on_ 7 ha rfl (hon 7 (by kernel_rfl)) rfl).trans (congrArg some (hF 7 (hon 7 (by kernel_rfl))))
   have e83 : a.tmps[83]? = some (.agg #[x3_40, y3_40]) := (on_ 8 ha rfl (hon 8 (by kernel_rfl)) rfl).trans (congrArg some (hF 8 (hon 8 (by kernel_rfl))))
   refine goes_ Try.func35 (by kernel_rfl) rfl #[.agg #[x3_37, y3_37], .agg #[x3_40, y3_40]] (by rfl) rfl rfl (by first | (simp only [List.map_toArray, List.map_cons, List.map_nil, Act.eval, Array.getD_eq_getD_getElem?, Option.getD_some, e82, e83]; done) | (simp only [List.map_toArray, List.map_cons, List.map_nil, Act.eval, Array.getD_eq_getD_getElem?, Option.getD_some, e82, e83]; rfl)) ?_
   with_reducible refine (mul_c _ _ (a1 - d1) (c0 - d0) s1 s4 _ (Ni1) (Ni4)).mono ?_
   rintro e w1 ⟨r, rfl, hN, hb⟩
   exact ⟨_, rfl, hK.out _ _ (step_ 9 hR rfl rfl hb_ hb (GM _ _ hG hb) hN (fun h => by cases h) (fun _ => HM _ _ HH hb) rfl)⟩
  refine steps_cons ?_ ?_
  ·rintro b a w' ⟨ms, hR⟩ hb_ hon hoff
   obtain ⟨ha, hF, hD, hG, _⟩ := id hR
   have hG1 := hG
   rw [hGd] at hG1
   obtain ⟨HBl, HSz, Bx4, Bx5, Bx6, Bx7, Bx9, Bx10, Bx11, Bx12, Bx13, Bx14, Ni0, Ni1, Ni2, Ni3, Ni4, Ni5, Rs⟩ := hG1
   have HH := hR.2.2.2.2 (hoff 13 (by kernel_rfl))
   refine ⟨_, rfl, fun K hK => ?_⟩
   have e81 : a.tmps[81]? = some (ms 6) := on_ 6 ha rfl (hon 6 (by kernel_rfl)) rfl
   have q6 : NI w' (ms 6) ((a0 - d0) * (c1 - d1)) := hF 6 (hon 6 (by kernel_rfl))
   have e84 : a.tmps[84]? = some (ms 9) := on_ 9 ha rfl (hon 9 (by kernel_rfl)) rfl
   have q9 : NI w' (ms 9) ((a1 - d1) * (c0 - d0)) := hF 9 (hon 9 (by kernel_rfl))
   refine goes_ Try.func36 (by kernel_rfl) rfl #[ms 6, ms 9] (by rfl) rfl rfl (by first | (simp only [List.map_toArray, List.map_cons, List.map_nil, Act.eval, Array.getD_eq_getD_getElem?, Option.getD_some, e81, e84]; done) | (simp only [List.map_toArray, List.map_cons, List.map_nil, Act.eval, Array.getD_eq_getD_getElem?, Option.getD_some, e81, e84]; rfl)) ?_
   with_reducible refine (sub_c _ _ ((a0 - d0) * (c1 - d1)) ((a1 - d1) * (c0 - d0)) p2 p3 _ (q6) (q9)).mono ?_
   rintro e w1 ⟨r, rfl, hN, hb⟩
   exact ⟨_, rfl, hK.out _ _ (step_ 10 hR rfl rfl hb_ hb (GM _ _ hG hb) hN (fun h => by cases h) (fun _ => HM _ _ HH hb) rfl)⟩
  refine steps_cons ?_ ?_
  ·rintro b a w' ⟨ms, hR⟩ hb_ hon hoff
   obtain ⟨ha, hF, hD, hG, _⟩ := id hR
   have hG1 := hG
   rw [hGd] at hG1
   obtain ⟨HBl, HSz, Bx4, Bx5, Bx6, Bx7, Bx9, Bx10, Bx11, Bx12, Bx13, Bx14, Ni0, Ni1, Ni2, Ni3, Ni4, Ni5, Rs⟩ := hG1
   have HH := hR.2.2.2.2 (hoff 13 (by kernel_rfl))
   refine ⟨_, rfl, fun K hK => ?_⟩
   have e78 : a.tmps[78]? = some (ms 3) := on_ 3 ha rfl (hon 3 (by kernel_rfl)) rfl
   have q3 : NI w' (ms 3) (ds b0 b1 d0 d1) := hF 3 (hon 3 (by kernel_rfl))
   have e85 : a.tmps[85]? = some (ms 10) := on_ 10 ha rfl (hon 10 (by kernel_rfl)) rfl
   have q10 : NI w' (ms 10) (((a0 - d0) * (c1 - d1)) - ((a1 - d1) * (c0 - d0))) := hF 10 (hon 10 (by kernel_rfl))
   refine goes_ Try.func35 (by kernel_rfl) rfl #[ms 3, ms 10] (by rfl) rfl rfl (by first | (simp only [List.map_toArray, List.map_cons, List.map_nil, Act.eval, Array.getD_eq_getD_getElem?, Option.getD_some, e78, e85]; done) | (simp only [List.map_toArray, List.map_cons, List.map_nil, Act.eval, Array.getD_eq_getD_getElem?, Option.getD_some, e78, e85]; rfl)) ?_
   with_reducible refine (mul_c _ _ (ds b0 b1 d0 d1) (((a0 - d0) * (c1 - d1)) - ((a1 - d1) * (c0 - d0))) t1 r1 _ (q3) (q10)).mono ?_
   rintro e w1 ⟨r, rfl, hN, hb⟩
   exact ⟨_, rfl, hK.out _ _ (step_ 11 hR rfl rfl hb_ hb (GM _ _ hG hb) hN (fun h => by cases h) (fun _ => HM _ _ HH hb) rfl)⟩
  refine steps_cons ?_ ?_
  ·rintro b a w' ⟨ms, hR⟩ hb_ hon hoff
   obtain ⟨ha, hF, hD, hG, _⟩ := id hR
   have hG1 := hG
   rw [hGd] at hG1
   obtain ⟨HBl, HSz, Bx4, Bx5, Bx6, Bx7, Bx9, Bx10, Bx11, Bx12, Bx13, Bx14, Ni0, Ni1, Ni2, Ni3, Ni4, Ni5, Rs⟩ := hG1
   have HH := hR.2.2.2.2 (hoff 13 (by kernel_rfl))
   refine ⟨_, rfl, fun K hK => ?_⟩
   have e75 : a.tmps[75]? = some (.agg #[x4_12, y4_12]) := (on_ 0 ha rfl (hon 0 (by kernel_rfl)) rfl).trans (congrArg some (hF 0 (hon 0 (by kernel_rfl))))
   have e86 : a.tmps[86]? = some (ms 11) := on_ 11 ha rfl (hon 11 (by kernel_rfl)) rfl
   have q11 : NI w' (ms 11) ((ds b0 b1 d0 d1) * (((a0 - d0) * (c1 - d1)) - ((a1 - d1) * (c0 - d0)))) := hF 11 (hon 11 (by kernel_rfl))
   refine goes_ Try.func36 (by kernel_rfl) rfl #[.agg #[x4_12, y4_12], ms 11] (by rfl) rfl rfl (by first | (simp only [List.map_toArray, List.map_cons, List.map_nil, Act.eval, Array.getD_eq_getD_getElem?, Option.getD_some, e75, e86]; done) | (simp only [List.map_toArray, List.map_cons, List.map_nil, Act.eval, Array.getD_eq_getD_getElem?, Option.getD_some, e75, e86]; rfl)) ?_
   with_reducible refine (sub_c _ _ ((ds a0 a1 d0 d1) * (((b0 - d0) * (c1 - d1)) - ((b1 - d1) * (c0 - d0)))) ((ds b0 b1 d0 d1) * (((a0 - d0) * (c1 - d1)) - ((a1 - d1) * (c0 - d0)))) u0 u1 _ (HH.2) (q11)).mono ?_
   rintro e w1 ⟨r, rfl, hN, hb⟩
   exact ⟨_, rfl, hK.out _ _ (step_ 12 hR rfl rfl hb_ hb (GM _ _ hG hb) hN (fun h => by cases h) (fun _ => HM _ _ HH hb) rfl)⟩
  refine steps_cons ?_ ?_
  ·rintro b a w' ⟨ms, hR⟩ hb_ hon hoff
   obtain ⟨ha, hF, hD, hG, _⟩ := id hR
   have hG1 := hG
   rw [hGd] at hG1
   obtain ⟨HBl, HSz, Bx4, Bx5, Bx6, Bx7, Bx9, Bx10, Bx11, Bx12, Bx13, Bx14, Ni0, Ni1, Ni2, Ni3, Ni4, Ni5, Rs⟩ := hG1
   have HH := True.intro
   refine ⟨_, rfl, fun K hK => ?_⟩
   have hn := hF 12 (hon 12 (by kernel_rfl))
   obtain ⟨sz, Az, lz, cz, ev⟩ := NI.shape hn
   have e87 : a.tmps[87]? = some (.agg #[.int .i64 sz, .slice Az lz cz]) := (on_ 12 ha rfl (hon 12 (by kernel_rfl)) rfl).trans (congrArg some ev)
   have e15 : a.tmps[15]? = some (.pointer (some ⟨g4_11, 0, none⟩)) := (off_ ha rfl).trans rfl
   obtain ⟨x0, y0, hgh⟩ := Rs
   have h0 : w'.cell? ⟨g4_11, 0, none⟩ = some x0 := (blk_cell hgh 0).trans rfl
   have h1 : w'.cell? ⟨g4_11, 1, none⟩ = some y0 := (blk_cell hgh 1).trans rfl
   have f0 := blk_frozen hgh 0
   have f1 := blk_frozen hgh 1
   have HR := Aside0.mk hR
   clear hR ha
   refine skip_ (w1 := ?_) (by rfl) rfl ?_ ?_
   rotate_left
   ·go_simp
    rfl
   exact hK.out _ _ (fin_ HR.out rfl (hall_ (by kernel_rfl) hon) rfl hb_ rfl hgh (by show g4_11 < K5; omega) ⟨_, _, blk_put (blk_put hgh 0 _ rfl) 1 _ rfl, by rw [← ev]; exact NI.store (NI.store hn hgh (by decide) 0 _) (blk_put hgh 0 _ rfl) (by decide) 1 _⟩ (GR _ _ _ _ _ hG hgh) rfl)
  exact steps_nil
 rintro b a V5 hall ⟨ms, ha, hF, hD, hG, _⟩
 rw [hGd] at hG
 obtain ⟨HBl, HSz, Bx4, Bx5, Bx6, Bx7, Bx9, Bx10, Bx11, Bx12, Bx13, Bx14, Ni0, Ni1, Ni2, Ni3, Ni4, Ni5, Rs⟩ := hG
 have bb5_0 := hall 0 (by kernel_rfl)
 have bb5_1 := hall 1 (by kernel_rfl)
 have bb5_2 := hall 2 (by kernel_rfl)
 have bb5_3 := hall 3 (by kernel_rfl)
 have bb5_4 := hall 4 (by kernel_rfl)
 have bb5_5 := hall 5 (by kernel_rfl)
 have bb5_6 := hall 6 (by kernel_rfl)
 have bb5_7 := hall 7 (by kernel_rfl)
 have bb5_8 := hall 8 (by kernel_rfl)
 have bb5_9 := hall 9 (by kernel_rfl)
 have bb5_10 := hall 10 (by kernel_rfl)
 have bb5_11 := hall 11 (by kernel_rfl)
 have bb5_12 := hall 12 (by kernel_rfl)
 have bb5_13 := hall 13 (by kernel_rfl)
 have m5_0 : ms 0 = .agg #[x4_12, y4_12] := hF 0 bb5_0
 have m5_1 : ms 1 = .agg #[.int .i64 b0, .int .i64 b1] := hF 1 bb5_1
 have m5_2 : ms 2 = .agg #[.int .i64 d0, .int .i64 d1] := hF 2 bb5_2
 have m5_3 : NI V5 (ms 3) (ds b0 b1 d0 d1) := hF 3 bb5_3
 have m5_4 : ms 4 = .agg #[x3_36, y3_36] := hF 4 bb5_4
 have m5_5 : ms 5 = .agg #[x3_41, y3_41] := hF 5 bb5_5
 have m5_6 : NI V5 (ms 6) ((a0 - d0) * (c1 - d1)) := hF 6 bb5_6
 have m5_7 : ms 7 = .agg #[x3_37, y3_37] := hF 7 bb5_7
 have m5_8 : ms 8 = .agg #[x3_40, y3_40] := hF 8 bb5_8
 have m5_9 : NI V5 (ms 9) ((a1 - d1) * (c0 - d0)) := hF 9 bb5_9
 have m5_10 : NI V5 (ms 10) (((a0 - d0) * (c1 - d1)) - ((a1 - d1) * (c0 - d0))) := hF 10 bb5_10
 have m5_11 : NI V5 (ms 11) ((ds b0 b1 d0 d1) * (((a0 - d0) * (c1 - d1)) - ((a1 - d1) * (c0 - d0)))) := hF 11 bb5_11
 have m5_12 : NI V5 (ms 12) (((ds a0 a1 d0 d1) * (((b0 - d0) * (c1 - d1)) - ((b1 - d1) * (c0 - d0)))) - ((ds b0 b1 d0 d1) * (((a0 - d0) * (c1 - d1)) - ((a1 - d1) * (c0 - d0))))) := hF 12 bb5_12
 obtain ⟨_, x5_13, y5_13, h5_13, m5_13⟩ := hF 13 bb5_13
 subst ha
 simp only [ent, List.map_cons, List.map_nil, putSel, bb5_0, bb5_1, bb5_2, bb5_3, bb5_4, bb5_5, bb5_6, bb5_7, bb5_8, bb5_9, bb5_10, bb5_11, bb5_12, m5_0, m5_1, m5_2, m5_4, m5_5, m5_7, m5_8, if_true, Act.put, List.setIfInBounds_toArray, List.set_cons_zero, List.set_cons_succ]
 clear hF hD bb5_0 bb5_1 bb5_2 bb5_3 bb5_4 bb5_5 bb5_6 bb5_7 bb5_8 bb5_9 bb5_10 bb5_11 bb5_12 bb5_13
 have hK5 : K5 ≤ V5.heap.size := HSz
 go_wp2_with fail
 obtain ⟨G, hGd⟩ : ∃ G : World → Prop, G = (fun w' => Below w.heap.size w w' ∧ K5 ≤ w'.heap.size ∧ w'.heap[w.heap.size]? = some (.cells #[.int .i64 a0, .int .i64 a1] 23 (0, 0)) ∧ w'.heap[w.heap.size + 1]? = some (.cells #[.int .i64 b0, .int .i64 b1] 23 (0, 0)) ∧ w'.heap[w.heap.size + 1 + 1]? = some (.cells #[.int .i64 c0, .int .i64 c1] 23 (0, 0)) ∧ w'.heap[w.heap.size + 1 + 1 + 1]? = some (.cells #[.int .i64 d0, .int .i64 d1] 23 (0, 0)) ∧ w'.heap[g3_30]? = some (.cells #[x3_36, y3_36] 33 (0, 0)) ∧ w'.heap[g3_31]? = some (.cells #[x3_37, y3_37] 33 (0, 0)) ∧ w'.heap[g3_32]? = some (.cells #[x3_38, y3_38] 33 (0, 0)) ∧ w'.heap[g3_33]? = some (.cells #[x3_39, y3_39] 33 (0, 0)) ∧ w'.heap[g3_34]? = some (.cells #[x3_40, y3_40] 33 (0, 0)) ∧ w'.heap[g3_35]? = some (.cells #[x3_41, y3_41] 33 (0, 0)) ∧ NI w' (.agg #[x3_36, y3_36]) (a0 - d0) ∧ NI w' (.agg #[x3_37, y3_37]) (a1 - d1) ∧ NI w' (.agg #[x3_38, y3_38]) (b0 - d0) ∧ NI w' (.agg #[x3_39, y3_39]) (b1 - d1) ∧ NI w' (.agg #[x3_40, y3_40]) (c0 - d0) ∧ NI w' (.agg #[x3_41, y3_41]) (c1 - d1) ∧ ∃ x y, w'.heap[g4_11]? = some (.cells #[x, y] 33 (0, 0))) := ⟨_, rfl⟩
 have GM : ∀ w1 w2 : World, G w1 → Below w1.heap.size w1 w2 → G w2 := by
  subst hGd
  rintro w1 w2 ⟨HBl, HSz, Bx4, Bx5, Bx6, Bx7, Bx9, Bx10, Bx11, Bx12, Bx13, Bx14, Ni0, Ni1, Ni2, Ni3, Ni4, Ni5, Rs⟩ hb
  exact ⟨below_step HBl hb, Nat.le_trans HSz hb.size, blk_below Bx4 hb, blk_below Bx5 hb, blk_below Bx6 hb, blk_below Bx7 hb, blk_below Bx9 hb, blk_below Bx10 hb, blk_below Bx11 hb, blk_below Bx12 hb, blk_below Bx13 hb, blk_below Bx14 hb, NI.below Ni0 hb, NI.below Ni1 hb, NI.below Ni2 hb, NI.below Ni3 hb, NI.below Ni4 hb, NI.below Ni5 hb, (Rs.elim fun x h => h.elim fun y h => ⟨x, y, blk_below h hb⟩)⟩
 have HM : ∀ w1 w2 : World, (fun w' => w'.heap[g4_11]? = some (.cells #[x5_13, y5_13] 33 (0, 0)) ∧ NI w' (.agg #[x5_13, y5_13]) (((ds a0 a1 d0 d1) * (((b0 - d0) * (c1 - d1)) - ((b1 - d1) * (c0 - d0)))) - ((ds b0 b1 d0 d1) * (((a0 - d0) * (c1 - d1)) - ((a1 - d1) * (c0 - d0)))))) w1 → Below w1.heap.size w1 w2 → (fun w' => w'.heap[g4_11]? = some (.cells #[x5_13, y5_13] 33 (0, 0)) ∧ NI w' (.agg #[x5_13, y5_13]) (((ds a0 a1 d0 d1) * (((b0 - d0) * (c1 - d1)) - ((b1 - d1) * (c0 - d0)))) - ((ds b0 b1 d0 d1) * (((a0 - d0) * (c1 - d1)) - ((a1 - d1) * (c0 - d0)))))) w2 := fun w1 w2 h hb => ⟨blk_below h.1 hb, h.2.below hb⟩
 have GR : ∀ (w1 : World) (x0 y0 x y : Value), G w1 → w1.heap[g4_11]? = some (.cells #[x0, y0] 33 (0, 0)) → G ((w1.setCell ⟨g4_11, 0, none⟩ x).setCell ⟨g4_11, 1, none⟩ y) := by
  subst hGd
  rintro w1 x0 y0 x y ⟨HBl, HSz, Bx4, Bx5, Bx6, Bx7, Bx9, Bx10, Bx11, Bx12, Bx13, Bx14, Ni0, Ni1, Ni2, Ni3, Ni4, Ni5, Rs⟩ hgh
  have hle : w.heap.size ≤ g4_11 := by omega
  exact ⟨below_set2 HBl hle _ _ _ _, (by simpa [World.setCell] using HSz), blk_far (blk_far Bx4 (fun e => by have e1 : (w.heap.size : Nat) = g4_11 := e; omega) _) (fun e => by have e1 : (w.heap.size : Nat) = g4_11 := e; omega) _, blk_far (blk_far Bx5 (fun e => by have e1 : (w.heap.size + 1 : Nat) = g4_11 := e; omega) _) (fun e => by have e1 : (w.heap.size + 1 : Nat) = g4_11 := e; omega) _, blk_far (blk_far Bx6 (fun e => by have e1 : (w.heap.size + 1 + 1 : Nat) = g4_11 := e; omega) _) (fun e => by have e1 : (w.heap.size + 1 + 1 : Nat) = g4_11 := e; omega) _, blk_far (blk_far Bx7 (fun e => by have e1 : (w.heap.size + 1 + 1 + 1 : Nat) = g4_11 := e; omega) _) (fun e => by have e1 : (w.heap.size + 1 + 1 + 1 : Nat) = g4_11 := e; omega) _, blk_far (blk_far Bx9 (fun e => by have e1 : (g3_30 : Nat) = g4_11 := e; omega) _) (fun e => by have e1 : (g3_30 : Nat) = g4_11 := e; omega) _, blk_far (blk_far Bx10 (fun e => by have e1 : (g3_31 : Nat) = g4_11 := e; omega) _) (fun e => by have e1 : (g3_31 : Nat) = g4_11 := e; omega) _, blk_far (blk_far Bx11 (fun e => by have e1 : (g3_32 : Nat) = g4_11 := e; omega) _) (fun e => by have e1 : (g3_32 : Nat) = g4_11 := e; omega) _, blk_far (blk_far Bx12 (fun e => by have e1 : (g3_33 : Nat) = g4_11 := e; omega) _) (fun e => by have e1 : (g3_33 : Nat) = g4_11 := e; omega) _, blk_far (blk_far Bx13 (fun e => by have e1 : (g3_34 : Nat) = g4_11 := e; omega) _) (fun e => by have e1 : (g3_34 : Nat) = g4_11 := e; omega) _, blk_far (blk_far Bx14 (fun e => by have e1 : (g3_35 : Nat) = g4_11 := e; omega) _) (fun e => by have e1 : (g3_35 : Nat) = g4_11 := e; omega) _, NI.store (NI.store Ni0 hgh (by decide) 0 _) (blk_put hgh 0 _ rfl) (by decide) 1 _, NI.store (NI.store Ni1 hgh (by decide) 0 _) (blk_put hgh 0 _ rfl) (by decide) 1 _, NI.store (NI.store Ni2 hgh (by decide) 0 _) (blk_put hgh 0 _ rfl) (by decide) 1 _, NI.store (NI.store Ni3 hgh (by decide) 0 _) (blk_put hgh 0 _ rfl) (by decide) 1 _, NI.store (NI.store Ni4 hgh (by decide) 0 _) (blk_put hgh 0 _ rfl) (by decide) 1 _, NI.store (NI.store Ni5 hgh (by decide) 0 _) (blk_put hgh 0 _ rfl) (by decide) 1 _, _, _, blk_put (blk_put hgh 0 _ rfl) 1 _ rfl⟩
 refine start_ (n := 14) (S := fun w' => True) (ds := []) #[false, false, false, false, false, false, false, false, false, false, false, false, false, false] (by kernel_rfl) rfl rfl trivial (fun _ => ?_); refine with_tabW inc6.tab inc6.bits (fun HT_ HW_ => ?_)
 have hG0 : G V5.drew := by subst hGd; exact ⟨below_drew HBl, hK5, Bx4, Bx5, Bx6, Bx7, Bx9, Bx10, Bx11, Bx12, Bx13, Bx14, Ni0.drewN 1, Ni1.drewN 1, Ni2.drewN 1, Ni3.drewN 1, Ni4.drewN 1, Ni5.drewN 1, _, _, h5_13⟩
 have hH0 : (fun w' => w'.heap[g4_11]? = some (.cells #[x5_13, y5_13] 33 (0, 0)) ∧ NI w' (.agg #[x5_13, y5_13]) (((ds a0 a1 d0 d1) * (((b0 - d0) * (c1 - d1)) - ((b1 - d1) * (c0 - d0)))) - ((ds b0 b1 d0 d1) * (((a0 - d0) * (c1 - d1)) - ((a1 - d1) * (c0 - d0)))))) V5.drew := ⟨h5_13, m5_13.drewN 1⟩
 generalize V5.drew = W1 at hG0 hH0 ⊢
 refine inv_at [0, 1, 2, 3, 4, 5, 6, 7, 8, 9, 10, 11, 12, 13] (fun a0_ b a w' => Rg ⟨[0, 1, 2, 3, 4, 5, 6, 7, 8, 9, 10, 11, 12, 13], [(0, 88), (1, 89), (2, 90), (3, 91), (4, 92), (5, 93), (6, 94), (7, 95), (8, 96), (9, 97), (10, 98), (11, 99), (12, 100)], fun j => [.const (.agg #[x5_13, y5_13]), .const (.agg #[.int .i64 c0, .int .i64 c1]), .const (.agg #[.int .i64 d0, .int .i64 d1]), .ni (ds c0 c1 d0 d1), .const (.agg #[x3_36, y3_36]), .const (.agg #[x3_39, y3_39]), .ni ((a0 - d0) * (b1 - d1)), .const (.agg #[x3_37, y3_37]), .const (.agg #[x3_38, y3_38]), .ni ((a1 - d1) * (b0 - d0)), .ni (((a0 - d0) * (b1 - d1)) - ((a1 - d1) * (b0 - d0))), .ni ((ds c0 c1 d0 d1) * (((a0 - d0) * (b1 - d1)) - ((a1 - d1) * (b0 - d0)))), .ni ((((ds a0 a1 d0 d1) * (((b0 - d0) * (c1 - d1)) - ((b1 - d1) * (c0 - d0)))) - ((ds b0 b1 d0 d1) * (((a0 - d0) * (c1 - d1)) - ((a1 - d1) * (c0 - d0))))) + ((ds c0 c1 d0 d1) * (((a0 - d0) * (b1 - d1)) - ((a1 - d1) * (b0 - d0))))), .fin (fun ms w' => ∃ x y, w'.heap[g4_11]? = some (.cells #[x, y] 33 (0, 0)) ∧ NI w' (.agg #[x, y]) ((((ds a0 a1 d0 d1) * (((b0 - d0) * (c1 - d1)) - ((b1 - d1) * (c0 - d0)))) - ((ds b0 b1 d0 d1) * (((a0 - d0) * (c1 - d1)) - ((a1 - d1) * (c0 - d0))))) + ((ds c0 c1 d0 d1) * (((a0 - d0) * (b1 - d1)) - ((a1 - d1) * (b0 - d0))))))].getD j .box, K5, 0, G, fun w' => w'.heap[g4_11]? = some (.cells #[x5_13, y5_13] 33 (0, 0)) ∧ NI w' (.agg #[x5_13, y5_13]) (((ds a0 a1 d0 d1) * (((b0 - d0) * (c1 - d1)) - ((b1 - d1) * (c0 - d0)))) - ((ds b0 b1 d0 d1) * (((a0 - d0) * (c1 - d1)) - ((a1 - d1) * (c0 - d0))))), 13⟩ a0_ b a w') HT_.out HW_.out (by kernel_rfl) (by kernel_rfl) ?_ ?_ ?_
 ·exact rg0 hG0 hH0
 ·refine steps_cons ?_ ?_
  ·rintro b a w' ⟨ms, hR⟩ hb_ hon hoff
   obtain ⟨ha, hF, hD, hG, _⟩ := id hR
   have hG1 := hG
   rw [hGd] at hG1
   obtain ⟨HBl, HSz, Bx4, Bx5, Bx6, Bx7, Bx9, Bx10, Bx11, Bx12, Bx13, Bx14, Ni0, Ni1, Ni2, Ni3, Ni4, Ni5, Rs⟩ := hG1
   have HH := hR.2.2.2.2 (hoff 13 (by kernel_rfl))
   refine ⟨_, rfl, fun K hK => ?_⟩
   have e15 : a.tmps[15]? = some (.pointer (some ⟨g4_11, 0, none⟩)) := (off_ ha rfl).trans rfl
   have hc0 : w'.cell? ⟨g4_11, 0, none⟩ = some (x5_13) := (blk_cell HH.1 0).trans rfl
   have hc1 : w'.cell? ⟨g4_11, 1, none⟩ = some (y5_13) := (blk_cell HH.1 1).trans rfl
   have HR := Aside0.mk hR
   clear hR ha hF
   refine value_ (w1 := w') (v := .agg #[x5_13, y5_13]) (by rfl) rfl ?_ ?_
   ·go_simp
    (try simp only [i64_w])
    try rfl
   exact hK.out _ _ (step_ 0 HR.out rfl rfl hb_ (Below.refl _ _) hG rfl (fun h => by cases h) (fun _ => HH) rfl)
  refine steps_cons ?_ ?_
  ·rintro b a w' ⟨ms, hR⟩ hb_ hon hoff
   obtain ⟨ha, hF, hD, hG, _⟩ := id hR
   have hG1 := hG
   rw [hGd] at hG1
   obtain ⟨HBl, HSz, Bx4, Bx5, Bx6, Bx7, Bx9, Bx10, Bx11, Bx12, Bx13, Bx14, Ni0, Ni1, Ni2, Ni3, Ni4, Ni5, Rs⟩ := hG1
   have HH := hR.2.2.2.2 (hoff 13 (by kernel_rfl))
   refine ⟨_, rfl, fun K hK => ?_⟩
   have e6 : a.tmps[6]? = some (.pointer (some ⟨w.heap.size + 1 + 1, 0, none⟩)) := (off_ ha rfl).trans rfl
   have hc0 : w'.cell? ⟨w.heap.size + 1 + 1, 0, none⟩ = some (.int .i64 c0) := (blk_cell Bx6 0).trans rfl
   have hc1 : w'.cell? ⟨w.heap.size + 1 + 1, 1, none⟩ = some (.int .i64 c1) := (blk_cell Bx6 1).trans rfl
   have HR := Aside0.mk hR
   clear hR ha hF
   refine value_ (w1 := w') (v := .agg #[.int .i64 c0, .int .i64 c1]) (by rfl) rfl ?_ ?_
   ·go_simp
    (try simp only [i64_w])
    try rfl
   exact hK.out _ _ (step_ 1 HR.out rfl rfl hb_ (Below.refl _ _) hG rfl (fun h => by cases h) (fun _ => HH) rfl)
  refine steps_cons ?_ ?_
  ·rintro b a w' ⟨ms, hR⟩ hb_ hon hoff
   obtain ⟨ha, hF, hD, hG, _⟩ := id hR
   have hG1 := hG
   rw [hGd] at hG1
   obtain ⟨HBl, HSz, Bx4, Bx5, Bx6, Bx7, Bx9, Bx10, Bx11, Bx12, Bx13, Bx14, Ni0, Ni1, Ni2, Ni3, Ni4, Ni5, Rs⟩ := hG1
   have HH := hR.2.2.2.2 (hoff 13 (by kernel_rfl))
   refine ⟨_, rfl, fun K hK => ?_⟩
   have e7 : a.tmps[7]? = some (.pointer (some ⟨w.heap.size + 1 + 1 + 1, 0, none⟩)) := (off_ ha rfl).trans rfl
   have hc0 : w'.cell? ⟨w.heap.size + 1 + 1 + 1, 0, none⟩ = some (.int .i64 d0) := (blk_cell Bx7 0).trans rfl
   have hc1 : w'.cell? ⟨w.heap.size + 1 + 1 + 1, 1, none⟩ = some (.int .i64 d1) := (blk_cell Bx7 1).trans rfl
   have HR := Aside0.mk hR
   clear hR ha hF
   refine value_ (w1 := w') (v := .agg #[.int .i64 d0, .int .i64 d1]) (by rfl) rfl ?_ ?_
   ·go_simp
    (try simp only [i64_w])
    try rfl
   exact hK.out _ _ (step_ 2 HR.out rfl rfl hb_ (Below.refl _ _) hG rfl (fun h => by cases h) (fun _ => HH) rfl)
  refine steps_cons ?_ ?_
  ·rintro b a w' ⟨ms, hR⟩ hb_ hon hoff
   obtain ⟨ha, hF, hD, hG, _⟩ := id hR
   have hG1 := hG
   rw [hGd] at hG1
   obtain ⟨HBl, HSz, Bx4, Bx5, Bx6, Bx7, Bx9, Bx10, Bx11, Bx12, Bx13, Bx14, Ni0, Ni1, Ni2, Ni3, Ni4, Ni5, Rs⟩ := hG1
   have HH := hR.2.2.2.2 (hoff 13 (by kernel_rfl))
   refine ⟨_, rfl, fun K hK => ?_⟩
   have e89 : a.tmps[89]? = some (.agg #[.int .i64 c0, .int .i64 c1]) := (on_ 1 ha rfl (hon 1 (by kernel_rfl)) rfl).trans (congrArg some (hF 1 (hon 1 (by kernel_rfl))))
   have e90 : a.tmps[90]? = some (.agg #[.int .i64 d0, .int .i64 d1]) := (on_ 2 ha rfl (hon 2 (by kernel_rfl)) rfl).trans (congrArg some (hF 2 (hon 2 (by kernel_rfl))))
   refine goes_ Try.func19 (by kernel_rfl) rfl #[.agg #[.int .i64 c0, .int .i64 c1], .agg #[.int .i64 d0, .int .i64 d1]] (by rfl) rfl rfl (by first | (simp only [List.map_toArray, List.map_cons, List.map_nil, Act.eval, Array.getD_eq_getD_getElem?, Option.getD_some, e89, e90]; done) | (simp only [List.map_toArray, List.map_cons, List.map_nil, Act.eval, Array.getD_eq_getD_getElem?, Option.getD_some, e89, e90]; rfl)) ?_
   with_reducible refine (dist_c Qc Qd _).mono ?_
   rintro e w1 ⟨r, rfl, hN, hb⟩
   exact ⟨_, rfl, hK.out _ _ (step_ 3 hR rfl rfl hb_ hb (GM _ _ hG hb) hN (fun h => by cases h) (fun _ => HM _ _ HH hb) rfl)⟩
  refine steps_cons ?_ ?_
  ·rintro b a w' ⟨ms, hR⟩ hb_ hon hoff
   obtain ⟨ha, hF, hD, hG, _⟩ := id hR
   have hG1 := hG
   rw [hGd] at hG1
   obtain ⟨HBl, HSz, Bx4, Bx5, Bx6, Bx7, Bx9, Bx10, Bx11, Bx12, Bx13, Bx14, Ni0, Ni1, Ni2, Ni3, Ni4, Ni5, Rs⟩ := hG1
   have HH := hR.2.2.2.2 (hoff 13 (by kernel_rfl))
   refine ⟨_, rfl, fun K hK => ?_⟩
   have e9 : a.tmps[9]? = some (.pointer (some ⟨g3_30, 0, none⟩)) := (off_ ha rfl).trans rfl
   have hc0 : w'.cell? ⟨g3_30, 0, none⟩ = some (x3_36) := (blk_cell Bx9 0).trans rfl
   have hc1 : w'.cell? ⟨g3_30, 1, none⟩ = some (y3_36) := (blk_cell Bx9 1).trans rfl
   have HR := Aside0.mk hR
   clear hR ha hF
   refine value_ (w1 := w') (v := .agg #[x3_36, y3_36]) (by rfl) rfl ?_ ?_
   ·go_simp
    (try simp only [i64_w])
    try rfl
   exact hK.out _ _ (step_ 4 HR.out rfl rfl hb_ (Below.refl _ _) hG rfl (fun h => by cases h) (fun _ => HH) rfl)
  refine steps_cons ?_ ?_
  ·rintro b a w' ⟨ms, hR⟩ hb_ hon hoff
   obtain ⟨ha, hF, hD, hG, _⟩ := id hR
   have hG1 := hG
   rw [hGd] at hG1
   obtain ⟨HBl, HSz, Bx4, Bx5, Bx6, Bx7, Bx9, Bx10, Bx11, Bx12, Bx13, Bx14, Ni0, Ni1, Ni2, Ni3, Ni4, Ni5, Rs⟩ := hG1
   have HH := hR.2.2.2.2 (hoff 13 (by kernel_rfl))
   refine ⟨_, rfl, fun K hK => ?_⟩
   have e12 : a.tmps[12]? = some (.pointer (some ⟨g3_33, 0, none⟩)) := (off_ ha rfl).trans rfl
   have hc0 : w'.cell? ⟨g3_33, 0, none⟩ = some (x3_39) := (blk_cell Bx12 0).trans rfl
   have hc1 : w'.cell? ⟨g3_33, 1, none⟩ = some (y3_39) := (blk_cell Bx12 1).trans rfl
   have HR := Aside0.mk hR
   clear hR ha hF
   refine value_ (w1 := w') (v := .agg #[x3_39, y3_39]) (by rfl) rfl ?_ ?_
   ·go_simp
    (try simp only [i64_w])
    try rfl
   exact hK.out _ _ (step_ 5 HR.out rfl rfl hb_ (Below.refl _ _) hG rfl (fun h => by cases h) (fun _ => HH) rfl)
  refine steps_cons ?_ ?_
  ·rintro b a w' ⟨ms, hR⟩ hb_ hon hoff
   obtain ⟨ha, hF, hD, hG, _⟩ := id hR
   have hG1 := hG
   rw [hGd] at hG1
   obtain ⟨HBl, HSz, Bx4, Bx5, Bx6, Bx7, Bx9, Bx10, Bx11, Bx12, Bx13, Bx14, Ni0, Ni1, Ni2, Ni3, Ni4, Ni5, Rs⟩ := hG1
   have HH := hR.2.2.2.2 (hoff 13 (by kernel_rfl))
   refine ⟨_, rfl, fun K hK => ?_⟩
   have e92 : a.tmps[92]? = some (.agg #[x3_36, y3_36]) := (on_ 4 ha rfl (hon 4 (by kernel_rfl)) rfl).trans (congrArg some (hF 4 (hon 4 (by kernel_rfl))))
   have e93 : a.tmps[93]? = some (.agg #[x3_39, y3_39]) := (on_ 5 ha rfl (hon 5 (by kernel_rfl)) rfl).trans (congrArg some (hF 5 (hon 5 (by kernel_rfl))))
   refine goes_ Try.func35 (by kernel_rfl) rfl #[.agg #[x3_36, y3_36], .agg #[x3_39, y3_39]] (by rfl) rfl rfl (by first | (simp only [List.map_toArray, List.map_cons, List.map_nil, Act.eval, Array.getD_eq_getD_getElem?, Option.getD_some, e92, e93]; done) | (simp only [List.map_toArray, List.map_cons, List.map_nil, Act.eval, Array.getD_eq_getD_getElem?, Option.getD_some, e92, e93]; rfl)) ?_
   with_reducible refine (mul_c _ _ (a0 - d0) (b1 - d1) s0 s3 _ (Ni0) (Ni3)).mono ?_
   rintro e w1 ⟨r, rfl, hN, hb⟩
   exact ⟨_, rfl, hK.out _ _ (step_ 6 hR rfl rfl hb_ hb (GM _ _ hG hb) hN (fun h => by cases h) (fun _ => HM _ _ HH hb) rfl)⟩
  refine steps_cons ?_ ?_
  ·rintro b a w' ⟨ms, hR⟩ hb_ hon hoff
   obtain ⟨ha, hF, hD, hG, _⟩ := id hR
   have hG1 := hG
   rw [hGd] at hG1
   obtain ⟨HBl, HSz, Bx4, Bx5, Bx6, Bx7, Bx9, Bx10, Bx11, Bx12, Bx13, Bx14, Ni0, Ni1, Ni2, Ni3, Ni4, Ni5, Rs⟩ := hG1
   have HH := hR.2.2.2.2 (hoff 13 (by kernel_rfl))
   refine ⟨_, rfl, fun K hK => ?_⟩
   have e10 : a.tmps[10]? = some (.pointer (some ⟨g3_31, 0, none⟩)) := (off_ ha rfl).trans rfl
   have hc0 : w'.cell? ⟨g3_31, 0, none⟩ = some (x3_37) := (blk_cell Bx10 0).trans rfl
   have hc1 : w'.cell? ⟨g3_31, 1, none⟩ = some (y3_37) := (blk_cell Bx10 1).trans rfl
   have HR := Aside0.mk hR
   clear hR ha hF
   refine value_ (w1 := w') (v := .agg #[x3_37, y3_37]) (by rfl) rfl ?_ ?_
   ·go_simp
    (try simp only [i64_w])
    try rfl
   exact hK.out _ _ (step_ 7 HR.out rfl rfl hb_ (Below.refl _ _) hG rfl (fun h => by cases h) (fun _ => HH) rfl)
  refine steps_cons ?_ ?_
  ·rintro b a w' ⟨ms, hR⟩ hb_ hon hoff
   obtain ⟨ha, hF, hD, hG, _⟩ := id hR
   have hG1 := hG
   rw [hGd] at hG1
   obtain ⟨HBl, HSz, Bx4, Bx5, Bx6, Bx7, Bx9, Bx10, Bx11, Bx12, Bx13, Bx14, Ni0, Ni1, Ni2, Ni3, Ni4, Ni5, Rs⟩ := hG1
   have HH := hR.2.2.2.2 (hoff 13 (by kernel_rfl))
   refine ⟨_, rfl, fun K hK => ?_⟩
   have e11 : a.tmps[11]? = some (.pointer (some ⟨g3_32, 0, none⟩)) := (off_ ha rfl).trans rfl
   have hc0 : w'.cell? ⟨g3_32, 0, none⟩ = some (x3_38) := (blk_cell Bx11 0).trans rfl
   have hc1 : w'.cell? ⟨g3_32, 1, none⟩ = some (y3_38) := (blk_cell Bx11 1).trans rfl
   have HR := Aside0.mk hR
   clear hR ha hF
   refine value_ (w1 := w') (v := .agg #[x3_38, y3_38]) (by rfl) rfl ?_ ?_
   ·go_simp
    (try simp only [i64_w])
    try rfl
   exact hK.out _ _ (step_ 8 HR.out rfl rfl hb_ (Below.refl _ _) hG rfl (fun h => by cases h) (fun _ => HH) rfl)
  refine steps_cons ?_ ?_
  ·rintro b a w' ⟨ms, hR⟩ hb_ hon hoff
   obtain ⟨ha, hF, hD, hG, _⟩ := id hR
   have hG1 := hG
   rw [hGd] at hG1
   obtain ⟨HBl, HSz, Bx4, Bx5, Bx6, Bx7, Bx9, Bx10, Bx11, Bx12, Bx13, Bx14, Ni0, Ni1, Ni2, Ni3, Ni4, Ni5, Rs⟩ := hG1
   have HH := hR.2.2.2.2 (hoff 13 (by kernel_rfl))
   refine ⟨_, rfl, fun K hK => ?_⟩
   have e95 : a.tmps[95]? = some (.agg #[x3_37, y3_37]) := (on_ 7 ha rfl (hon 7 (by kernel_rfl)) rfl).trans (congrArg some (hF 7 (hon 7 (by kernel_rfl))))
   have e96 : a.tmps[96]? = some (.agg #[x3_38, y3_38]) := (on_ 8 ha rfl (hon 8 (by kernel_rfl)) rfl).trans (congrArg some (hF 8 (hon 8 (by kernel_rfl))))
   refine goes_ Try.func35 (by kernel_rfl) rfl #[.agg #[x3_37, y3_37], .agg #[x3_38, y3_38]] (by rfl) rfl rfl (by first | (simp only [List.map_toArray, List.map_cons, List.map_nil, Act.eval, Array.getD_eq_getD_getElem?, Option.getD_some, e95, e96]; done) | (simp only [List.map_toArray, List.map_cons, List.map_nil, Act.eval, Array.getD_eq_getD_getElem?, Option.getD_some, e95, e96]; rfl)) ?_
   with_reducible refine (mul_c _ _ (a1 - d1) (b0 - d0) s1 s2 _ (Ni1) (Ni2)).mono ?_
   rintro e w1 ⟨r, rfl, hN, hb⟩
   exact ⟨_, rfl, hK.out _ _ (step_ 9 hR rfl rfl hb_ hb (GM _ _ hG hb) hN (fun h => by cases h) (fun _ => HM _ _ HH hb) rfl)⟩
  refine steps_cons ?_ ?_
  ·rintro b a w' ⟨ms, hR⟩ hb_ hon hoff
   obtain ⟨ha, hF, hD, hG, _⟩ := id hR
   have hG1 := hG
   rw [hGd] at hG1
   obtain ⟨HBl, HSz, Bx4, Bx5, Bx6, Bx7, Bx9, Bx10, Bx11, Bx12, Bx13, Bx14, Ni0, Ni1, Ni2, Ni3, Ni4, Ni5, Rs⟩ := hG1
   have HH := hR.2.2.2.2 (hoff 13 (by kernel_rfl))
   refine ⟨_, rfl, fun K hK => ?_⟩
   have e94 : a.tmps[94]? = some (ms 6) := on_ 6 ha rfl (hon 6 (by kernel_rfl)) rfl
   have q6 : NI w' (ms 6) ((a0 - d0) * (b1 - d1)) := hF 6 (hon 6 (by kernel_rfl))
   have e97 : a.tmps[97]? = some (ms 9) := on_ 9 ha rfl (hon 9 (by kernel_rfl)) rfl
   have q9 : NI w' (ms 9) ((a1 - d1) * (b0 - d0)) := hF 9 (hon 9 (by kernel_rfl))
   refine goes_ Try.func36 (by kernel_rfl) rfl #[ms 6, ms 9] (by rfl) rfl rfl (by first | (simp only [List.map_toArray, List.map_cons, List.map_nil, Act.eval, Array.getD_eq_getD_getElem?, Option.getD_some, e94, e97]; done) | (simp only [List.map_toArray, List.map_cons, List.map_nil, Act.eval, Array.getD_eq_getD_getElem?, Option.getD_some, e94, e97]; rfl)) ?_
   with_reducible refine (sub_c _ _ ((a0 - d0) * (b1 - d1)) ((a1 - d1) * (b0 - d0)) p4 p5 _ (q6) (q9)).mono ?_
   rintro e w1 ⟨r, rfl, hN, hb⟩
   exact ⟨_, rfl, hK.out _ _ (step_ 10 hR rfl rfl hb_ hb (GM _ _ hG hb) hN (fun h => by cases h) (fun _ => HM _ _ HH hb) rfl)⟩
  refine steps_cons ?_ ?_
  ·rintro b a w' ⟨ms, hR⟩ hb_ hon hoff
   obtain ⟨ha, hF, hD, hG, _⟩ := id hR
   have hG1 := hG
   rw [hGd] at hG1
   obtain ⟨HBl, HSz, Bx4, Bx5, Bx6, Bx7, Bx9, Bx10, Bx11, Bx12, Bx13, Bx14, Ni0, Ni1, Ni2, Ni3, Ni4, Ni5, Rs⟩ := hG1
   have HH := hR.2.2.2.2 (hoff 13 (by kernel_rfl))
   refine ⟨_, rfl, fun K hK => ?_⟩
   have e91 : a.tmps[91]? = some (ms 3) := on_ 3 ha rfl (hon 3 (by kernel_rfl)) rfl
   have q3 : NI w' (ms 3) (ds c0 c1 d0 d1) := hF 3 (hon 3 (by kernel_rfl))
   have e98 : a.tmps[98]? = some (ms 10) := on_ 10 ha rfl (hon 10 (by kernel_rfl)) rfl
   have q10 : NI w' (ms 10) (((a0 - d0) * (b1 - d1)) - ((a1 - d1) * (b0 - d0))) := hF 10 (hon 10 (by kernel_rfl))
   refine goes_ Try.func35 (by kernel_rfl) rfl #[ms 3, ms 10] (by rfl) rfl rfl (by first | (simp only [List.map_toArray, List.map_cons, List.map_nil, Act.eval, Array.getD_eq_getD_getElem?, Option.getD_some, e91, e98]; done) | (simp only [List.map_toArray, List.map_cons, List.map_nil, Act.eval, Array.getD_eq_getD_getElem?, Option.getD_some, e91, e98]; rfl)) ?_
   with_reducible refine (mul_c _ _ (ds c0 c1 d0 d1) (((a0 - d0) * (b1 - d1)) - ((a1 - d1) * (b0 - d0))) t2 r2 _ (q3) (q10)).mono ?_
   rintro e w1 ⟨r, rfl, hN, hb⟩
   exact ⟨_, rfl, hK.out _ _ (step_ 11 hR rfl rfl hb_ hb (GM _ _ hG hb) hN (fun h => by cases h) (fun _ => HM _ _ HH hb) rfl)⟩
  refine steps_cons ?_ ?_
  ·rintro b a w' ⟨ms, hR⟩ hb_ hon hoff
   obtain ⟨ha, hF, hD, hG, _⟩ := id hR
   have hG1 := hG
   rw [hGd] at hG1
   obtain ⟨HBl, HSz, Bx4, Bx5, Bx6, Bx7, Bx9, Bx10, Bx11, Bx12, Bx13, Bx14, Ni0, Ni1, Ni2, Ni3, Ni4, Ni5, Rs⟩ := hG1
   have HH := hR.2.2.2.2 (hoff 13 (by kernel_rfl))
   refine ⟨_, rfl, fun K hK => ?_⟩
   have e88 : a.tmps[88]? = some (.agg #[x5_13, y5_13]) := (on_ 0 ha rfl (hon 0 (by kernel_rfl)) rfl).trans (congrArg some (hF 0 (hon 0 (by kernel_rfl))))
   have e99 : a.tmps[99]? = some (ms 11) := on_ 11 ha rfl (hon 11 (by kernel_rfl)) rfl
   have q11 : NI w' (ms 11) ((ds c0 c1 d0 d1) * (((a0 - d0) * (b1 - d1)) - ((a1 - d1) * (b0 - d0)))) := hF 11 (hon 11 (by kernel_rfl))
   refine goes_ Try.func37 (by kernel_rfl) rfl #[.agg #[x5_13, y5_13], ms 11] (by rfl) rfl rfl (by first | (simp only [List.map_toArray, List.map_cons, List.map_nil, Act.eval, Array.getD_eq_getD_getElem?, Option.getD_some, e88, e99]; done) | (simp only [List.map_toArray, List.map_cons, List.map_nil, Act.eval, Array.getD_eq_getD_getElem?, Option.getD_some, e88, e99]; rfl)) ?_
   with_reducible refine (add_c _ _ (((ds a0 a1 d0 d1) * (((b0 - d0) * (c1 - d1)) - ((b1 - d1) * (c0 - d0)))) - ((ds b0 b1 d0 d1) * (((a0 - d0) * (c1 - d1)) - ((a1 - d1) * (c0 - d0))))) ((ds c0 c1 d0 d1) * (((a0 - d0) * (b1 - d1)) - ((a1 - d1) * (b0 - d0)))) v1 u2 _ (HH.2) (q11)).mono ?_
   rintro e w1 ⟨r, rfl, hN, hb⟩
   exact ⟨_, rfl, hK.out _ _ (step_ 12 hR rfl rfl hb_ hb (GM _ _ hG hb) hN (fun h => by cases h) (fun _ => HM _ _ HH hb) rfl)⟩
  refine steps_cons ?_ ?_
  ·rintro b a w' ⟨ms, hR⟩ hb_ hon hoff
   obtain ⟨ha, hF, hD, hG, _⟩ := id hR
   have hG1 := hG
   rw [hGd] at hG1
   obtain ⟨HBl, HSz, Bx4, Bx5, Bx6, Bx7, Bx9, Bx10, Bx11, Bx12, Bx13, Bx14, Ni0, Ni1, Ni2, Ni3, Ni4, Ni5, Rs⟩ := hG1
   have HH := True.intro
   refine ⟨_, rfl, fun K hK => ?_⟩
   have hn := hF 12 (hon 12 (by kernel_rfl))
   obtain ⟨sz, Az, lz, cz, ev⟩ := NI.shape hn
   have e100 : a.tmps[100]? = some (.agg #[.int .i64 sz, .slice Az lz cz]) := (on_ 12 ha rfl (hon 12 (by kernel_rfl)) rfl).trans (congrArg some ev)
   have e15 : a.tmps[15]? = some (.pointer (some ⟨g4_11, 0, none⟩)) := (off_ ha rfl).trans rfl
   obtain ⟨x0, y0, hgh⟩ := Rs
   have h0 : w'.cell? ⟨g4_11, 0, none⟩ = some x0 := (blk_cell hgh 0).trans rfl
   have h1 : w'.cell? ⟨g4_11, 1, none⟩ = some y0 := (blk_cell hgh 1).trans rfl
   have f0 := blk_frozen hgh 0
   have f1 := blk_frozen hgh 1
   have HR := Aside0.mk hR
   clear hR ha
   refine skip_ (w1 := ?_) (by rfl) rfl ?_ ?_
   rotate_left
   ·go_simp
    rfl
   exact hK.out _ _ (fin_ HR.out rfl (hall_ (by kernel_rfl) hon) rfl hb_ rfl hgh (by show g4_11 < K5; omega) ⟨_, _, blk_put (blk_put hgh 0 _ rfl) 1 _ rfl, by rw [← ev]; exact NI.store (NI.store hn hgh (by decide) 0 _) (blk_put hgh 0 _ rfl) (by decide) 1 _⟩ (GR _ _ _ _ _ hG hgh) rfl)
  exact steps_nil
 rintro b a V6 hall ⟨ms, ha, hF, hD, hG, _⟩
 rw [hGd] at hG
 obtain ⟨HBl, HSz, Bx4, Bx5, Bx6, Bx7, Bx9, Bx10, Bx11, Bx12, Bx13, Bx14, Ni0, Ni1, Ni2, Ni3, Ni4, Ni5, Rs⟩ := hG
 have bb6_0 := hall 0 (by kernel_rfl)
 have bb6_1 := hall 1 (by kernel_rfl)
 have bb6_2 := hall 2 (by kernel_rfl)
 have bb6_3 := hall 3 (by kernel_rfl)
 have bb6_4 := hall 4 (by kernel_rfl)
 have bb6_5 := hall 5 (by kernel_rfl)
 have bb6_6 := hall 6 (by kernel_rfl)
 have bb6_7 := hall 7 (by kernel_rfl)
 have bb6_8 := hall 8 (by kernel_rfl)
 have bb6_9 := hall 9 (by kernel_rfl)
 have bb6_10 := hall 10 (by kernel_rfl)
 have bb6_11 := hall 11 (by kernel_rfl)
 have bb6_12 := hall 12 (by kernel_rfl)
 have bb6_13 := hall 13 (by kernel_rfl)
 have m6_0 : ms 0 = .agg #[x5_13, y5_13] := hF 0 bb6_0
 have m6_1 : ms 1 = .agg #[.int .i64 c0, .int .i64 c1] := hF 1 bb6_1
 have m6_2 : ms 2 = .agg #[.int .i64 d0, .int .i64 d1] := hF 2 bb6_2
 have m6_3 : NI V6 (ms 3) (ds c0 c1 d0 d1) := hF 3 bb6_3
 have m6_4 : ms 4 = .agg #[x3_36, y3_36] := hF 4 bb6_4
 have m6_5 : ms 5 = .agg #[x3_39, y3_39] := hF 5 bb6_5
 have m6_6 : NI V6 (ms 6) ((a0 - d0) * (b1 - d1)) := hF 6 bb6_6
 have m6_7 : ms 7 = .agg #[x3_37, y3_37] := hF 7 bb6_7
 have m6_8 : ms 8 = .agg #[x3_38, y3_38] := hF 8 bb6_8
 have m6_9 : NI V6 (ms 9) ((a1 - d1) * (b0 - d0)) := hF 9 bb6_9
 have m6_10 : NI V6 (ms 10) (((a0 - d0) * (b1 - d1)) - ((a1 - d1) * (b0 - d0))) := hF 10 bb6_10
 have m6_11 : NI V6 (ms 11) ((ds c0 c1 d0 d1) * (((a0 - d0) * (b1 - d1)) - ((a1 - d1) * (b0 - d0)))) := hF 11 bb6_11
 have m6_12 : NI V6 (ms 12) ((((ds a0 a1 d0 d1) * (((b0 - d0) * (c1 - d1)) - ((b1 - d1) * (c0 - d0)))) - ((ds b0 b1 d0 d1) * (((a0 - d0) * (c1 - d1)) - ((a1 - d1) * (c0 - d0))))) + ((ds c0 c1 d0 d1) * (((a0 - d0) * (b1 - d1)) - ((a1 - d1) * (b0 - d0))))) := hF 12 bb6_12
 obtain ⟨_, x6_13, y6_13, h6_13, m6_13⟩ := hF 13 bb6_13
 subst ha
 simp only [ent, List.map_cons, List.map_nil, putSel, bb6_0, bb6_1, bb6_2, bb6_3, bb6_4, bb6_5, bb6_6, bb6_7, bb6_8, bb6_9, bb6_10, bb6_11, bb6_12, m6_0, m6_1, m6_2, m6_4, m6_5, m6_7, m6_8, if_true, Act.put, List.setIfInBounds_toArray, List.set_cons_zero, List.set_cons_succ]
 clear hF hD bb6_0 bb6_1 bb6_2 bb6_3 bb6_4 bb6_5 bb6_6 bb6_7 bb6_8 bb6_9 bb6_10 bb6_11 bb6_12 bb6_13
 obtain ⟨A, l, c, ev, _⟩ := m6_13.out
 injection ev with ev
 obtain ⟨rfl, rfl⟩ : x6_13 = .int .i64 ((((ds a0 a1 d0 d1) * (((b0 - d0) * (c1 - d1)) - ((b1 - d1) * (c0 - d0)))) - ((ds b0 b1 d0 d1) * (((a0 - d0) * (c1 - d1)) - ((a1 - d1) * (c0 - d0))))) + ((ds c0 c1 d0 d1) * (((a0 - d0) * (b1 - d1)) - ((a1 - d1) * (b0 - d0))))).sign ∧ y6_13 = .slice A l c := by
  injection ev with ev
  injection ev with e1 ev
  injection ev with e2 ev
  exact ⟨e1, e2⟩
 have hz : V6.cell? ⟨g4_11, 0, none⟩ = some (.int .i64 ((((ds a0 a1 d0 d1) * (((b0 - d0) * (c1 - d1)) - ((b1 - d1) * (c0 - d0)))) - ((ds b0 b1 d0 d1) * (((a0 - d0) * (c1 - d1)) - ((a1 - d1) * (c0 - d0))))) + ((ds c0 c1 d0 d1) * (((a0 - d0) * (b1 - d1)) - ((a1 - d1) * (b0 - d0))))).sign) := (blk_cell h6_13 0).trans rfl
 rw [dt_ref, hq.out] at hz
 go_wp2
 go_ret
 exact ⟨rfl, HBl⟩
end Go.Proofs.Ytmeckkckjikjiaa.Rf
end
section
namespace Go.Proofs.Ytmeckkckjikjiaa.Rf
open Go Go.RowKit Go.Proofs.YtmeckkckjikjiaaW.PrintWords Go.Proofs.Ytmeckkckjikjiaa.F Go.Proofs.Ytmeckkckjikjiaa.Wd Go.Proofs.Ytmeckkckjikjiaa.Pm Go.Proofs.Ytmeckkckjikjiaa.Pd
set_option linter.unusedVariables false
theorem sign_p (n : Int) : zelligeref07_sign.f n = some n.sign := by
 unfold zelligeref07_sign.f
 rcases sign_cases n with ⟨h, e⟩ | ⟨h, e⟩ | ⟨h, e⟩
 ·rw [if_pos h, e]
 ·rw [if_neg (by omega), if_neg (by omega), e]
 ·rw [if_neg (by omega), if_pos h, e]
theorem near_p {a0 a1 b0 b1 : Int} (ha : CoP a0 a1) (hb : CoP b0 b1) : ∃ m, zelligeref07_near.f a0 a1 b0 b1 = some m ∧ (m = true → Am (b0 - a0) 8191 ∧ Am (b1 - a1) 8191) := by
 unfold CoP Co at *
 unfold zelligeref07_near.f
 rw [p64 (x := b0 - a0) (by omega), p64 (x := b1 - a1) (by omega)]
 by_cases h1 : b0 - a0 > -8192
 ·rw [if_pos h1]
  by_cases h2 : b0 - a0 < 8192
  ·rw [if_pos h2]
   by_cases h3 : b1 - a1 > -8192
   ·rw [if_pos h3]
    exact ⟨_, rfl, fun h => ⟨Am.of (by omega), Am.of (by have := of_decide_eq_true h; omega)⟩⟩
   ·rw [if_neg h3]; exact ⟨_, rfl, fun h => by cases h⟩
  ·rw [if_neg h2]; exact ⟨_, rfl, fun h => by cases h⟩
 ·rw [if_neg h1]; exact ⟨_, rfl, fun h => by cases h⟩
theorem am64 {n : Int} {B : Nat} (h : Am n B) (hB : B ≤ 9223372036854775807) : wrap64 n = n := p64 (by have := h.le; omega)
theorem am_neg {n m : Int} {B : Nat} (h : Am (n - m) B) : Am (m - n) B := by unfold Am at *; omega
theorem sq_am {x y : Int} (h : Am x 8191) (h' : Am y 8191) : Am (x * x) 67092481 ∧ Am (y * y) 67092481 ∧ Am (x * x + y * y) 134184962 := ⟨(Am.mul h h).mono (by omega), (Am.mul h' h').mono (by omega), ((Am.mul h h).add (Am.mul h' h')).mono (by omega)⟩
theorem cr_am {x y z t : Int} (h : Am x 8191) (h' : Am y 8191) (hz : Am z 8191) (ht : Am t 8191) : Am (x * t) 67092481 ∧ Am (y * z) 67092481 ∧ Am (x * t - y * z) 134184962 := ⟨(Am.mul h ht).mono (by omega), (Am.mul h' hz).mono (by omega), ((Am.mul h ht).sub (Am.mul h' hz)).mono (by omega)⟩
theorem flat_p {a0 a1 b0 b1 c0 c1 d0 d1 : Int} (ha : Am (d0 - a0) 8191 ∧ Am (d1 - a1) 8191) (hb : Am (d0 - b0) 8191 ∧ Am (d1 - b1) 8191) (hc : Am (d0 - c0) 8191 ∧ Am (d1 - c1) 8191) :
  zelligeref07_flat.f a0 a1 b0 b1 c0 c1 d0 d1 = some (dt a0 a1 b0 b1 c0 c1 d0 d1).sign := by
 have e : ((a0 - d0) * (a0 - d0) + (a1 - d1) * (a1 - d1)) * ((b0 - d0) * (c1 - d1) - (b1 - d1) * (c0 - d0)) - ((b0 - d0) * (b0 - d0) + (b1 - d1) * (b1 - d1)) * ((a0 - d0) * (c1 - d1) - (a1 - d1) * (c0 - d0)) + ((c0 - d0) * (c0 - d0) + (c1 - d1) * (c1 - d1)) * ((a0 - d0) * (b1 - d1) - (a1 - d1) * (b0 - d0)) = dt a0 a1 b0 b1 c0 c1 d0 d1 := by unfold dt; grind
 have x0 := am_neg ha.1; have x1 := am_neg ha.2; have y0 := am_neg hb.1; have y1 := am_neg hb.2; have z0 := am_neg hc.1; have z1 := am_neg hc.2
 unfold zelligeref07_flat.f
 rw [← e, am64 x0 (by omega), am64 x1 (by omega), am64 y0 (by omega), am64 y1 (by omega), am64 z0 (by omega), am64 z1 (by omega)]
 generalize a0 - d0 = ax at *; generalize a1 - d1 = ay at *; generalize b0 - d0 = bx at *; generalize b1 - d1 = by' at *; generalize c0 - d0 = cx at *; generalize c1 - d1 = cy at *
 have A := sq_am x0 x1; have B := sq_am y0 y1; have C := sq_am z0 z1
 have P := cr_am y0 y1 z0 z1; have Q := cr_am x0 x1 z0 z1; have R := cr_am x0 x1 y0 y1
 have U := Am.mul A.2.2 P.2.2; have V := Am.mul B.2.2 Q.2.2; have W := Am.mul C.2.2 R.2.2
 rw [am64 A.1 (by omega), am64 A.2.1 (by omega), am64 A.2.2 (by omega), am64 B.1 (by omega), am64 B.2.1 (by omega), am64 B.2.2 (by omega), am64 C.1 (by omega), am64 C.2.1 (by omega), am64 C.2.2 (by omega),
  am64 P.1 (by omega), am64 P.2.1 (by omega), am64 P.2.2 (by omega), am64 Q.1 (by omega), am64 Q.2.1 (by omega), am64 Q.2.2 (by omega), am64 R.1 (by omega), am64 R.2.1 (by omega), am64 R.2.2 (by omega),
  am64 U (by omega), am64 V (by omega), am64 W (by omega), am64 (U.sub V) (by omega), am64 ((U.sub V).add W) (by omega), sign_p]
 rfl
end Go.Proofs.Ytmeckkckjikjiaa.Rf
end
section
namespace Go.Proofs.Ytmeckkckjikjiaa.F
open Go Go.RowKit Go.Proofs.YtmeckkckjikjiaaW.PrintWords Go.Proofs.Ytmeckkckjikjiaa.Pm Go.Proofs.Ytmeckkckjikjiaa.Pd Go.Proofs.Ytmeckkckjikjiaa.Rf
def zelligeref07_InCircle.f (a0_0 a0_1 a1_0 a1_1 a2_0 a2_1 a3_0 a3_1 : Int) : Option Int := if CoP a0_0 a0_1 ∧ CoP a1_0 a1_1 ∧ CoP a2_0 a2_1 ∧ CoP a3_0 a3_1 then some (dt a0_0 a0_1 a1_0 a1_1 a2_0 a2_1 a3_0 a3_1).sign else none
theorem zelligeref07_InCircle.calls (a0_0 a0_1 a1_0 a1_1 a2_0 a2_1 a3_0 a3_1 : Int) (r : Int) (w : World) (h : zelligeref07_InCircle.f a0_0 a0_1 a1_0 a1_1 a2_0 a2_1 a3_0 a3_1 = some r) :
  Calls Try.prog 11 #[.agg #[.int .i64 a0_0, .int .i64 a0_1], .agg #[.int .i64 a1_0, .int .i64 a1_1], .agg #[.int .i64 a2_0, .int .i64 a2_1], .agg #[.int .i64 a3_0, .int .i64 a3_1]] w fun e w' => e = .returned (.int .i64 r) ∧ Below w.heap.size w w' := by
 unfold zelligeref07_InCircle.f at h
 by_cases hh : CoP a0_0 a0_1 ∧ CoP a1_0 a1_1 ∧ CoP a2_0 a2_1 ∧ CoP a3_0 a3_1
 ·rw [if_pos hh] at h
  obtain rfl := Option.some.inj h
  obtain ⟨ha, hb, hc, hd⟩ := hh
  obtain ⟨m1, e1, g1⟩ := near_p ha hd
  obtain ⟨m2, e2, g2⟩ := near_p hb hd
  obtain ⟨m3, e3, g3⟩ := near_p hc hd
  by_cases hm : m1 = true ∧ m2 = true ∧ m3 = true
  ·obtain ⟨rfl, rfl, rfl⟩ := hm
   exact incircle_near ha hb hc hd ⟨e1⟩ ⟨e2⟩ ⟨e3⟩ _ ⟨flat_p (g1 rfl) (g2 rfl) (g3 rfl)⟩ w
  ·exact incircle_walk ha hb hc hd m1 m2 m3 (fun x y z => hm ⟨x, y, z⟩) ⟨e1⟩ ⟨e2⟩ ⟨e3⟩ _ ⟨rfl⟩ w
 ·rw [if_neg hh] at h
  cases h
end Go.Proofs.Ytmeckkckjikjiaa.F
end
section
namespace Go.Proofs.Ytmeckkckjikjiaa.F
open Go.RowKit Go.Proofs.YtmeckkckjikjiaaW.PrintWords Go.Proofs.YtmeckkckjikjiaaW.PrintLast Go.Proofs.YtmeckkckjikjiaaW.PrintMore
attribute [local go_sem] max2_int min2_int max_two min_two max_three min_three max_four min_four
set_option linter.unusedVariables false
set_option linter.unusedSimpArgs false
def zelligelaw07_PredCircles.j0 : Nat → Int → Bool → Int → Int → Int → Int → Int → Int → Int → Int → Option (Bool)
 | 0, _, _, _, _, _, _, _, _, _, _ => none
 | k + 1, x8, x37, x449000, x449001, x450000, x450001, x451000, x451001, x452000, x452001 => if x37 = true then (if x8 = 0 then ((zelligelaw07_lives.f k).bind fun t457 => (some t457)) else (some false)) else ((zelligeref07_InCircle.f x450000 x450001 x451000 x451001 x452000 x452001 x449000 x449001).bind fun t458 => (if x8 = t458 then ((zelligelaw07_lives.f k).bind fun t459 => (some t459)) else (some false)))
def zelligelaw07_PredCircles.f (k : Nat) (a0_0 : Int) (a0_1 : Int) (a0_2 : Int) (a0_3 : Int) (a0_4 : Int) (a0_5 : Int) (a1_0 : Int) (a1_1 : Int) : Option (Bool) := (pred_InCircle.f k a0_0 a0_1 a0_2 a0_3 a0_4 a0_5 a1_0 a1_1).bind fun t452 => ((zelligeref06_Can.f a0_0 a0_1).bind fun t453 => (if t453 = true then ((zelligeref06_Can.f a0_2 a0_3).bind fun t454 => (if t454 = true then ((zelligeref06_Can.f a0_4 a0_5).bind fun t455 => (if t455 = true then ((zelligeref06_Can.f a1_0 a1_1).bind fun t456 => (zelligelaw07_PredCircles.j0 k t452 (!t456) a1_0 a1_1 a0_0 a0_1 a0_2 a0_3 a0_4 a0_5)) else (zelligelaw07_PredCircles.j0 k t452 true a1_0 a1_1 a0_0 a0_1 a0_2 a0_3 a0_4 a0_5))) else (zelligelaw07_PredCircles.j0 k t452 true a1_0 a1_1 a0_0 a0_1 a0_2 a0_3 a0_4 a0_5))) else (zelligelaw07_PredCircles.j0 k t452 true a1_0 a1_1 a0_0 a0_1 a0_2 a0_3 a0_4 a0_5)))
theorem zelligelaw07_PredCircles.mono_l : ∀ k, (∀ y0 y1 y2 y3 y4 y5 y6 y7 y8 y9, LeO (zelligelaw07_PredCircles.j0 k y0 y1 y2 y3 y4 y5 y6 y7 y8 y9) (zelligelaw07_PredCircles.j0 (k + 1) y0 y1 y2 y3 y4 y5 y6 y7 y8 y9))
 | 0 => fun _ _ _ _ _ _ _ _ _ _ r h => by simp [zelligelaw07_PredCircles.j0] at h
 | k + 1 => by
  have ih0 := zelligelaw07_PredCircles.mono_l k
  ·intro y0 y1 y2 y3 y4 y5 y6 y7 y8 y9
   unfold zelligelaw07_PredCircles.j0
   repeat' first
   | (with_reducible exact ih0 _ _ _ _ _ _ _ _ _ _)
   | (with_reducible exact pred_InCircle.mono _ _ _ _ _ _ _ _ _)
   | (with_reducible exact zelligelaw07_lives.mono _)
   | (with_reducible exact LeO.refl _)
   | (with_reducible exact LeO.none _)
   | (with_reducible refine LeO.ite ?_ ?_)
   | (with_reducible refine LeO.bind ?_ (fun _ => ?_))
   | exact ih0 _ _ _ _ _ _ _ _ _ _
   | exact pred_InCircle.mono _ _ _ _ _ _ _ _ _
   | exact zelligelaw07_lives.mono _
   | exact LeO.none _
   | refine LeO.ite ?_ ?_
   | refine LeO.bind ?_ (fun _ => ?_)
theorem zelligelaw07_PredCircles.mono : ∀ a0 a1 a2 a3 a4 a5 a6 a7 k, LeO (zelligelaw07_PredCircles.f k a0 a1 a2 a3 a4 a5 a6 a7) (zelligelaw07_PredCircles.f (k + 1) a0 a1 a2 a3 a4 a5 a6 a7) := by
 intro a0 a1 a2 a3 a4 a5 a6 a7 k
 have ih0 := zelligelaw07_PredCircles.mono_l k
 unfold zelligelaw07_PredCircles.f
 repeat' first
   | (with_reducible exact ih0 _ _ _ _ _ _ _ _ _ _)
   | (with_reducible exact pred_InCircle.mono _ _ _ _ _ _ _ _ _)
   | (with_reducible exact zelligelaw07_lives.mono _)
   | (with_reducible exact LeO.refl _)
   | (with_reducible exact LeO.none _)
   | (with_reducible refine LeO.ite ?_ ?_)
   | (with_reducible refine LeO.bind ?_ (fun _ => ?_))
   | exact ih0 _ _ _ _ _ _ _ _ _ _
   | exact pred_InCircle.mono _ _ _ _ _ _ _ _ _
   | exact zelligelaw07_lives.mono _
   | exact LeO.none _
   | refine LeO.ite ?_ ?_
   | refine LeO.bind ?_ (fun _ => ?_)
def zelligelaw07_PredCircles.T1 : Bool × List (List Nat × List Nat) := (true, [([], []), ([0], [0]), ([], []), ([2], [2]), ([], []), ([4], [4]), ([], []), ([], []), ([], []), ([6, 1, 0, 1, 6, 7, 8], [1, 6]), ([7, 3, 9, 0, 1, 2, 3, 6, 7, 8, 9], [3, 7]), ([8, 5, 10, 0, 1, 2, 3, 4, 5, 6, 7, 8, 9, 10], [5, 8])])
def zelligelaw07_PredCircles.B1 : List Nat := [0, 1, 0, 4, 0, 16, 0, 0, 0, 451, 975, 2047]
theorem zelligelaw07_PredCircles.tab1 : rtab .any (opsOf Try.f3 1) = zelligelaw07_PredCircles.T1 := by kernel_rfl
theorem zelligelaw07_PredCircles.bits1 : waitsOk zelligelaw07_PredCircles.T1.2 zelligelaw07_PredCircles.B1 = true := by kernel_rfl
set_option maxHeartbeats 8000000 in
set_option maxRecDepth 100000 in
theorem zelligelaw07_PredCircles.calls (k : Nat) (a0_0 : Int) (a0_1 : Int) (a0_2 : Int) (a0_3 : Int) (a0_4 : Int) (a0_5 : Int) (a1_0 : Int) (a1_1 : Int) (w : World) (h : zelligelaw07_PredCircles.f k a0_0 a0_1 a0_2 a0_3 a0_4 a0_5 a1_0 a1_1 = some true) :
  Calls Try.prog 3 #[.agg #[.int .i64 a0_0, .int .i64 a0_1, .int .i64 a0_2, .int .i64 a0_3, .int .i64 a0_4, .int .i64 a0_5], .agg #[.int .i64 a1_0, .int .i64 a1_1]] w fun e w' => e = .returned (.bool true) ∧ Below w.heap.size w w' := by
 have hu24 := Try.underlying24
 have hu23 := Try.underlying23
 have HB := Aside0.mk (Below.refl w.heap.size w)
 have H : ((pred_InCircle.f k a0_0 a0_1 a0_2 a0_3 a0_4 a0_5 a1_0 a1_1).bind fun t452 => ((zelligeref06_Can.f a0_0 a0_1).bind fun t453 => (if t453 = true then ((zelligeref06_Can.f a0_2 a0_3).bind fun t454 => (if t454 = true then ((zelligeref06_Can.f a0_4 a0_5).bind fun t455 => (if t455 = true then ((zelligeref06_Can.f a1_0 a1_1).bind fun t456 => (zelligelaw07_PredCircles.j0 k t452 (!t456) a1_0 a1_1 a0_0 a0_1 a0_2 a0_3 a0_4 a0_5)) else (zelligelaw07_PredCircles.j0 k t452 true a1_0 a1_1 a0_0 a0_1 a0_2 a0_3 a0_4 a0_5))) else (zelligelaw07_PredCircles.j0 k t452 true a1_0 a1_1 a0_0 a0_1 a0_2 a0_3 a0_4 a0_5))) else (zelligelaw07_PredCircles.j0 k t452 true a1_0 a1_1 a0_0 a0_1 a0_2 a0_3 a0_4 a0_5)))) = some true := h
 clear h
 replace H := Option.bind_eq_some_iff.mp H
 obtain ⟨t452, A30, H⟩ := H
 replace H : ((zelligeref06_Can.f a0_0 a0_1).bind fun t453 => (if t453 = true then ((zelligeref06_Can.f a0_2 a0_3).bind fun t454 => (if t454 = true then ((zelligeref06_Can.f a0_4 a0_5).bind fun t455 => (if t455 = true then ((zelligeref06_Can.f a1_0 a1_1).bind fun t456 => (zelligelaw07_PredCircles.j0 k t452 (!t456) a1_0 a1_1 a0_0 a0_1 a0_2 a0_3 a0_4 a0_5)) else (zelligelaw07_PredCircles.j0 k t452 true a1_0 a1_1 a0_0 a0_1 a0_2 a0_3 a0_4 a0_5))) else (zelligelaw07_PredCircles.j0 k t452 true a1_0 a1_1 a0_0 a0_1 a0_2 a0_3 a0_4 a0_5))) else (zelligelaw07_PredCircles.j0 k t452 true a1_0 a1_1 a0_0 a0_1 a0_2 a0_3 a0_4 a0_5))) = some true := H
 have A3 := Aside0.mk A30
 clear A30
 have HC4 := Aside0.mk H
 clear H
 go_enter Try.func3, Try.ntmps3
 try go_wp2_with (first | ((with_reducible refine gate_dst (N := 2) rfl ?_); refine box_event ?hg (N := 2) ?hd (cs := #[.int .i64 a0_0, .int .i64 a0_1, .int .i64 a0_2, .int .i64 a0_3, .int .i64 a0_4, .int .i64 a0_5]) (t := 24) ?hr ?_; (case hd => rfl); (case hg => rfl); (case hr => first | (go_simp; done) | (go_simp; rfl)); intro gb447 hg w5 hbox hb; have BK447 := Aside0.mk hbox; have GW447 := u3 hg HB; have GE447 := u3 hg HB; replace HB := u2 HB hb; clear hb hbox hg) | ((with_reducible refine gate_dst (N := 3) rfl ?_); refine box_event ?hg (N := 3) ?hd (cs := #[.int .i64 a1_0, .int .i64 a1_1]) (t := 23) ?hr ?_; (case hd => rfl); (case hg => rfl); (case hr => first | (go_simp; done) | (go_simp; rfl)); intro gb448 hg w6 hbox hb; have BK448 := Aside0.mk hbox; have GW448 := u3 hg HB; have GE448 := u3 hg HB; have NB447_448 := u4 hg BK447; have NB448_447 := u5 hg BK447; replace BK447 := u1 BK447 hb; replace HB := u2 HB hb; clear hb hbox hg))
 have n0_ := Aside0.mk (blk_drew BK447.out)
 have n1_ := Aside0.mk (blk_drew BK448.out)
 have n2_ := Aside0.mk (below_drew1 HB.out)
 clear BK447
 clear BK448
 clear HB
 have BK447 := n0_
 have BK448 := n1_
 have HB := n2_
 clear n0_ n1_ n2_
 refine start_ (n := 12) (S := fun w' => True) (ds := []) #[false, false, false, false, false, false, false, false, false, false, false, false] (by kernel_rfl) rfl rfl trivial (fun hHeld => ?_); refine with_tabW zelligelaw07_PredCircles.tab1 zelligelaw07_PredCircles.bits1 (fun HT_ HW_ => ?_)
 generalize w6.drew = w7 at BK447 BK448 HB hHeld ⊢
 refine pure_ (i := 0) (N := some 9) (v := ?_) (a' := ?_) #[true, false, false, false, false, false, false, false, false, false, false, false] rfl rfl (any_of HT_.out (by kernel_rfl)) (fun _ _ _ h => h) (Or.inl ⟨by rfl, ?_⟩) ?_ ?_
 rotate_left
 ·intro w'
  go_simp
  with_reducible rfl
 rotate_left
 ·simp only [Act.put, List.setIfInBounds_toArray, List.set_cons_zero, List.set_cons_succ, i64_w, i32_w]
  rfl
 refine pure_ (i := 2) (N := some 11) (v := ?_) (a' := ?_) #[true, false, true, false, false, false, false, false, false, false, false, false] rfl rfl (any_of HT_.out (by kernel_rfl)) (fun _ _ _ h => h) (Or.inl ⟨by rfl, ?_⟩) ?_ ?_
 rotate_left
 ·intro w'
  go_simp
  with_reducible rfl
 rotate_left
 ·simp only [Act.put, List.setIfInBounds_toArray, List.set_cons_zero, List.set_cons_succ, i64_w, i32_w]
  rfl
 refine pure_ (i := 4) (N := some 13) (v := ?_) (a' := ?_) #[true, false, true, false, true, false, false, false, false, false, false, false] rfl rfl (any_of HT_.out (by kernel_rfl)) (fun _ _ _ h => h) (Or.inl ⟨by rfl, ?_⟩) ?_ ?_
 rotate_left
 ·intro w'
  go_simp
  with_reducible rfl
 rotate_left
 ·simp only [Act.put, List.setIfInBounds_toArray, List.set_cons_zero, List.set_cons_succ, i64_w, i32_w]
  rfl
 refine inv_at [1, 3, 5, 6, 7, 8, 9, 10, 11] (fun a0_ b a w' => ∃ (gb449 : Nat) (gb450 : Nat) (gb451 : Nat) (m6_ : Value) (m7_ : Value) (m8_ : Value), a = putSel a0_ b [(1, 10, .agg #[.int .i64 a0_0, .int .i64 a0_1]), (3, 12, .agg #[.int .i64 a0_2, .int .i64 a0_3]), (5, 14, .agg #[.int .i64 a0_4, .int .i64 a0_5]), (6, 5, m6_), (7, 6, m7_), (8, 7, m8_)] ∧ (w'.heap[gb447]? = some (.cells #[.int .i64 a0_0, .int .i64 a0_1, .int .i64 a0_2, .int .i64 a0_3, .int .i64 a0_4, .int .i64 a0_5] 24 (0, 0))) ∧ (w'.heap[gb448]? = some (.cells #[.int .i64 a1_0, .int .i64 a1_1] 23 (0, 0))) ∧ (Below w.heap.size w w') ∧ (b 6 = true → b 7 = true → gb450 ≠ gb449) ∧ (b 6 = true → b 7 = true → gb449 ≠ gb450) ∧ (b 6 = true → b 8 = true → gb451 ≠ gb449) ∧ (b 6 = true → b 8 = true → gb449 ≠ gb451) ∧ (b 7 = true → b 8 = true → gb451 ≠ gb450) ∧ (b 7 = true → b 8 = true → gb450 ≠ gb451) ∧ (b 6 = true → b 9 = false → w'.heap[gb449]? = some (.cells #[.int .i64 0, .int .i64 0] 23 (0, 0))) ∧ (b 6 = true → w.heap.size ≤ gb449) ∧ (b 6 = true → w.heap.size ≤ gb449) ∧ (b 6 = true → gb447 ≠ gb449) ∧ (b 6 = true → gb449 ≠ gb447) ∧ (b 6 = true → gb448 ≠ gb449) ∧ (b 6 = true → gb449 ≠ gb448) ∧ (b 7 = true → b 10 = false → w'.heap[gb450]? = some (.cells #[.int .i64 0, .int .i64 0] 23 (0, 0))) ∧ (b 7 = true → w.heap.size ≤ gb450) ∧ (b 7 = true → w.heap.size ≤ gb450) ∧ (b 7 = true → gb447 ≠ gb450) ∧ (b 7 = true → gb450 ≠ gb447) ∧ (b 7 = true → gb448 ≠ gb450) ∧ (b 7 = true → gb450 ≠ gb448) ∧ (b 8 = true → b 11 = false → w'.heap[gb451]? = some (.cells #[.int .i64 0, .int .i64 0] 23 (0, 0))) ∧ (b 8 = true → w.heap.size ≤ gb451) ∧ (b 8 = true → w.heap.size ≤ gb451) ∧ (b 8 = true → gb447 ≠ gb451) ∧ (b 8 = true → gb451 ≠ gb447) ∧ (b 8 = true → gb448 ≠ gb451) ∧ (b 8 = true → gb451 ≠ gb448) ∧ (b 9 = true → w'.heap[gb449]? = some (.cells #[.int .i64 a0_0, .int .i64 a0_1] 23 (0, 0))) ∧ (b 10 = true → w'.heap[gb450]? = some (.cells #[.int .i64 a0_2, .int .i64 a0_3] 23 (0, 0))) ∧ (b 11 = true → w'.heap[gb451]? = some (.cells #[.int .i64 a0_4, .int .i64 a0_5] 23 (0, 0))) ∧ (b 6 = true → (m6_ : Value) = .pointer (some ⟨gb449, 0, none⟩)) ∧ (b 7 = true → (m7_ : Value) = .pointer (some ⟨gb450, 0, none⟩)) ∧ (b 8 = true → (m8_ : Value) = .pointer (some ⟨gb451, 0, none⟩))) HT_.out HW_.out (by kernel_rfl) (by kernel_rfl) ?_ ?_ ?_
 ·exact ⟨0, 0, 0, .bool false, .bool false, .bool false, by simp only [putSel, Bool.false_eq_true, if_false], BK447.out, BK448.out, HB.out, fun h_ => absurd h_ (by decide), fun h_ => absurd h_ (by decide), fun h_ => absurd h_ (by decide), fun h_ => absurd h_ (by decide), fun h_ => absurd h_ (by decide), fun h_ => absurd h_ (by decide), fun h_ => absurd h_ (by decide), fun h_ => absurd h_ (by decide), fun h_ => absurd h_ (by decide), fun h_ => absurd h_ (by decide), fun h_ => absurd h_ (by decide), fun h_ => absurd h_ (by decide), fun h_ => absurd h_ (by decide), fun h_ => absurd h_ (by decide), fun h_ => absurd h_ (by decide), fun h_ => absurd h_ (by decide), fun h_ => absurd h_ (by decide), fun h_ => absurd h_ (by decide), fun h_ => absurd h_ (by decide), fun h_ => absurd h_ (by decide), fun h_ => absurd h_ (by decide), fun h_ => absurd h_ (by decide), fun h_ => absurd h_ (by decide), fun h_ => absurd h_ (by decide), fun h_ => absurd h_ (by decide), fun h_ => absurd h_ (by decide), fun h_ => absurd h_ (by decide), fun h_ => absurd h_ (by decide), fun h_ => absurd h_ (by decide), fun h_ => absurd h_ (by decide), fun h_ => absurd h_ (by decide), fun h_ => absurd h_ (by decide), fun h_ => absurd h_ (by decide)⟩
 ·skip
  clear BK447 BK448 HB
  refine steps_cons ?_ ?_
  ·rintro b a w' ⟨gb449, gb450, gb451, m6_, m7_, m8_, ha, Q_BK447, Q_BK448, Q_HB, Q_NB450_449, Q_NB449_450, Q_NB451_449, Q_NB449_451, Q_NB451_450, Q_NB450_451, Q_BK449, Q_GW449, Q_GE449, Q_NB447_449, Q_NB449_447, Q_NB448_449, Q_NB449_448, Q_BK450, Q_GW450, Q_GE450, Q_NB447_450, Q_NB450_447, Q_NB448_450, Q_NB450_448, Q_BK451, Q_GW451, Q_GE451, Q_NB447_451, Q_NB451_447, Q_NB448_451, Q_NB451_448, Q_BK449_e9, Q_BK450_e10, Q_BK451_e11, Q_X6_, Q_X7_, Q_X8_⟩ hb_ hon hoff
   refine ⟨_, rfl, fun K hK => ?_⟩
   have e9 : a.tmps[9]? = some (.pointer (some ⟨gb447, 0, none⟩)) := by rw [ha]; exact (putSel_off rfl).trans rfl
   replace ha := Aside0.mk ha
   have BK447 := Aside0.mk Q_BK447
   have BK448 := Aside0.mk Q_BK448
   have HB := Aside0.mk Q_HB
   have hc0_ : w'.cell? ⟨gb447, 0, none⟩ = some (.int .i64 a0_0) := (blk_cell BK447.out 0).trans rfl
   have hc1_ : w'.cell? ⟨gb447, 1, none⟩ = some (.int .i64 a0_1) := (blk_cell BK447.out 1).trans rfl
   have hc2_ : w'.cell? ⟨gb447, 2, none⟩ = some (.int .i64 a0_2) := (blk_cell BK447.out 2).trans rfl
   have hc3_ : w'.cell? ⟨gb447, 3, none⟩ = some (.int .i64 a0_3) := (blk_cell BK447.out 3).trans rfl
   have hc4_ : w'.cell? ⟨gb447, 4, none⟩ = some (.int .i64 a0_4) := (blk_cell BK447.out 4).trans rfl
   have hc5_ : w'.cell? ⟨gb447, 5, none⟩ = some (.int .i64 a0_5) := (blk_cell BK447.out 5).trans rfl
   refine value_ (w1 := w') (v := .agg #[.int .i64 a0_0, .int .i64 a0_1]) (by rfl) rfl ?_ ?_
   ·go_simp
    (try simp only [i64_w])
    try rfl
   refine hK.out _ _ ⟨gb449, gb450, gb451, m6_, m7_, m8_, (by rw [ha.out]; exact putSel_upk 0 hb_ rfl rfl rfl), Q_BK447, Q_BK448, Q_HB, Q_NB450_449, Q_NB449_450, Q_NB451_449, Q_NB449_451, Q_NB451_450, Q_NB450_451, Q_BK449, Q_GW449, Q_GE449, Q_NB447_449, Q_NB449_447, Q_NB448_449, Q_NB449_448, Q_BK450, Q_GW450, Q_GE450, Q_NB447_450, Q_NB450_447, Q_NB448_450, Q_NB450_448, Q_BK451, Q_GW451, Q_GE451, Q_NB447_451, Q_NB451_447, Q_NB448_451, Q_NB451_448, fun h0_ => absurd ((hoff 9 (by kernel_rfl)).symm.trans h0_) (by decide), fun h0_ => absurd ((hoff 10 (by kernel_rfl)).symm.trans h0_) (by decide), fun h0_ => absurd ((hoff 11 (by kernel_rfl)).symm.trans h0_) (by decide), Q_X6_, Q_X7_, Q_X8_⟩
  refine steps_cons ?_ ?_
  ·rintro b a w' ⟨gb449, gb450, gb451, m6_, m7_, m8_, ha, Q_BK447, Q_BK448, Q_HB, Q_NB450_449, Q_NB449_450, Q_NB451_449, Q_NB449_451, Q_NB451_450, Q_NB450_451, Q_BK449, Q_GW449, Q_GE449, Q_NB447_449, Q_NB449_447, Q_NB448_449, Q_NB449_448, Q_BK450, Q_GW450, Q_GE450, Q_NB447_450, Q_NB450_447, Q_NB448_450, Q_NB450_448, Q_BK451, Q_GW451, Q_GE451, Q_NB447_451, Q_NB451_447, Q_NB448_451, Q_NB451_448, Q_BK449_e9, Q_BK450_e10, Q_BK451_e11, Q_X6_, Q_X7_, Q_X8_⟩ hb_ hon hoff
   refine ⟨_, rfl, fun K hK => ?_⟩
   have e11 : a.tmps[11]? = some (.pointer (some ⟨gb447, 2, none⟩)) := by rw [ha]; exact (putSel_off rfl).trans rfl
   replace ha := Aside0.mk ha
   have BK447 := Aside0.mk Q_BK447
   have BK448 := Aside0.mk Q_BK448
   have HB := Aside0.mk Q_HB
   have hc0_ : w'.cell? ⟨gb447, 0, none⟩ = some (.int .i64 a0_0) := (blk_cell BK447.out 0).trans rfl
   have hc1_ : w'.cell? ⟨gb447, 1, none⟩ = some (.int .i64 a0_1) := (blk_cell BK447.out 1).trans rfl
   have hc2_ : w'.cell? ⟨gb447, 2, none⟩ = some (.int .i64 a0_2) := (blk_cell BK447.out 2).trans rfl
   have hc3_ : w'.cell? ⟨gb447, 3, none⟩ = some (.int .i64 a0_3) := (blk_cell BK447.out 3).trans rfl
   have hc4_ : w'.cell? ⟨gb447, 4, none⟩ = some (.int .i64 a0_4) := (blk_cell BK447.out 4).trans rfl
   have hc5_ : w'.cell? ⟨gb447, 5, none⟩ = some (.int .i64 a0_5) := (blk_cell BK447.out 5).trans rfl
   refine value_ (w1 := w') (v := .agg #[.int .i64 a0_2, .int .i64 a0_3]) (by rfl) rfl ?_ ?_
   ·go_simp
    (try simp only [i64_w])
    try rfl
   refine hK.out _ _ ⟨gb449, gb450, gb451, m6_, m7_, m8_, (by rw [ha.out]; exact putSel_upk 1 hb_ rfl rfl rfl), Q_BK447, Q_BK448, Q_HB, Q_NB450_449, Q_NB449_450, Q_NB451_449, Q_NB449_451, Q_NB451_450, Q_NB450_451, Q_BK449, Q_GW449, Q_GE449, Q_NB447_449, Q_NB449_447, Q_NB448_449, Q_NB449_448, Q_BK450, Q_GW450, Q_GE450, Q_NB447_450, Q_NB450_447, Q_NB448_450, Q_NB450_448, Q_BK451, Q_GW451, Q_GE451, Q_NB447_451, Q_NB451_447, Q_NB448_451, Q_NB451_448, Q_BK449_e9, fun h0_ => absurd ((hoff 10 (by kernel_rfl)).symm.trans h0_) (by decide), fun h0_ => absurd ((hoff 11 (by kernel_rfl)).symm.trans h0_) (by decide), Q_X6_, Q_X7_, Q_X8_⟩
  refine steps_cons ?_ ?_
  ·rintro b a w' ⟨gb449, gb450, gb451, m6_, m7_, m8_, ha, Q_BK447, Q_BK448, Q_HB, Q_NB450_449, Q_NB449_450, Q_NB451_449, Q_NB449_451, Q_NB451_450, Q_NB450_451, Q_BK449, Q_GW449, Q_GE449, Q_NB447_449, Q_NB449_447, Q_NB448_449, Q_NB449_448, Q_BK450, Q_GW450, Q_GE450, Q_NB447_450, Q_NB450_447, Q_NB448_450, Q_NB450_448, Q_BK451, Q_GW451, Q_GE451, Q_NB447_451, Q_NB451_447, Q_NB448_451, Q_NB451_448, Q_BK449_e9, Q_BK450_e10, Q_BK451_e11, Q_X6_, Q_X7_, Q_X8_⟩ hb_ hon hoff
   refine ⟨_, rfl, fun K hK => ?_⟩
   have e13 : a.tmps[13]? = some (.pointer (some ⟨gb447, 4, none⟩)) := by rw [ha]; exact (putSel_off rfl).trans rfl
   replace ha := Aside0.mk ha
   have BK447 := Aside0.mk Q_BK447
   have BK448 := Aside0.mk Q_BK448
   have HB := Aside0.mk Q_HB
   have hc0_ : w'.cell? ⟨gb447, 0, none⟩ = some (.int .i64 a0_0) := (blk_cell BK447.out 0).trans rfl
   have hc1_ : w'.cell? ⟨gb447, 1, none⟩ = some (.int .i64 a0_1) := (blk_cell BK447.out 1).trans rfl
   have hc2_ : w'.cell? ⟨gb447, 2, none⟩ = some (.int .i64 a0_2) := (blk_cell BK447.out 2).trans rfl
   have hc3_ : w'.cell? ⟨gb447, 3, none⟩ = some (.int .i64 a0_3) := (blk_cell BK447.out 3).trans rfl
   have hc4_ : w'.cell? ⟨gb447, 4, none⟩ = some (.int .i64 a0_4) := (blk_cell BK447.out 4).trans rfl
   have hc5_ : w'.cell? ⟨gb447, 5, none⟩ = some (.int .i64 a0_5) := (blk_cell BK447.out 5).trans rfl
   refine value_ (w1 := w') (v := .agg #[.int .i64 a0_4, .int .i64 a0_5]) (by rfl) rfl ?_ ?_
   ·go_simp
    (try simp only [i64_w])
    try rfl
   refine hK.out _ _ ⟨gb449, gb450, gb451, m6_, m7_, m8_, (by rw [ha.out]; exact putSel_upk 2 hb_ rfl rfl rfl), Q_BK447, Q_BK448, Q_HB, Q_NB450_449, Q_NB449_450, Q_NB451_449, Q_NB449_451, Q_NB451_450, Q_NB450_451, Q_BK449, Q_GW449, Q_GE449, Q_NB447_449, Q_NB449_447, Q_NB448_449, Q_NB449_448, Q_BK450, Q_GW450, Q_GE450, Q_NB447_450, Q_NB450_447, Q_NB448_450, Q_NB450_448, Q_BK451, Q_GW451, Q_GE451, Q_NB447_451, Q_NB451_447, Q_NB448_451, Q_NB451_448, Q_BK449_e9, Q_BK450_e10, fun h0_ => absurd ((hoff 11 (by kernel_rfl)).symm.trans h0_) (by decide), Q_X6_, Q_X7_, Q_X8_⟩
  refine steps_cons ?_ ?_
  ·rintro b a w' ⟨gb449, gb450, gb451, m6_, m7_, m8_, ha, Q_BK447, Q_BK448, Q_HB, Q_NB450_449, Q_NB449_450, Q_NB451_449, Q_NB449_451, Q_NB451_450, Q_NB450_451, Q_BK449, Q_GW449, Q_GE449, Q_NB447_449, Q_NB449_447, Q_NB448_449, Q_NB449_448, Q_BK450, Q_GW450, Q_GE450, Q_NB447_450, Q_NB450_447, Q_NB448_450, Q_NB450_448, Q_BK451, Q_GW451, Q_GE451, Q_NB447_451, Q_NB451_447, Q_NB448_451, Q_NB451_448, Q_BK449_e9, Q_BK450_e10, Q_BK451_e11, Q_X6_, Q_X7_, Q_X8_⟩ hb_ hon hoff
   refine ⟨_, rfl, fun K hK => ?_⟩
   replace ha := Aside0.mk ha
   have BK447 := Aside0.mk Q_BK447
   have BK448 := Aside0.mk Q_BK448
   have HB := Aside0.mk Q_HB
   refine box_step ?hg (N := 5) ?hd (cs := #[.int .i64 0, .int .i64 0]) (t := 23) ?hr ?_; (case hd => rfl); (case hg => rfl); (case hr => first | (go_simp; done) | (go_simp; rfl))
   intro gb449 hg w8 hbox hb
   have n0_ := Aside0.mk (blk_below (bk BK447.out) hb)
   have n1_ := Aside0.mk (blk_below (bk BK448.out) hb)
   have n2_ := Aside0.mk (below_step (bw HB.out) hb)
   have n3_ := Aside0.mk (hbox)
   have n4_ := Aside0.mk ((by rw [hg]; exact (below_size (bw HB.out)) : w.heap.size ≤ gb449))
   have n5_ := Aside0.mk ((by rw [hg]; exact (below_size (bw HB.out)) : w.heap.size ≤ gb449))
   have n6_ := Aside0.mk ((by rw [hg]; exact Nat.ne_of_lt (blk_lt (bk BK447.out)) : gb447 ≠ gb449))
   have n7_ := Aside0.mk ((by rw [hg]; exact Nat.ne_of_gt (blk_lt (bk BK447.out)) : gb449 ≠ gb447))
   have n8_ := Aside0.mk ((by rw [hg]; exact Nat.ne_of_lt (blk_lt (bk BK448.out)) : gb448 ≠ gb449))
   have n9_ := Aside0.mk ((by rw [hg]; exact Nat.ne_of_gt (blk_lt (bk BK448.out)) : gb449 ≠ gb448))
   have z_NB450_449 := fun (h0_ : up b 6 6 = true) (h1_ : up b 6 7 = true) => (show gb450 ≠ gb449 from ((by rw [hg]; exact Nat.ne_of_lt (blk_lt (g := gb450) (o := .cells #[.int .i64 0, .int .i64 0] 23 (0, 0)) (by (with_reducible repeat (first | refine blk_drewN ?_ _ | refine blk_drew ?_ | refine blk_alloc ?_ _)); exact (Q_BK450 ((up_ne (by decide : 7 ≠ 6)).symm.trans h1_) (hoff 10 (by kernel_rfl))))) : gb450 ≠ gb449)))
   have z_NB449_450 := fun (h0_ : up b 6 6 = true) (h1_ : up b 6 7 = true) => (show gb449 ≠ gb450 from ((by rw [hg]; exact Nat.ne_of_gt (blk_lt (g := gb450) (o := .cells #[.int .i64 0, .int .i64 0] 23 (0, 0)) (by (with_reducible repeat (first | refine blk_drewN ?_ _ | refine blk_drew ?_ | refine blk_alloc ?_ _)); exact (Q_BK450 ((up_ne (by decide : 7 ≠ 6)).symm.trans h1_) (hoff 10 (by kernel_rfl))))) : gb449 ≠ gb450)))
   have z_NB451_449 := fun (h0_ : up b 6 6 = true) (h1_ : up b 6 8 = true) => (show gb451 ≠ gb449 from ((by rw [hg]; exact Nat.ne_of_lt (blk_lt (g := gb451) (o := .cells #[.int .i64 0, .int .i64 0] 23 (0, 0)) (by (with_reducible repeat (first | refine blk_drewN ?_ _ | refine blk_drew ?_ | refine blk_alloc ?_ _)); exact (Q_BK451 ((up_ne (by decide : 8 ≠ 6)).symm.trans h1_) (hoff 11 (by kernel_rfl))))) : gb451 ≠ gb449)))
   have z_NB449_451 := fun (h0_ : up b 6 6 = true) (h1_ : up b 6 8 = true) => (show gb449 ≠ gb451 from ((by rw [hg]; exact Nat.ne_of_gt (blk_lt (g := gb451) (o := .cells #[.int .i64 0, .int .i64 0] 23 (0, 0)) (by (with_reducible repeat (first | refine blk_drewN ?_ _ | refine blk_drew ?_ | refine blk_alloc ?_ _)); exact (Q_BK451 ((up_ne (by decide : 8 ≠ 6)).symm.trans h1_) (hoff 11 (by kernel_rfl))))) : gb449 ≠ gb451)))
   have z_BK450 := fun (h0_ : b 7 = true) (h1_ : b 10 = false) => (show w8.heap[gb450]? = some (.cells #[.int .i64 0, .int .i64 0] 23 (0, 0)) from by first | exact (blk_below (g := gb450) (o := .cells #[.int .i64 0, .int .i64 0] 23 (0, 0)) (bk (Q_BK450 h0_ h1_)) hb))
   have z_BK451 := fun (h0_ : b 8 = true) (h1_ : b 11 = false) => (show w8.heap[gb451]? = some (.cells #[.int .i64 0, .int .i64 0] 23 (0, 0)) from by first | exact (blk_below (g := gb451) (o := .cells #[.int .i64 0, .int .i64 0] 23 (0, 0)) (bk (Q_BK451 h0_ h1_)) hb))
   clear BK447
   clear BK448
   clear HB
   have BK447 := n0_
   have BK448 := n1_
   have HB := n2_
   have BK449 := n3_
   have GW449 := n4_
   have GE449 := n5_
   have NB447_449 := n6_
   have NB449_447 := n7_
   have NB448_449 := n8_
   have NB449_448 := n9_
   clear n0_ n1_ n2_ n3_ n4_ n5_ n6_ n7_ n8_ n9_
   clear hb hbox hg
   refine hK.out _ _ ⟨gb449, gb450, gb451, (.pointer (some ⟨gb449, 0, none⟩)), m7_, m8_, (by rw [ha.out]; exact putSel_upk 3 hb_ rfl rfl rfl), (bk BK447.out), (bk BK448.out), (bw HB.out), @z_NB450_449, @z_NB449_450, @z_NB451_449, @z_NB449_451, Q_NB451_450, Q_NB450_451, fun _ _ => (bk BK449.out), fun _ => GW449.out, fun _ => GE449.out, fun _ => NB447_449.out, fun _ => NB449_447.out, fun _ => NB448_449.out, fun _ => NB449_448.out, z_BK450, Q_GW450, Q_GE450, Q_NB447_450, Q_NB450_447, Q_NB448_450, Q_NB450_448, z_BK451, Q_GW451, Q_GE451, Q_NB447_451, Q_NB451_447, Q_NB448_451, Q_NB451_448, fun h0_ => absurd ((hoff 9 (by kernel_rfl)).symm.trans h0_) (by decide), fun h0_ => absurd ((hoff 10 (by kernel_rfl)).symm.trans h0_) (by decide), fun h0_ => absurd ((hoff 11 (by kernel_rfl)).symm.trans h0_) (by decide), fun _ => rfl, Q_X7_, Q_X8_⟩
  refine steps_cons ?_ ?_
  ·rintro b a w' ⟨gb449, gb450, gb451, m6_, m7_, m8_, ha, Q_BK447, Q_BK448, Q_HB, Q_NB450_449, Q_NB449_450, Q_NB451_449, Q_NB449_451, Q_NB451_450, Q_NB450_451, Q_BK449, Q_GW449, Q_GE449, Q_NB447_449, Q_NB449_447, Q_NB448_449, Q_NB449_448, Q_BK450, Q_GW450, Q_GE450, Q_NB447_450, Q_NB450_447, Q_NB448_450, Q_NB450_448, Q_BK451, Q_GW451, Q_GE451, Q_NB447_451, Q_NB451_447, Q_NB448_451, Q_NB451_448, Q_BK449_e9, Q_BK450_e10, Q_BK451_e11, Q_X6_, Q_X7_, Q_X8_⟩ hb_ hon hoff
   refine ⟨_, rfl, fun K hK => ?_⟩
   replace ha := Aside0.mk ha
   have BK447 := Aside0.mk Q_BK447
   have BK448 := Aside0.mk Q_BK448
   have HB := Aside0.mk Q_HB
   refine box_step ?hg (N := 6) ?hd (cs := #[.int .i64 0, .int .i64 0]) (t := 23) ?hr ?_; (case hd => rfl); (case hg => rfl); (case hr => first | (go_simp; done) | (go_simp; rfl))
   intro gb450 hg w8 hbox hb
   have n0_ := Aside0.mk (blk_below (bk BK447.out) hb)
   have n1_ := Aside0.mk (blk_below (bk BK448.out) hb)
   have n2_ := Aside0.mk (below_step (bw HB.out) hb)
   have n3_ := Aside0.mk (hbox)
   have n4_ := Aside0.mk ((by rw [hg]; exact (below_size (bw HB.out)) : w.heap.size ≤ gb450))
   have n5_ := Aside0.mk ((by rw [hg]; exact (below_size (bw HB.out)) : w.heap.size ≤ gb450))
   have n6_ := Aside0.mk ((by rw [hg]; exact Nat.ne_of_lt (blk_lt (bk BK447.out)) : gb447 ≠ gb450))
   have n7_ := Aside0.mk ((by rw [hg]; exact Nat.ne_of_gt (blk_lt (bk BK447.out)) : gb450 ≠ gb447))
   have n8_ := Aside0.mk ((by rw [hg]; exact Nat.ne_of_lt (blk_lt (bk BK448.out)) : gb448 ≠ gb450))
   have n9_ := Aside0.mk ((by rw [hg]; exact Nat.ne_of_gt (blk_lt (bk BK448.out)) : gb450 ≠ gb448))
   have z_NB450_449 := fun (h0_ : up b 7 6 = true) (h1_ : up b 7 7 = true) => (show gb450 ≠ gb449 from ((by rw [hg]; exact Nat.ne_of_gt (blk_lt (g := gb449) (o := .cells #[.int .i64 0, .int .i64 0] 23 (0, 0)) (by (with_reducible repeat (first | refine blk_drewN ?_ _ | refine blk_drew ?_ | refine blk_alloc ?_ _)); exact (Q_BK449 ((up_ne (by decide : 6 ≠ 7)).symm.trans h0_) (hoff 9 (by kernel_rfl))))) : gb450 ≠ gb449)))
   have z_NB449_450 := fun (h0_ : up b 7 6 = true) (h1_ : up b 7 7 = true) => (show gb449 ≠ gb450 from ((by rw [hg]; exact Nat.ne_of_lt (blk_lt (g := gb449) (o := .cells #[.int .i64 0, .int .i64 0] 23 (0, 0)) (by (with_reducible repeat (first | refine blk_drewN ?_ _ | refine blk_drew ?_ | refine blk_alloc ?_ _)); exact (Q_BK449 ((up_ne (by decide : 6 ≠ 7)).symm.trans h0_) (hoff 9 (by kernel_rfl))))) : gb449 ≠ gb450)))
   have z_NB451_450 := fun (h0_ : up b 7 7 = true) (h1_ : up b 7 8 = true) => (show gb451 ≠ gb450 from ((by rw [hg]; exact Nat.ne_of_lt (blk_lt (g := gb451) (o := .cells #[.int .i64 0, .int .i64 0] 23 (0, 0)) (by (with_reducible repeat (first | refine blk_drewN ?_ _ | refine blk_drew ?_ | refine blk_alloc ?_ _)); exact (Q_BK451 ((up_ne (by decide : 8 ≠ 7)).symm.trans h1_) (hoff 11 (by kernel_rfl))))) : gb451 ≠ gb450)))
   have z_NB450_451 := fun (h0_ : up b 7 7 = true) (h1_ : up b 7 8 = true) => (show gb450 ≠ gb451 from ((by rw [hg]; exact Nat.ne_of_gt (blk_lt (g := gb451) (o := .cells #[.int .i64 0, .int .i64 0] 23 (0, 0)) (by (with_reducible repeat (first | refine blk_drewN ?_ _ | refine blk_drew ?_ | refine blk_alloc ?_ _)); exact (Q_BK451 ((up_ne (by decide : 8 ≠ 7)).symm.trans h1_) (hoff 11 (by kernel_rfl))))) : gb450 ≠ gb451)))
   have z_BK449 := fun (h0_ : b 6 = true) (h1_ : b 9 = false) => (show w8.heap[gb449]? = some (.cells #[.int .i64 0, .int .i64 0] 23 (0, 0)) from by first | exact (blk_below (g := gb449) (o := .cells #[.int .i64 0, .int .i64 0] 23 (0, 0)) (bk (Q_BK449 h0_ h1_)) hb))
   have z_BK451 := fun (h0_ : b 8 = true) (h1_ : b 11 = false) => (show w8.heap[gb451]? = some (.cells #[.int .i64 0, .int .i64 0] 23 (0, 0)) from by first | exact (blk_below (g := gb451) (o := .cells #[.int .i64 0, .int .i64 0] 23 (0, 0)) (bk (Q_BK451 h0_ h1_)) hb))
   clear BK447
   clear BK448
   clear HB
   have BK447 := n0_
   have BK448 := n1_
   have HB := n2_
   have BK450 := n3_
   have GW450 := n4_
   have GE450 := n5_
   have NB447_450 := n6_
   have NB450_447 := n7_
   have NB448_450 := n8_
   have NB450_448 := n9_
   clear n0_ n1_ n2_ n3_ n4_ n5_ n6_ n7_ n8_ n9_
   clear hb hbox hg
   refine hK.out _ _ ⟨gb449, gb450, gb451, m6_, (.pointer (some ⟨gb450, 0, none⟩)), m8_, (by rw [ha.out]; exact putSel_upk 4 hb_ rfl rfl rfl), (bk BK447.out), (bk BK448.out), (bw HB.out), @z_NB450_449, @z_NB449_450, Q_NB451_449, Q_NB449_451, @z_NB451_450, @z_NB450_451, z_BK449, Q_GW449, Q_GE449, Q_NB447_449, Q_NB449_447, Q_NB448_449, Q_NB449_448, fun _ _ => (bk BK450.out), fun _ => GW450.out, fun _ => GE450.out, fun _ => NB447_450.out, fun _ => NB450_447.out, fun _ => NB448_450.out, fun _ => NB450_448.out, z_BK451, Q_GW451, Q_GE451, Q_NB447_451, Q_NB451_447, Q_NB448_451, Q_NB451_448, fun h0_ => absurd ((hoff 9 (by kernel_rfl)).symm.trans h0_) (by decide), fun h0_ => absurd ((hoff 10 (by kernel_rfl)).symm.trans h0_) (by decide), fun h0_ => absurd ((hoff 11 (by kernel_rfl)).symm.trans h0_) (by decide), Q_X6_, fun _ => rfl, Q_X8_⟩
  refine steps_cons ?_ ?_
  ·rintro b a w' ⟨gb449, gb450, gb451, m6_, m7_, m8_, ha, Q_BK447, Q_BK448, Q_HB, Q_NB450_449, Q_NB449_450, Q_NB451_449, Q_NB449_451, Q_NB451_450, Q_NB450_451, Q_BK449, Q_GW449, Q_GE449, Q_NB447_449, Q_NB449_447, Q_NB448_449, Q_NB449_448, Q_BK450, Q_GW450, Q_GE450, Q_NB447_450, Q_NB450_447, Q_NB448_450, Q_NB450_448, Q_BK451, Q_GW451, Q_GE451, Q_NB447_451, Q_NB451_447, Q_NB448_451, Q_NB451_448, Q_BK449_e9, Q_BK450_e10, Q_BK451_e11, Q_X6_, Q_X7_, Q_X8_⟩ hb_ hon hoff
   refine ⟨_, rfl, fun K hK => ?_⟩
   replace ha := Aside0.mk ha
   have BK447 := Aside0.mk Q_BK447
   have BK448 := Aside0.mk Q_BK448
   have HB := Aside0.mk Q_HB
   refine box_step ?hg (N := 7) ?hd (cs := #[.int .i64 0, .int .i64 0]) (t := 23) ?hr ?_; (case hd => rfl); (case hg => rfl); (case hr => first | (go_simp; done) | (go_simp; rfl))
   intro gb451 hg w8 hbox hb
   have n0_ := Aside0.mk (blk_below (bk BK447.out) hb)
   have n1_ := Aside0.mk (blk_below (bk BK448.out) hb)
   have n2_ := Aside0.mk (below_step (bw HB.out) hb)
   have n3_ := Aside0.mk (hbox)
   have n4_ := Aside0.mk ((by rw [hg]; exact (below_size (bw HB.out)) : w.heap.size ≤ gb451))
   have n5_ := Aside0.mk ((by rw [hg]; exact (below_size (bw HB.out)) : w.heap.size ≤ gb451))
   have n6_ := Aside0.mk ((by rw [hg]; exact Nat.ne_of_lt (blk_lt (bk BK447.out)) : gb447 ≠ gb451))
   have n7_ := Aside0.mk ((by rw [hg]; exact Nat.ne_of_gt (blk_lt (bk BK447.out)) : gb451 ≠ gb447))
   have n8_ := Aside0.mk ((by rw [hg]; exact Nat.ne_of_lt (blk_lt (bk BK448.out)) : gb448 ≠ gb451))
   have n9_ := Aside0.mk ((by rw [hg]; exact Nat.ne_of_gt (blk_lt (bk BK448.out)) : gb451 ≠ gb448))
   have z_NB451_449 := fun (h0_ : up b 8 6 = true) (h1_ : up b 8 8 = true) => (show gb451 ≠ gb449 from ((by rw [hg]; exact Nat.ne_of_gt (blk_lt (g := gb449) (o := .cells #[.int .i64 0, .int .i64 0] 23 (0, 0)) (by (with_reducible repeat (first | refine blk_drewN ?_ _ | refine blk_drew ?_ | refine blk_alloc ?_ _)); exact (Q_BK449 ((up_ne (by decide : 6 ≠ 8)).symm.trans h0_) (hoff 9 (by kernel_rfl))))) : gb451 ≠ gb449)))
   have z_NB449_451 := fun (h0_ : up b 8 6 = true) (h1_ : up b 8 8 = true) => (show gb449 ≠ gb451 from ((by rw [hg]; exact Nat.ne_of_lt (blk_lt (g := gb449) (o := .cells #[.int .i64 0, .int .i64 0] 23 (0, 0)) (by (with_reducible repeat (first | refine blk_drewN ?_ _ | refine blk_drew ?_ | refine blk_alloc ?_ _)); exact (Q_BK449 ((up_ne (by decide : 6 ≠ 8)).symm.trans h0_) (hoff 9 (by kernel_rfl))))) : gb449 ≠ gb451)))
   have z_NB451_450 := fun (h0_ : up b 8 7 = true) (h1_ : up b 8 8 = true) => (show gb451 ≠ gb450 from ((by rw [hg]; exact Nat.ne_of_gt (blk_lt (g := gb450) (o := .cells #[.int .i64 0, .int .i64 0] 23 (0, 0)) (by (with_reducible repeat (first | refine blk_drewN ?_ _ | refine blk_drew ?_ | refine blk_alloc ?_ _)); exact (Q_BK450 ((up_ne (by decide : 7 ≠ 8)).symm.trans h0_) (hoff 10 (by kernel_rfl))))) : gb451 ≠ gb450)))
   have z_NB450_451 := fun (h0_ : up b 8 7 = true) (h1_ : up b 8 8 = true) => (show gb450 ≠ gb451 from ((by rw [hg]; exact Nat.ne_of_lt (blk_lt (g := gb450) (o := .cells #[.int .i64 0, .int .i64 0] 23 (0, 0)) (by (with_reducible repeat (first | refine blk_drewN ?_ _ | refine blk_drew ?_ | refine blk_alloc ?_ _)); exact (Q_BK450 ((up_ne (by decide : 7 ≠ 8)).symm.trans h0_) (hoff 10 (by kernel_rfl))))) : gb450 ≠ gb451)))
   have z_BK449 := fun (h0_ : b 6 = true) (h1_ : b 9 = false) => (show w8.heap[gb449]? = some (.cells #[.int .i64 0, .int .i64 0] 23 (0, 0)) from by first | exact (blk_below (g := gb449) (o := .cells #[.int .i64 0, .int .i64 0] 23 (0, 0)) (bk (Q_BK449 h0_ h1_)) hb))
   have z_BK450 := fun (h0_ : b 7 = true) (h1_ : b 10 = false) => (show w8.heap[gb450]? = some (.cells #[.int .i64 0, .int .i64 0] 23 (0, 0)) from by first | exact (blk_below (g := gb450) (o := .cells #[.int .i64 0, .int .i64 0] 23 (0, 0)) (bk (Q_BK450 h0_ h1_)) hb))
   clear BK447
   clear BK448
   clear HB
   have BK447 := n0_
   have BK448 := n1_
   have HB := n2_
   have BK451 := n3_
   have GW451 := n4_
   have GE451 := n5_
   have NB447_451 := n6_
   have NB451_447 := n7_
   have NB448_451 := n8_
   have NB451_448 := n9_
   clear n0_ n1_ n2_ n3_ n4_ n5_ n6_ n7_ n8_ n9_
   clear hb hbox hg
   refine hK.out _ _ ⟨gb449, gb450, gb451, m6_, m7_, (.pointer (some ⟨gb451, 0, none⟩)), (by rw [ha.out]; exact putSel_upk 5 hb_ rfl rfl rfl), (bk BK447.out), (bk BK448.out), (bw HB.out), Q_NB450_449, Q_NB449_450, @z_NB451_449, @z_NB449_451, @z_NB451_450, @z_NB450_451, z_BK449, Q_GW449, Q_GE449, Q_NB447_449, Q_NB449_447, Q_NB448_449, Q_NB449_448, z_BK450, Q_GW450, Q_GE450, Q_NB447_450, Q_NB450_447, Q_NB448_450, Q_NB450_448, fun _ _ => (bk BK451.out), fun _ => GW451.out, fun _ => GE451.out, fun _ => NB447_451.out, fun _ => NB451_447.out, fun _ => NB448_451.out, fun _ => NB451_448.out, fun h0_ => absurd ((hoff 9 (by kernel_rfl)).symm.trans h0_) (by decide), fun h0_ => absurd ((hoff 10 (by kernel_rfl)).symm.trans h0_) (by decide), fun h0_ => absurd ((hoff 11 (by kernel_rfl)).symm.trans h0_) (by decide), Q_X6_, Q_X7_, fun _ => rfl⟩
  refine steps_cons ?_ ?_
  ·rintro b a w' ⟨gb449, gb450, gb451, m6_, m7_, m8_, ha, Q_BK447, Q_BK448, Q_HB, Q_NB450_449, Q_NB449_450, Q_NB451_449, Q_NB449_451, Q_NB451_450, Q_NB450_451, Q_BK449, Q_GW449, Q_GE449, Q_NB447_449, Q_NB449_447, Q_NB448_449, Q_NB449_448, Q_BK450, Q_GW450, Q_GE450, Q_NB447_450, Q_NB450_447, Q_NB448_450, Q_NB450_448, Q_BK451, Q_GW451, Q_GE451, Q_NB447_451, Q_NB451_447, Q_NB448_451, Q_NB451_448, Q_BK449_e9, Q_BK450_e10, Q_BK451_e11, Q_X6_, Q_X7_, Q_X8_⟩ hb_ hon hoff
   refine ⟨_, rfl, fun K hK => ?_⟩
   have e5 : a.tmps[5]? = some (m6_) := by rw [ha]; exact putSel_on (e := (6, 5, m6_)) 3 rfl rfl (hon 6 (by kernel_rfl)) rfl
   rw [Q_X6_ (hon 6 (by kernel_rfl))] at e5
   have e10 : a.tmps[10]? = some (.agg #[.int .i64 a0_0, .int .i64 a0_1]) := by rw [ha]; exact putSel_on (e := (1, 10, .agg #[.int .i64 a0_0, .int .i64 a0_1])) 0 rfl rfl (hon 1 (by kernel_rfl)) rfl
   replace ha := Aside0.mk ha
   have BK447 := Aside0.mk Q_BK447
   have BK448 := Aside0.mk Q_BK448
   have HB := Aside0.mk Q_HB
   have NB450_449 := Aside0.mk (Q_NB450_449 (hon 6 (by kernel_rfl)) (hon 7 (by kernel_rfl)))
   have NB449_450 := Aside0.mk (Q_NB449_450 (hon 6 (by kernel_rfl)) (hon 7 (by kernel_rfl)))
   have NB451_449 := Aside0.mk (Q_NB451_449 (hon 6 (by kernel_rfl)) (hon 8 (by kernel_rfl)))
   have NB449_451 := Aside0.mk (Q_NB449_451 (hon 6 (by kernel_rfl)) (hon 8 (by kernel_rfl)))
   have NB451_450 := Aside0.mk (Q_NB451_450 (hon 7 (by kernel_rfl)) (hon 8 (by kernel_rfl)))
   have NB450_451 := Aside0.mk (Q_NB450_451 (hon 7 (by kernel_rfl)) (hon 8 (by kernel_rfl)))
   have BK449 := Aside0.mk (Q_BK449 (hon 6 (by kernel_rfl)) hb_)
   have GW449 := Aside0.mk (Q_GW449 (hon 6 (by kernel_rfl)))
   have GE449 := Aside0.mk (Q_GE449 (hon 6 (by kernel_rfl)))
   have NB447_449 := Aside0.mk (Q_NB447_449 (hon 6 (by kernel_rfl)))
   have NB449_447 := Aside0.mk (Q_NB449_447 (hon 6 (by kernel_rfl)))
   have NB448_449 := Aside0.mk (Q_NB448_449 (hon 6 (by kernel_rfl)))
   have NB449_448 := Aside0.mk (Q_NB449_448 (hon 6 (by kernel_rfl)))
   have BK450 := Aside0.mk (Q_BK450 (hon 7 (by kernel_rfl)) (hoff 10 (by kernel_rfl)))
   have GW450 := Aside0.mk (Q_GW450 (hon 7 (by kernel_rfl)))
   have GE450 := Aside0.mk (Q_GE450 (hon 7 (by kernel_rfl)))
   have NB447_450 := Aside0.mk (Q_NB447_450 (hon 7 (by kernel_rfl)))
   have NB450_447 := Aside0.mk (Q_NB450_447 (hon 7 (by kernel_rfl)))
   have NB448_450 := Aside0.mk (Q_NB448_450 (hon 7 (by kernel_rfl)))
   have NB450_448 := Aside0.mk (Q_NB450_448 (hon 7 (by kernel_rfl)))
   have BK451 := Aside0.mk (Q_BK451 (hon 8 (by kernel_rfl)) (hoff 11 (by kernel_rfl)))
   have GW451 := Aside0.mk (Q_GW451 (hon 8 (by kernel_rfl)))
   have GE451 := Aside0.mk (Q_GE451 (hon 8 (by kernel_rfl)))
   have NB447_451 := Aside0.mk (Q_NB447_451 (hon 8 (by kernel_rfl)))
   have NB451_447 := Aside0.mk (Q_NB451_447 (hon 8 (by kernel_rfl)))
   have NB448_451 := Aside0.mk (Q_NB448_451 (hon 8 (by kernel_rfl)))
   have NB451_448 := Aside0.mk (Q_NB451_448 (hon 8 (by kernel_rfl)))
   have hs12 : w'.cell? ⟨gb449, 0, none⟩ = some (.int .i64 0) := (blk_cell BK449.out 0).trans rfl
   have hfs12 := blk_frozen BK449.out 0
   have hns12_0 := NB447_449.out
   have hns12_1 := NB448_449.out
   have hns12_3 := NB450_449.out
   have hns12_4 := NB451_449.out
   have hms12_0 := NB449_447.out
   have hms12_1 := NB449_448.out
   have hms12_3 := NB449_450.out
   have hms12_4 := NB449_451.out
   have hs13 : w'.cell? ⟨gb449, 1, none⟩ = some (.int .i64 0) := (blk_cell BK449.out 1).trans rfl
   have hfs13 := blk_frozen BK449.out 1
   have hns13_0 := NB447_449.out
   have hns13_1 := NB448_449.out
   have hns13_3 := NB450_449.out
   have hns13_4 := NB451_449.out
   have hms13_0 := NB449_447.out
   have hms13_1 := NB449_448.out
   have hms13_3 := NB449_450.out
   have hms13_4 := NB449_451.out
   refine skip_ (w1 := ?_) (by rfl) rfl ?_ ?_
   rotate_left
   ·go_simp
    rfl
   refine hK.out _ _ ⟨gb449, gb450, gb451, m6_, m7_, m8_, (by rw [ha.out]; exact putSel_none (v := undef) rfl), (by (with_reducible repeat (first | refine blk_drewN ?_ _ | refine blk_drew ?_ | refine blk_alloc ?_ _)); refine blk_far ?_ NB447_449.out _; (with_reducible repeat (first | refine blk_drewN ?_ _ | refine blk_drew ?_ | refine blk_alloc ?_ _)); refine blk_far ?_ NB447_449.out _; (with_reducible repeat (first | refine blk_drewN ?_ _ | refine blk_drew ?_ | refine blk_alloc ?_ _)); exact BK447.out), (by (with_reducible repeat (first | refine blk_drewN ?_ _ | refine blk_drew ?_ | refine blk_alloc ?_ _)); refine blk_far ?_ NB448_449.out _; (with_reducible repeat (first | refine blk_drewN ?_ _ | refine blk_drew ?_ | refine blk_alloc ?_ _)); refine blk_far ?_ NB448_449.out _; (with_reducible repeat (first | refine blk_drewN ?_ _ | refine blk_drew ?_ | refine blk_alloc ?_ _)); exact BK448.out), (by repeat (first | (with_reducible first | exact HB.out | apply below_alloc | apply pw_below_drewN | apply below_drew1 | refine below_set ?_ GE447.out | refine below_set ?_ GE448.out | refine below_set ?_ GE449.out | refine below_set ?_ GE450.out | refine below_set ?_ GE451.out) | exact HB.out)), fun _ _ => NB450_449.out, fun _ _ => NB449_450.out, fun _ _ => NB451_449.out, fun _ _ => NB449_451.out, fun _ _ => NB451_450.out, fun _ _ => NB450_451.out, fun _ h1_ => absurd ((up_self b 9).symm.trans h1_) (by decide), fun _ => GW449.out, fun _ => GE449.out, fun _ => NB447_449.out, fun _ => NB449_447.out, fun _ => NB448_449.out, fun _ => NB449_448.out, fun _ _ => (by (with_reducible repeat (first | refine blk_drewN ?_ _ | refine blk_drew ?_ | refine blk_alloc ?_ _)); refine blk_far ?_ NB450_449.out _; (with_reducible repeat (first | refine blk_drewN ?_ _ | refine blk_drew ?_ | refine blk_alloc ?_ _)); refine blk_far ?_ NB450_449.out _; (with_reducible repeat (first | refine blk_drewN ?_ _ | refine blk_drew ?_ | refine blk_alloc ?_ _)); exact BK450.out), fun _ => GW450.out, fun _ => GE450.out, fun _ => NB447_450.out, fun _ => NB450_447.out, fun _ => NB448_450.out, fun _ => NB450_448.out, fun _ _ => (by (with_reducible repeat (first | refine blk_drewN ?_ _ | refine blk_drew ?_ | refine blk_alloc ?_ _)); refine blk_far ?_ NB451_449.out _; (with_reducible repeat (first | refine blk_drewN ?_ _ | refine blk_drew ?_ | refine blk_alloc ?_ _)); refine blk_far ?_ NB451_449.out _; (with_reducible repeat (first | refine blk_drewN ?_ _ | refine blk_drew ?_ | refine blk_alloc ?_ _)); exact BK451.out), fun _ => GW451.out, fun _ => GE451.out, fun _ => NB447_451.out, fun _ => NB451_447.out, fun _ => NB448_451.out, fun _ => NB451_448.out, fun _ => (by (with_reducible repeat (first | refine blk_drewN ?_ _ | refine blk_drew ?_ | refine blk_alloc ?_ _)); refine blk_put (cs := #[.int .i64 a0_0, .int .i64 0]) ?_ 1 _ rfl; (with_reducible repeat (first | refine blk_drewN ?_ _ | refine blk_drew ?_ | refine blk_alloc ?_ _)); refine blk_put (cs := #[.int .i64 0, .int .i64 0]) ?_ 0 _ rfl; (with_reducible repeat (first | refine blk_drewN ?_ _ | refine blk_drew ?_ | refine blk_alloc ?_ _)); exact BK449.out), fun h0_ => absurd ((hoff 10 (by kernel_rfl)).symm.trans h0_) (by decide), fun h0_ => absurd ((hoff 11 (by kernel_rfl)).symm.trans h0_) (by decide), Q_X6_, Q_X7_, Q_X8_⟩
  refine steps_cons ?_ ?_
  ·rintro b a w' ⟨gb449, gb450, gb451, m6_, m7_, m8_, ha, Q_BK447, Q_BK448, Q_HB, Q_NB450_449, Q_NB449_450, Q_NB451_449, Q_NB449_451, Q_NB451_450, Q_NB450_451, Q_BK449, Q_GW449, Q_GE449, Q_NB447_449, Q_NB449_447, Q_NB448_449, Q_NB449_448, Q_BK450, Q_GW450, Q_GE450, Q_NB447_450, Q_NB450_447, Q_NB448_450, Q_NB450_448, Q_BK451, Q_GW451, Q_GE451, Q_NB447_451, Q_NB451_447, Q_NB448_451, Q_NB451_448, Q_BK449_e9, Q_BK450_e10, Q_BK451_e11, Q_X6_, Q_X7_, Q_X8_⟩ hb_ hon hoff
   refine ⟨_, rfl, fun K hK => ?_⟩
   have e6 : a.tmps[6]? = some (m7_) := by rw [ha]; exact putSel_on (e := (7, 6, m7_)) 4 rfl rfl (hon 7 (by kernel_rfl)) rfl
   rw [Q_X7_ (hon 7 (by kernel_rfl))] at e6
   have e12 : a.tmps[12]? = some (.agg #[.int .i64 a0_2, .int .i64 a0_3]) := by rw [ha]; exact putSel_on (e := (3, 12, .agg #[.int .i64 a0_2, .int .i64 a0_3])) 1 rfl rfl (hon 3 (by kernel_rfl)) rfl
   replace ha := Aside0.mk ha
   have BK447 := Aside0.mk Q_BK447
   have BK448 := Aside0.mk Q_BK448
   have HB := Aside0.mk Q_HB
   have NB450_449 := Aside0.mk (Q_NB450_449 (hon 6 (by kernel_rfl)) (hon 7 (by kernel_rfl)))
   have NB449_450 := Aside0.mk (Q_NB449_450 (hon 6 (by kernel_rfl)) (hon 7 (by kernel_rfl)))
   have NB451_449 := Aside0.mk (Q_NB451_449 (hon 6 (by kernel_rfl)) (hon 8 (by kernel_rfl)))
   have NB449_451 := Aside0.mk (Q_NB449_451 (hon 6 (by kernel_rfl)) (hon 8 (by kernel_rfl)))
   have NB451_450 := Aside0.mk (Q_NB451_450 (hon 7 (by kernel_rfl)) (hon 8 (by kernel_rfl)))
   have NB450_451 := Aside0.mk (Q_NB450_451 (hon 7 (by kernel_rfl)) (hon 8 (by kernel_rfl)))
   have GW449 := Aside0.mk (Q_GW449 (hon 6 (by kernel_rfl)))
   have GE449 := Aside0.mk (Q_GE449 (hon 6 (by kernel_rfl)))
   have NB447_449 := Aside0.mk (Q_NB447_449 (hon 6 (by kernel_rfl)))
   have NB449_447 := Aside0.mk (Q_NB449_447 (hon 6 (by kernel_rfl)))
   have NB448_449 := Aside0.mk (Q_NB448_449 (hon 6 (by kernel_rfl)))
   have NB449_448 := Aside0.mk (Q_NB449_448 (hon 6 (by kernel_rfl)))
   have BK450 := Aside0.mk (Q_BK450 (hon 7 (by kernel_rfl)) hb_)
   have GW450 := Aside0.mk (Q_GW450 (hon 7 (by kernel_rfl)))
   have GE450 := Aside0.mk (Q_GE450 (hon 7 (by kernel_rfl)))
   have NB447_450 := Aside0.mk (Q_NB447_450 (hon 7 (by kernel_rfl)))
   have NB450_447 := Aside0.mk (Q_NB450_447 (hon 7 (by kernel_rfl)))
   have NB448_450 := Aside0.mk (Q_NB448_450 (hon 7 (by kernel_rfl)))
   have NB450_448 := Aside0.mk (Q_NB450_448 (hon 7 (by kernel_rfl)))
   have BK451 := Aside0.mk (Q_BK451 (hon 8 (by kernel_rfl)) (hoff 11 (by kernel_rfl)))
   have GW451 := Aside0.mk (Q_GW451 (hon 8 (by kernel_rfl)))
   have GE451 := Aside0.mk (Q_GE451 (hon 8 (by kernel_rfl)))
   have NB447_451 := Aside0.mk (Q_NB447_451 (hon 8 (by kernel_rfl)))
   have NB451_447 := Aside0.mk (Q_NB451_447 (hon 8 (by kernel_rfl)))
   have NB448_451 := Aside0.mk (Q_NB448_451 (hon 8 (by kernel_rfl)))
   have NB451_448 := Aside0.mk (Q_NB451_448 (hon 8 (by kernel_rfl)))
   have BK449 := Aside0.mk (Q_BK449_e9 (hon 9 (by kernel_rfl)))
   have hs14 : w'.cell? ⟨gb450, 0, none⟩ = some (.int .i64 0) := (blk_cell BK450.out 0).trans rfl
   have hfs14 := blk_frozen BK450.out 0
   have hns14_0 := NB447_450.out
   have hns14_1 := NB448_450.out
   have hns14_2 := NB449_450.out
   have hns14_4 := NB451_450.out
   have hms14_0 := NB450_447.out
   have hms14_1 := NB450_448.out
   have hms14_2 := NB450_449.out
   have hms14_4 := NB450_451.out
   have hs15 : w'.cell? ⟨gb450, 1, none⟩ = some (.int .i64 0) := (blk_cell BK450.out 1).trans rfl
   have hfs15 := blk_frozen BK450.out 1
   have hns15_0 := NB447_450.out
   have hns15_1 := NB448_450.out
   have hns15_2 := NB449_450.out
   have hns15_4 := NB451_450.out
   have hms15_0 := NB450_447.out
   have hms15_1 := NB450_448.out
   have hms15_2 := NB450_449.out
   have hms15_4 := NB450_451.out
   refine skip_ (w1 := ?_) (by rfl) rfl ?_ ?_
   rotate_left
   ·go_simp
    rfl
   refine hK.out _ _ ⟨gb449, gb450, gb451, m6_, m7_, m8_, (by rw [ha.out]; exact putSel_none (v := undef) rfl), (by (with_reducible repeat (first | refine blk_drewN ?_ _ | refine blk_drew ?_ | refine blk_alloc ?_ _)); refine blk_far ?_ NB447_450.out _; (with_reducible repeat (first | refine blk_drewN ?_ _ | refine blk_drew ?_ | refine blk_alloc ?_ _)); refine blk_far ?_ NB447_450.out _; (with_reducible repeat (first | refine blk_drewN ?_ _ | refine blk_drew ?_ | refine blk_alloc ?_ _)); exact BK447.out), (by (with_reducible repeat (first | refine blk_drewN ?_ _ | refine blk_drew ?_ | refine blk_alloc ?_ _)); refine blk_far ?_ NB448_450.out _; (with_reducible repeat (first | refine blk_drewN ?_ _ | refine blk_drew ?_ | refine blk_alloc ?_ _)); refine blk_far ?_ NB448_450.out _; (with_reducible repeat (first | refine blk_drewN ?_ _ | refine blk_drew ?_ | refine blk_alloc ?_ _)); exact BK448.out), (by repeat (first | (with_reducible first | exact HB.out | apply below_alloc | apply pw_below_drewN | apply below_drew1 | refine below_set ?_ GE447.out | refine below_set ?_ GE448.out | refine below_set ?_ GE449.out | refine below_set ?_ GE450.out | refine below_set ?_ GE451.out) | exact HB.out)), fun _ _ => NB450_449.out, fun _ _ => NB449_450.out, fun _ _ => NB451_449.out, fun _ _ => NB449_451.out, fun _ _ => NB451_450.out, fun _ _ => NB450_451.out, fun _ h1_ => absurd ((hon 9 (by kernel_rfl)).symm.trans h1_) (by decide), fun _ => GW449.out, fun _ => GE449.out, fun _ => NB447_449.out, fun _ => NB449_447.out, fun _ => NB448_449.out, fun _ => NB449_448.out, fun _ h1_ => absurd ((up_self b 10).symm.trans h1_) (by decide), fun _ => GW450.out, fun _ => GE450.out, fun _ => NB447_450.out, fun _ => NB450_447.out, fun _ => NB448_450.out, fun _ => NB450_448.out, fun _ _ => (by (with_reducible repeat (first | refine blk_drewN ?_ _ | refine blk_drew ?_ | refine blk_alloc ?_ _)); refine blk_far ?_ NB451_450.out _; (with_reducible repeat (first | refine blk_drewN ?_ _ | refine blk_drew ?_ | refine blk_alloc ?_ _)); refine blk_far ?_ NB451_450.out _; (with_reducible repeat (first | refine blk_drewN ?_ _ | refine blk_drew ?_ | refine blk_alloc ?_ _)); exact BK451.out), fun _ => GW451.out, fun _ => GE451.out, fun _ => NB447_451.out, fun _ => NB451_447.out, fun _ => NB448_451.out, fun _ => NB451_448.out, fun _ => (by (with_reducible repeat (first | refine blk_drewN ?_ _ | refine blk_drew ?_ | refine blk_alloc ?_ _)); refine blk_far ?_ NB449_450.out _; (with_reducible repeat (first | refine blk_drewN ?_ _ | refine blk_drew ?_ | refine blk_alloc ?_ _)); refine blk_far ?_ NB449_450.out _; (with_reducible repeat (first | refine blk_drewN ?_ _ | refine blk_drew ?_ | refine blk_alloc ?_ _)); exact BK449.out), fun _ => (by (with_reducible repeat (first | refine blk_drewN ?_ _ | refine blk_drew ?_ | refine blk_alloc ?_ _)); refine blk_put (cs := #[.int .i64 a0_2, .int .i64 0]) ?_ 1 _ rfl; (with_reducible repeat (first | refine blk_drewN ?_ _ | refine blk_drew ?_ | refine blk_alloc ?_ _)); refine blk_put (cs := #[.int .i64 0, .int .i64 0]) ?_ 0 _ rfl; (with_reducible repeat (first | refine blk_drewN ?_ _ | refine blk_drew ?_ | refine blk_alloc ?_ _)); exact BK450.out), fun h0_ => absurd ((hoff 11 (by kernel_rfl)).symm.trans h0_) (by decide), Q_X6_, Q_X7_, Q_X8_⟩
  refine steps_cons ?_ ?_
  ·rintro b a w' ⟨gb449, gb450, gb451, m6_, m7_, m8_, ha, Q_BK447, Q_BK448, Q_HB, Q_NB450_449, Q_NB449_450, Q_NB451_449, Q_NB449_451, Q_NB451_450, Q_NB450_451, Q_BK449, Q_GW449, Q_GE449, Q_NB447_449, Q_NB449_447, Q_NB448_449, Q_NB449_448, Q_BK450, Q_GW450, Q_GE450, Q_NB447_450, Q_NB450_447, Q_NB448_450, Q_NB450_448, Q_BK451, Q_GW451, Q_GE451, Q_NB447_451, Q_NB451_447, Q_NB448_451, Q_NB451_448, Q_BK449_e9, Q_BK450_e10, Q_BK451_e11, Q_X6_, Q_X7_, Q_X8_⟩ hb_ hon hoff
   refine ⟨_, rfl, fun K hK => ?_⟩
   have e7 : a.tmps[7]? = some (m8_) := by rw [ha]; exact putSel_on (e := (8, 7, m8_)) 5 rfl rfl (hon 8 (by kernel_rfl)) rfl
   rw [Q_X8_ (hon 8 (by kernel_rfl))] at e7
   have e14 : a.tmps[14]? = some (.agg #[.int .i64 a0_4, .int .i64 a0_5]) := by rw [ha]; exact putSel_on (e := (5, 14, .agg #[.int .i64 a0_4, .int .i64 a0_5])) 2 rfl rfl (hon 5 (by kernel_rfl)) rfl
   replace ha := Aside0.mk ha
   have BK447 := Aside0.mk Q_BK447
   have BK448 := Aside0.mk Q_BK448
   have HB := Aside0.mk Q_HB
   have NB450_449 := Aside0.mk (Q_NB450_449 (hon 6 (by kernel_rfl)) (hon 7 (by kernel_rfl)))
   have NB449_450 := Aside0.mk (Q_NB449_450 (hon 6 (by kernel_rfl)) (hon 7 (by kernel_rfl)))
   have NB451_449 := Aside0.mk (Q_NB451_449 (hon 6 (by kernel_rfl)) (hon 8 (by kernel_rfl)))
   have NB449_451 := Aside0.mk (Q_NB449_451 (hon 6 (by kernel_rfl)) (hon 8 (by kernel_rfl)))
   have NB451_450 := Aside0.mk (Q_NB451_450 (hon 7 (by kernel_rfl)) (hon 8 (by kernel_rfl)))
   have NB450_451 := Aside0.mk (Q_NB450_451 (hon 7 (by kernel_rfl)) (hon 8 (by kernel_rfl)))
   have GW449 := Aside0.mk (Q_GW449 (hon 6 (by kernel_rfl)))
   have GE449 := Aside0.mk (Q_GE449 (hon 6 (by kernel_rfl)))
   have NB447_449 := Aside0.mk (Q_NB447_449 (hon 6 (by kernel_rfl)))
   have NB449_447 := Aside0.mk (Q_NB449_447 (hon 6 (by kernel_rfl)))
   have NB448_449 := Aside0.mk (Q_NB448_449 (hon 6 (by kernel_rfl)))
   have NB449_448 := Aside0.mk (Q_NB449_448 (hon 6 (by kernel_rfl)))
   have GW450 := Aside0.mk (Q_GW450 (hon 7 (by kernel_rfl)))
   have GE450 := Aside0.mk (Q_GE450 (hon 7 (by kernel_rfl)))
   have NB447_450 := Aside0.mk (Q_NB447_450 (hon 7 (by kernel_rfl)))
   have NB450_447 := Aside0.mk (Q_NB450_447 (hon 7 (by kernel_rfl)))
   have NB448_450 := Aside0.mk (Q_NB448_450 (hon 7 (by kernel_rfl)))
   have NB450_448 := Aside0.mk (Q_NB450_448 (hon 7 (by kernel_rfl)))
   have BK451 := Aside0.mk (Q_BK451 (hon 8 (by kernel_rfl)) hb_)
   have GW451 := Aside0.mk (Q_GW451 (hon 8 (by kernel_rfl)))
   have GE451 := Aside0.mk (Q_GE451 (hon 8 (by kernel_rfl)))
   have NB447_451 := Aside0.mk (Q_NB447_451 (hon 8 (by kernel_rfl)))
   have NB451_447 := Aside0.mk (Q_NB451_447 (hon 8 (by kernel_rfl)))
   have NB448_451 := Aside0.mk (Q_NB448_451 (hon 8 (by kernel_rfl)))
   have NB451_448 := Aside0.mk (Q_NB451_448 (hon 8 (by kernel_rfl)))
   have BK449 := Aside0.mk (Q_BK449_e9 (hon 9 (by kernel_rfl)))
   have BK450 := Aside0.mk (Q_BK450_e10 (hon 10 (by kernel_rfl)))
   have hs16 : w'.cell? ⟨gb451, 0, none⟩ = some (.int .i64 0) := (blk_cell BK451.out 0).trans rfl
   have hfs16 := blk_frozen BK451.out 0
   have hns16_0 := NB447_451.out
   have hns16_1 := NB448_451.out
   have hns16_2 := NB449_451.out
   have hns16_3 := NB450_451.out
   have hms16_0 := NB451_447.out
   have hms16_1 := NB451_448.out
   have hms16_2 := NB451_449.out
   have hms16_3 := NB451_450.out
   have hs17 : w'.cell? ⟨gb451, 1, none⟩ = some (.int .i64 0) := (blk_cell BK451.out 1).trans rfl
   have hfs17 := blk_frozen BK451.out 1
   have hns17_0 := NB447_451.out
   have hns17_1 := NB448_451.out
   have hns17_2 := NB449_451.out
   have hns17_3 := NB450_451.out
   have hms17_0 := NB451_447.out
   have hms17_1 := NB451_448.out
   have hms17_2 := NB451_449.out
   have hms17_3 := NB451_450.out
   refine skip_ (w1 := ?_) (by rfl) rfl ?_ ?_
   rotate_left
   ·go_simp
    rfl
   refine hK.out _ _ ⟨gb449, gb450, gb451, m6_, m7_, m8_, (by rw [ha.out]; exact putSel_none (v := undef) rfl), (by (with_reducible repeat (first | refine blk_drewN ?_ _ | refine blk_drew ?_ | refine blk_alloc ?_ _)); refine blk_far ?_ NB447_451.out _; (with_reducible repeat (first | refine blk_drewN ?_ _ | refine blk_drew ?_ | refine blk_alloc ?_ _)); refine blk_far ?_ NB447_451.out _; (with_reducible repeat (first | refine blk_drewN ?_ _ | refine blk_drew ?_ | refine blk_alloc ?_ _)); exact BK447.out), (by (with_reducible repeat (first | refine blk_drewN ?_ _ | refine blk_drew ?_ | refine blk_alloc ?_ _)); refine blk_far ?_ NB448_451.out _; (with_reducible repeat (first | refine blk_drewN ?_ _ | refine blk_drew ?_ | refine blk_alloc ?_ _)); refine blk_far ?_ NB448_451.out _; (with_reducible repeat (first | refine blk_drewN ?_ _ | refine blk_drew ?_ | refine blk_alloc ?_ _)); exact BK448.out), (by repeat (first | (with_reducible first | exact HB.out | apply below_alloc | apply pw_below_drewN | apply below_drew1 | refine below_set ?_ GE447.out | refine below_set ?_ GE448.out | refine below_set ?_ GE449.out | refine below_set ?_ GE450.out | refine below_set ?_ GE451.out) | exact HB.out)), fun _ _ => NB450_449.out, fun _ _ => NB449_450.out, fun _ _ => NB451_449.out, fun _ _ => NB449_451.out, fun _ _ => NB451_450.out, fun _ _ => NB450_451.out, fun _ h1_ => absurd ((hon 9 (by kernel_rfl)).symm.trans h1_) (by decide), fun _ => GW449.out, fun _ => GE449.out, fun _ => NB447_449.out, fun _ => NB449_447.out, fun _ => NB448_449.out, fun _ => NB449_448.out, fun _ h1_ => absurd ((hon 10 (by kernel_rfl)).symm.trans h1_) (by decide), fun _ => GW450.out, fun _ => GE450.out, fun _ => NB447_450.out, fun _ => NB450_447.out, fun _ => NB448_450.out, fun _ => NB450_448.out, fun _ h1_ => absurd ((up_self b 11).symm.trans h1_) (by decide), fun _ => GW451.out, fun _ => GE451.out, fun _ => NB447_451.out, fun _ => NB451_447.out, fun _ => NB448_451.out, fun _ => NB451_448.out, fun _ => (by (with_reducible repeat (first | refine blk_drewN ?_ _ | refine blk_drew ?_ | refine blk_alloc ?_ _)); refine blk_far ?_ NB449_451.out _; (with_reducible repeat (first | refine blk_drewN ?_ _ | refine blk_drew ?_ | refine blk_alloc ?_ _)); refine blk_far ?_ NB449_451.out _; (with_reducible repeat (first | refine blk_drewN ?_ _ | refine blk_drew ?_ | refine blk_alloc ?_ _)); exact BK449.out), fun _ => (by (with_reducible repeat (first | refine blk_drewN ?_ _ | refine blk_drew ?_ | refine blk_alloc ?_ _)); refine blk_far ?_ NB450_451.out _; (with_reducible repeat (first | refine blk_drewN ?_ _ | refine blk_drew ?_ | refine blk_alloc ?_ _)); refine blk_far ?_ NB450_451.out _; (with_reducible repeat (first | refine blk_drewN ?_ _ | refine blk_drew ?_ | refine blk_alloc ?_ _)); exact BK450.out), fun _ => (by (with_reducible repeat (first | refine blk_drewN ?_ _ | refine blk_drew ?_ | refine blk_alloc ?_ _)); refine blk_put (cs := #[.int .i64 a0_4, .int .i64 0]) ?_ 1 _ rfl; (with_reducible repeat (first | refine blk_drewN ?_ _ | refine blk_drew ?_ | refine blk_alloc ?_ _)); refine blk_put (cs := #[.int .i64 0, .int .i64 0]) ?_ 0 _ rfl; (with_reducible repeat (first | refine blk_drewN ?_ _ | refine blk_drew ?_ | refine blk_alloc ?_ _)); exact BK451.out), Q_X6_, Q_X7_, Q_X8_⟩
  exact steps_nil
 rintro b a w17 hall ⟨gb449, gb450, gb451, m6_, m7_, m8_, ha, Q_BK447, Q_BK448, Q_HB, Q_NB450_449, Q_NB449_450, Q_NB451_449, Q_NB449_451, Q_NB451_450, Q_NB450_451, Q_BK449, Q_GW449, Q_GE449, Q_NB447_449, Q_NB449_447, Q_NB448_449, Q_NB449_448, Q_BK450, Q_GW450, Q_GE450, Q_NB447_450, Q_NB450_447, Q_NB448_450, Q_NB450_448, Q_BK451, Q_GW451, Q_GE451, Q_NB447_451, Q_NB451_447, Q_NB448_451, Q_NB451_448, Q_BK449_e9, Q_BK450_e10, Q_BK451_e11, Q_X6_, Q_X7_, Q_X8_⟩
 clear BK447 BK448 HB
 have hb1_ := hall 1 (by kernel_rfl)
 have hb3_ := hall 3 (by kernel_rfl)
 have hb5_ := hall 5 (by kernel_rfl)
 have hb6_ := hall 6 (by kernel_rfl)
 have hb7_ := hall 7 (by kernel_rfl)
 have hb8_ := hall 8 (by kernel_rfl)
 have hb9_ := hall 9 (by kernel_rfl)
 have hb10_ := hall 10 (by kernel_rfl)
 have hb11_ := hall 11 (by kernel_rfl)
 subst ha
 obtain rfl := Q_X6_ hb6_
 obtain rfl := Q_X7_ hb7_
 obtain rfl := Q_X8_ hb8_
 simp only [putSel, hb1_, hb3_, hb5_, hb6_, hb7_, hb8_, hb9_, hb10_, hb11_, if_true, Act.put, List.setIfInBounds_toArray, List.set_cons_zero, List.set_cons_succ]
 have BK447 := Aside0.mk Q_BK447
 clear Q_BK447
 have BK448 := Aside0.mk Q_BK448
 clear Q_BK448
 have HB := Aside0.mk Q_HB
 clear Q_HB
 have NB450_449 := Aside0.mk (Q_NB450_449 hb6_ hb7_)
 clear Q_NB450_449
 have NB449_450 := Aside0.mk (Q_NB449_450 hb6_ hb7_)
 clear Q_NB449_450
 have NB451_449 := Aside0.mk (Q_NB451_449 hb6_ hb8_)
 clear Q_NB451_449
 have NB449_451 := Aside0.mk (Q_NB449_451 hb6_ hb8_)
 clear Q_NB449_451
 have NB451_450 := Aside0.mk (Q_NB451_450 hb7_ hb8_)
 clear Q_NB451_450
 have NB450_451 := Aside0.mk (Q_NB450_451 hb7_ hb8_)
 clear Q_NB450_451
 clear Q_BK449
 have GW449 := Aside0.mk (Q_GW449 hb6_)
 clear Q_GW449
 have GE449 := Aside0.mk (Q_GE449 hb6_)
 clear Q_GE449
 have NB447_449 := Aside0.mk (Q_NB447_449 hb6_)
 clear Q_NB447_449
 have NB449_447 := Aside0.mk (Q_NB449_447 hb6_)
 clear Q_NB449_447
 have NB448_449 := Aside0.mk (Q_NB448_449 hb6_)
 clear Q_NB448_449
 have NB449_448 := Aside0.mk (Q_NB449_448 hb6_)
 clear Q_NB449_448
 clear Q_BK450
 have GW450 := Aside0.mk (Q_GW450 hb7_)
 clear Q_GW450
 have GE450 := Aside0.mk (Q_GE450 hb7_)
 clear Q_GE450
 have NB447_450 := Aside0.mk (Q_NB447_450 hb7_)
 clear Q_NB447_450
 have NB450_447 := Aside0.mk (Q_NB450_447 hb7_)
 clear Q_NB450_447
 have NB448_450 := Aside0.mk (Q_NB448_450 hb7_)
 clear Q_NB448_450
 have NB450_448 := Aside0.mk (Q_NB450_448 hb7_)
 clear Q_NB450_448
 clear Q_BK451
 have GW451 := Aside0.mk (Q_GW451 hb8_)
 clear Q_GW451
 have GE451 := Aside0.mk (Q_GE451 hb8_)
 clear Q_GE451
 have NB447_451 := Aside0.mk (Q_NB447_451 hb8_)
 clear Q_NB447_451
 have NB451_447 := Aside0.mk (Q_NB451_447 hb8_)
 clear Q_NB451_447
 have NB448_451 := Aside0.mk (Q_NB448_451 hb8_)
 clear Q_NB448_451
 have NB451_448 := Aside0.mk (Q_NB451_448 hb8_)
 clear Q_NB451_448
 have BK449 := Aside0.mk (Q_BK449_e9 hb9_)
 clear Q_BK449_e9
 have BK450 := Aside0.mk (Q_BK450_e10 hb10_)
 clear Q_BK450_e10
 have BK451 := Aside0.mk (Q_BK451_e11 hb11_)
 clear Q_BK451_e11
 clear hall hb1_ hb3_ hb5_ hb6_ hb7_ hb8_ hb9_ hb10_ hb11_
 have hnb18 := NB449_447.out
 have hnc18 := NB447_449.out
 have hnb19 := NB449_448.out
 have hnc19 := NB448_449.out
 have hnb20 := NB449_450.out
 have hnc20 := NB450_449.out
 have hnb21 := NB449_451.out
 have hnc21 := NB451_449.out
 have hcz22_0 : w17.cell? ⟨gb449, 0, none⟩ = some (.int .i64 a0_0) := (blk_cell BK449.out 0).trans rfl
 have hcz22_1 : w17.cell? ⟨gb449, 1, none⟩ = some (.int .i64 a0_1) := (blk_cell BK449.out 1).trans rfl
 have hfz22_0 := blk_frozen BK449.out 0
 have hfz22_1 := blk_frozen BK449.out 1
 have hnb23 := NB450_447.out
 have hnc23 := NB447_450.out
 have hnb24 := NB450_448.out
 have hnc24 := NB448_450.out
 have hnb25 := NB450_451.out
 have hnc25 := NB451_450.out
 have hcz26_0 : w17.cell? ⟨gb450, 0, none⟩ = some (.int .i64 a0_2) := (blk_cell BK450.out 0).trans rfl
 have hcz26_1 : w17.cell? ⟨gb450, 1, none⟩ = some (.int .i64 a0_3) := (blk_cell BK450.out 1).trans rfl
 have hfz26_0 := blk_frozen BK450.out 0
 have hfz26_1 := blk_frozen BK450.out 1
 have hnb27 := NB451_447.out
 have hnc27 := NB447_451.out
 have hnb28 := NB451_448.out
 have hnc28 := NB448_451.out
 have hcz29_0 : w17.cell? ⟨gb451, 0, none⟩ = some (.int .i64 a0_4) := (blk_cell BK451.out 0).trans rfl
 have hcz29_1 : w17.cell? ⟨gb451, 1, none⟩ = some (.int .i64 a0_5) := (blk_cell BK451.out 1).trans rfl
 have hfz29_0 := blk_frozen BK451.out 0
 have hfz29_1 := blk_frozen BK451.out 1
 have hnb30 := NB448_447.out
 have hnc30 := NB447_448.out
 have hcz31_0 : w17.cell? ⟨gb448, 0, none⟩ = some (.int .i64 a1_0) := (blk_cell BK448.out 0).trans rfl
 have hcz31_1 : w17.cell? ⟨gb448, 1, none⟩ = some (.int .i64 a1_1) := (blk_cell BK448.out 1).trans rfl
 have hfz31_0 := blk_frozen BK448.out 0
 have hfz31_1 := blk_frozen BK448.out 1
 go_upto_region 3 with (first | ((with_reducible refine gate_callee (f := 8) rfl ?_); refine goesL_ (some 19) rfl rfl Try.func8 (by kernel_rfl) rfl #[.agg #[.int .i64 a0_0, .int .i64 a0_1], .agg #[.int .i64 a0_2, .int .i64 a0_3], .agg #[.int .i64 a0_4, .int .i64 a0_5], .agg #[.int .i64 a1_0, .int .i64 a1_1]] rfl (by (try simp only [List.map_toArray, List.map_cons, List.map_nil]); first | done | rfl | (simp only [List.length_drop, List.length_take]; rfl)) ?_; (with_reducible refine (pred_InCircle.calls k a0_0 a0_1 a0_2 a0_3 a0_4 a0_5 a1_0 a1_1 t452 _ A3.out).mono ?_); rintro e w32 ⟨rfl, hb⟩; refine ⟨_, rfl, ?_⟩; replace BK447 := u1 BK447 hb; replace BK448 := u1 BK448 hb; replace BK449 := u1 BK449 hb; replace BK450 := u1 BK450 hb; replace BK451 := u1 BK451 hb; replace HB := u2 HB hb; clear hb))
 (try simp only [Act.put, List.setIfInBounds_toArray, List.set_cons_zero, List.set_cons_succ])
 go_cut [37] (fun v37 wc => ∃ (kq : Nat) (x37_3 : Bool), v37 = .bool x37_3 ∧ Aside0 (zelligelaw07_PredCircles.j0 kq t452 x37_3 a1_0 a1_1 a0_0 a0_1 a0_2 a0_3 a0_4 a0_5 = some true) ∧ Aside0 (kq ≤ k) ∧ Aside0 (wc.heap[gb447]? = some (.cells #[.int .i64 a0_0, .int .i64 a0_1, .int .i64 a0_2, .int .i64 a0_3, .int .i64 a0_4, .int .i64 a0_5] 24 (0, 0))) ∧ Aside0 (wc.heap[gb448]? = some (.cells #[.int .i64 a1_0, .int .i64 a1_1] 23 (0, 0))) ∧ Aside0 (wc.heap[gb449]? = some (.cells #[.int .i64 a0_0, .int .i64 a0_1] 23 (0, 0))) ∧ Aside0 (wc.heap[gb450]? = some (.cells #[.int .i64 a0_2, .int .i64 a0_3] 23 (0, 0))) ∧ Aside0 (wc.heap[gb451]? = some (.cells #[.int .i64 a0_4, .int .i64 a0_5] 23 (0, 0))) ∧ Aside0 (Below w.heap.size w wc))
 case first =>
  have H := HC4.out
  clear HC4
  replace H := Option.bind_eq_some_iff.mp H
  obtain ⟨t453, A330, H⟩ := H
  replace H : (if t453 = true then ((zelligeref06_Can.f a0_2 a0_3).bind fun t454 => (if t454 = true then ((zelligeref06_Can.f a0_4 a0_5).bind fun t455 => (if t455 = true then ((zelligeref06_Can.f a1_0 a1_1).bind fun t456 => (zelligelaw07_PredCircles.j0 k t452 (!t456) a1_0 a1_1 a0_0 a0_1 a0_2 a0_3 a0_4 a0_5)) else (zelligelaw07_PredCircles.j0 k t452 true a1_0 a1_1 a0_0 a0_1 a0_2 a0_3 a0_4 a0_5))) else (zelligelaw07_PredCircles.j0 k t452 true a1_0 a1_1 a0_0 a0_1 a0_2 a0_3 a0_4 a0_5))) else (zelligelaw07_PredCircles.j0 k t452 true a1_0 a1_1 a0_0 a0_1 a0_2 a0_3 a0_4 a0_5)) = some true := H
  have A33 := Aside0.mk A330
  clear A330
  by_cases c34 : t453 = true
  ·subst c34
   have H1 : ((zelligeref06_Can.f a0_2 a0_3).bind fun t454 => (if t454 = true then ((zelligeref06_Can.f a0_4 a0_5).bind fun t455 => (if t455 = true then ((zelligeref06_Can.f a1_0 a1_1).bind fun t456 => (zelligelaw07_PredCircles.j0 k t452 (!t456) a1_0 a1_1 a0_0 a0_1 a0_2 a0_3 a0_4 a0_5)) else (zelligelaw07_PredCircles.j0 k t452 true a1_0 a1_1 a0_0 a0_1 a0_2 a0_3 a0_4 a0_5))) else (zelligelaw07_PredCircles.j0 k t452 true a1_0 a1_1 a0_0 a0_1 a0_2 a0_3 a0_4 a0_5))) = some true := by rw [if_pos rfl] at H; exact H
   clear H
   have H := H1
   clear H1
   replace H := Option.bind_eq_some_iff.mp H
   obtain ⟨t454, A350, H⟩ := H
   replace H : (if t454 = true then ((zelligeref06_Can.f a0_4 a0_5).bind fun t455 => (if t455 = true then ((zelligeref06_Can.f a1_0 a1_1).bind fun t456 => (zelligelaw07_PredCircles.j0 k t452 (!t456) a1_0 a1_1 a0_0 a0_1 a0_2 a0_3 a0_4 a0_5)) else (zelligelaw07_PredCircles.j0 k t452 true a1_0 a1_1 a0_0 a0_1 a0_2 a0_3 a0_4 a0_5))) else (zelligelaw07_PredCircles.j0 k t452 true a1_0 a1_1 a0_0 a0_1 a0_2 a0_3 a0_4 a0_5)) = some true := H
   have A35 := Aside0.mk A350
   clear A350
   by_cases c36 : t454 = true
   ·subst c36
    have H1 : ((zelligeref06_Can.f a0_4 a0_5).bind fun t455 => (if t455 = true then ((zelligeref06_Can.f a1_0 a1_1).bind fun t456 => (zelligelaw07_PredCircles.j0 k t452 (!t456) a1_0 a1_1 a0_0 a0_1 a0_2 a0_3 a0_4 a0_5)) else (zelligelaw07_PredCircles.j0 k t452 true a1_0 a1_1 a0_0 a0_1 a0_2 a0_3 a0_4 a0_5))) = some true := by rw [if_pos rfl] at H; exact H
    clear H
    have H := H1
    clear H1
    replace H := Option.bind_eq_some_iff.mp H
    obtain ⟨t455, A370, H⟩ := H
    replace H : (if t455 = true then ((zelligeref06_Can.f a1_0 a1_1).bind fun t456 => (zelligelaw07_PredCircles.j0 k t452 (!t456) a1_0 a1_1 a0_0 a0_1 a0_2 a0_3 a0_4 a0_5)) else (zelligelaw07_PredCircles.j0 k t452 true a1_0 a1_1 a0_0 a0_1 a0_2 a0_3 a0_4 a0_5)) = some true := H
    have A37 := Aside0.mk A370
    clear A370
    by_cases c38 : t455 = true
    ·subst c38
     have H1 : ((zelligeref06_Can.f a1_0 a1_1).bind fun t456 => (zelligelaw07_PredCircles.j0 k t452 (!t456) a1_0 a1_1 a0_0 a0_1 a0_2 a0_3 a0_4 a0_5)) = some true := by rw [if_pos rfl] at H; exact H
     clear H
     have H := H1
     clear H1
     replace H := Option.bind_eq_some_iff.mp H
     obtain ⟨t456, A390, H⟩ := H
     replace H : (zelligelaw07_PredCircles.j0 k t452 (!t456) a1_0 a1_1 a0_0 a0_1 a0_2 a0_3 a0_4 a0_5) = some true := H
     have A39 := Aside0.mk A390
     clear A390
     have H' := Aside0.mk H
     clear H
     have hnb40 := NB449_447.out
     have hnc40 := NB447_449.out
     have hnb41 := NB449_448.out
     have hnc41 := NB448_449.out
     have hnb42 := NB449_450.out
     have hnc42 := NB450_449.out
     have hnb43 := NB449_451.out
     have hnc43 := NB451_449.out
     have hcz44_0 : w32.cell? ⟨gb449, 0, none⟩ = some (.int .i64 a0_0) := (blk_cell BK449.out 0).trans rfl
     have hcz44_1 : w32.cell? ⟨gb449, 1, none⟩ = some (.int .i64 a0_1) := (blk_cell BK449.out 1).trans rfl
     have hfz44_0 := blk_frozen BK449.out 0
     have hfz44_1 := blk_frozen BK449.out 1
     go_wp2_with (first | ((with_reducible refine gate_callee (f := 9) rfl ?_); refine goesL_ (some 21) rfl rfl Try.func9 (by kernel_rfl) rfl #[.agg #[.int .i64 a0_0, .int .i64 a0_1]] rfl (by (try simp only [List.map_toArray, List.map_cons, List.map_nil]); first | done | rfl | (simp only [List.length_drop, List.length_take]; rfl)) ?_; (with_reducible refine (zelligeref06_Can.calls a0_0 a0_1 true _ A33.out).mono ?_); rintro e w45 ⟨rfl, hb⟩; refine ⟨_, rfl, ?_⟩; replace BK447 := u1 BK447 hb; replace BK448 := u1 BK448 hb; replace BK449 := u1 BK449 hb; replace BK450 := u1 BK450 hb; replace BK451 := u1 BK451 hb; replace HB := u2 HB hb; clear hb; have hnb46 := NB450_447.out; have hnc46 := NB447_450.out; have hnb47 := NB450_448.out; have hnc47 := NB448_450.out; have hnb48 := NB450_451.out; have hnc48 := NB451_450.out; obtain ⟨hcz49_0, hcz49_1, hfz49_0, hfz49_1⟩ := p2 BK450) | (go_at_call 9; (with_reducible refine (zelligeref06_Can.calls a0_2 a0_3 true _ A35.out).mono ?_); rintro e w50 ⟨rfl, hb⟩; replace BK447 := u1 BK447 hb; replace BK448 := u1 BK448 hb; replace BK449 := u1 BK449 hb; replace BK450 := u1 BK450 hb; replace BK451 := u1 BK451 hb; replace HB := u2 HB hb; clear hb; have hnb51 := NB451_447.out; have hnc51 := NB447_451.out; have hnb52 := NB451_448.out; have hnc52 := NB448_451.out; obtain ⟨hcz53_0, hcz53_1, hfz53_0, hfz53_1⟩ := p2 BK451) | (go_at_call 9; (with_reducible refine (zelligeref06_Can.calls a0_4 a0_5 true _ A37.out).mono ?_); rintro e w54 ⟨rfl, hb⟩; replace BK447 := u1 BK447 hb; replace BK448 := u1 BK448 hb; replace BK449 := u1 BK449 hb; replace BK450 := u1 BK450 hb; replace BK451 := u1 BK451 hb; replace HB := u2 HB hb; clear hb; have hnb55 := NB448_447.out; have hnc55 := NB447_448.out; obtain ⟨hcz56_0, hcz56_1, hfz56_0, hfz56_1⟩ := p2 BK448) | (go_at_call 9; (with_reducible refine (zelligeref06_Can.calls a1_0 a1_1 t456 _ A39.out).mono ?_); rintro e w57 ⟨rfl, hb⟩; replace BK447 := u1 BK447 hb; replace BK448 := u1 BK448 hb; replace BK449 := u1 BK449 hb; replace BK450 := u1 BK450 hb; replace BK451 := u1 BK451 hb; replace HB := u2 HB hb; clear hb))
     go_meet
     case rel => exact ⟨_, (!t456), (by first | rfl | (simp; done) | (simp [*]; done)), H', ⟨by first | omega | exact Nat.le_refl _⟩, ⟨bk BK447.out⟩, ⟨bk BK448.out⟩, ⟨bk BK449.out⟩, ⟨bk BK450.out⟩, ⟨bk BK451.out⟩, ⟨bw HB.out⟩⟩
    ·replace c38 := Bool.eq_false_iff.mpr c38
     subst c38
     have H1 : (zelligelaw07_PredCircles.j0 k t452 true a1_0 a1_1 a0_0 a0_1 a0_2 a0_3 a0_4 a0_5) = some true := by rw [if_neg (show ¬ (false = true) by decide)] at H; exact H
     clear H
     have H := H1
     clear H1
     have H' := Aside0.mk H
     clear H
     have hnb58 := NB449_447.out
     have hnc58 := NB447_449.out
     have hnb59 := NB449_448.out
     have hnc59 := NB448_449.out
     have hnb60 := NB449_450.out
     have hnc60 := NB450_449.out
     have hnb61 := NB449_451.out
     have hnc61 := NB451_449.out
     have hcz62_0 : w32.cell? ⟨gb449, 0, none⟩ = some (.int .i64 a0_0) := (blk_cell BK449.out 0).trans rfl
     have hcz62_1 : w32.cell? ⟨gb449, 1, none⟩ = some (.int .i64 a0_1) := (blk_cell BK449.out 1).trans rfl
     have hfz62_0 := blk_frozen BK449.out 0
     have hfz62_1 := blk_frozen BK449.out 1
     go_wp2_with (first | ((with_reducible refine gate_callee (f := 9) rfl ?_); refine goesL_ (some 21) rfl rfl Try.func9 (by kernel_rfl) rfl #[.agg #[.int .i64 a0_0, .int .i64 a0_1]] rfl (by (try simp only [List.map_toArray, List.map_cons, List.map_nil]); first | done | rfl | (simp only [List.length_drop, List.length_take]; rfl)) ?_; (with_reducible refine (zelligeref06_Can.calls a0_0 a0_1 true _ A33.out).mono ?_); rintro e w63 ⟨rfl, hb⟩; refine ⟨_, rfl, ?_⟩; replace BK447 := u1 BK447 hb; replace BK448 := u1 BK448 hb; replace BK449 := u1 BK449 hb; replace BK450 := u1 BK450 hb; replace BK451 := u1 BK451 hb; replace HB := u2 HB hb; clear hb; have hnb64 := NB450_447.out; have hnc64 := NB447_450.out; have hnb65 := NB450_448.out; have hnc65 := NB448_450.out; have hnb66 := NB450_451.out; have hnc66 := NB451_450.out; obtain ⟨hcz67_0, hcz67_1, hfz67_0, hfz67_1⟩ := p2 BK450) | (go_at_call 9; (with_reducible refine (zelligeref06_Can.calls a0_2 a0_3 true _ A35.out).mono ?_); rintro e w68 ⟨rfl, hb⟩; replace BK447 := u1 BK447 hb; replace BK448 := u1 BK448 hb; replace BK449 := u1 BK449 hb; replace BK450 := u1 BK450 hb; replace BK451 := u1 BK451 hb; replace HB := u2 HB hb; clear hb; have hnb69 := NB451_447.out; have hnc69 := NB447_451.out; have hnb70 := NB451_448.out; have hnc70 := NB448_451.out; obtain ⟨hcz71_0, hcz71_1, hfz71_0, hfz71_1⟩ := p2 BK451) | (go_at_call 9; (with_reducible refine (zelligeref06_Can.calls a0_4 a0_5 false _ A37.out).mono ?_); rintro e w72 ⟨rfl, hb⟩; replace BK447 := u1 BK447 hb; replace BK448 := u1 BK448 hb; replace BK449 := u1 BK449 hb; replace BK450 := u1 BK450 hb; replace BK451 := u1 BK451 hb; replace HB := u2 HB hb; clear hb))
     go_meet
     case rel => exact ⟨_, (true), (by first | rfl | (simp; done) | (simp [*]; done)), H', ⟨by first | omega | exact Nat.le_refl _⟩, ⟨bk BK447.out⟩, ⟨bk BK448.out⟩, ⟨bk BK449.out⟩, ⟨bk BK450.out⟩, ⟨bk BK451.out⟩, ⟨bw HB.out⟩⟩
   ·replace c36 := Bool.eq_false_iff.mpr c36
    subst c36
    have H1 : (zelligelaw07_PredCircles.j0 k t452 true a1_0 a1_1 a0_0 a0_1 a0_2 a0_3 a0_4 a0_5) = some true := by rw [if_neg (show ¬ (false = true) by decide)] at H; exact H
    clear H
    have H := H1
    clear H1
    have H' := Aside0.mk H
    clear H
    have hnb73 := NB449_447.out
    have hnc73 := NB447_449.out
    have hnb74 := NB449_448.out
    have hnc74 := NB448_449.out
    have hnb75 := NB449_450.out
    have hnc75 := NB450_449.out
    have hnb76 := NB449_451.out
    have hnc76 := NB451_449.out
    have hcz77_0 : w32.cell? ⟨gb449, 0, none⟩ = some (.int .i64 a0_0) := (blk_cell BK449.out 0).trans rfl
    have hcz77_1 : w32.cell? ⟨gb449, 1, none⟩ = some (.int .i64 a0_1) := (blk_cell BK449.out 1).trans rfl
    have hfz77_0 := blk_frozen BK449.out 0
    have hfz77_1 := blk_frozen BK449.out 1
    go_wp2_with (first | ((with_reducible refine gate_callee (f := 9) rfl ?_); refine goesL_ (some 21) rfl rfl Try.func9 (by kernel_rfl) rfl #[.agg #[.int .i64 a0_0, .int .i64 a0_1]] rfl (by (try simp only [List.map_toArray, List.map_cons, List.map_nil]); first | done | rfl | (simp only [List.length_drop, List.length_take]; rfl)) ?_; (with_reducible refine (zelligeref06_Can.calls a0_0 a0_1 true _ A33.out).mono ?_); rintro e w78 ⟨rfl, hb⟩; refine ⟨_, rfl, ?_⟩; replace BK447 := u1 BK447 hb; replace BK448 := u1 BK448 hb; replace BK449 := u1 BK449 hb; replace BK450 := u1 BK450 hb; replace BK451 := u1 BK451 hb; replace HB := u2 HB hb; clear hb; have hnb79 := NB450_447.out; have hnc79 := NB447_450.out; have hnb80 := NB450_448.out; have hnc80 := NB448_450.out; have hnb81 := NB450_451.out; have hnc81 := NB451_450.out; obtain ⟨hcz82_0, hcz82_1, hfz82_0, hfz82_1⟩ := p2 BK450) | (go_at_call 9; (with_reducible refine (zelligeref06_Can.calls a0_2 a0_3 false _ A35.out).mono ?_); rintro e w83 ⟨rfl, hb⟩; replace BK447 := u1 BK447 hb; replace BK448 := u1 BK448 hb; replace BK449 := u1 BK449 hb; replace BK450 := u1 BK450 hb; replace BK451 := u1 BK451 hb; replace HB := u2 HB hb; clear hb))
    go_meet
    case rel => exact ⟨_, (true), (by first | rfl | (simp; done) | (simp [*]; done)), H', ⟨by first | omega | exact Nat.le_refl _⟩, ⟨bk BK447.out⟩, ⟨bk BK448.out⟩, ⟨bk BK449.out⟩, ⟨bk BK450.out⟩, ⟨bk BK451.out⟩, ⟨bw HB.out⟩⟩
  ·replace c34 := Bool.eq_false_iff.mpr c34
   subst c34
   have H1 : (zelligelaw07_PredCircles.j0 k t452 true a1_0 a1_1 a0_0 a0_1 a0_2 a0_3 a0_4 a0_5) = some true := by rw [if_neg (show ¬ (false = true) by decide)] at H; exact H
   clear H
   have H := H1
   clear H1
   have H' := Aside0.mk H
   clear H
   have hnb84 := NB449_447.out
   have hnc84 := NB447_449.out
   have hnb85 := NB449_448.out
   have hnc85 := NB448_449.out
   have hnb86 := NB449_450.out
   have hnc86 := NB450_449.out
   have hnb87 := NB449_451.out
   have hnc87 := NB451_449.out
   have hcz88_0 : w32.cell? ⟨gb449, 0, none⟩ = some (.int .i64 a0_0) := (blk_cell BK449.out 0).trans rfl
   have hcz88_1 : w32.cell? ⟨gb449, 1, none⟩ = some (.int .i64 a0_1) := (blk_cell BK449.out 1).trans rfl
   have hfz88_0 := blk_frozen BK449.out 0
   have hfz88_1 := blk_frozen BK449.out 1
   go_wp2_with (first | ((with_reducible refine gate_callee (f := 9) rfl ?_); refine goesL_ (some 21) rfl rfl Try.func9 (by kernel_rfl) rfl #[.agg #[.int .i64 a0_0, .int .i64 a0_1]] rfl (by (try simp only [List.map_toArray, List.map_cons, List.map_nil]); first | done | rfl | (simp only [List.length_drop, List.length_take]; rfl)) ?_; (with_reducible refine (zelligeref06_Can.calls a0_0 a0_1 false _ A33.out).mono ?_); rintro e w89 ⟨rfl, hb⟩; refine ⟨_, rfl, ?_⟩; replace BK447 := u1 BK447 hb; replace BK448 := u1 BK448 hb; replace BK449 := u1 BK449 hb; replace BK450 := u1 BK450 hb; replace BK451 := u1 BK451 hb; replace HB := u2 HB hb; clear hb))
   go_meet
   case rel => exact ⟨_, (true), (by first | rfl | (simp; done) | (simp [*]; done)), H', ⟨by first | omega | exact Nat.le_refl _⟩, ⟨bk BK447.out⟩, ⟨bk BK448.out⟩, ⟨bk BK449.out⟩, ⟨bk BK450.out⟩, ⟨bk BK451.out⟩, ⟨bw HB.out⟩⟩
 case rest =>
  clear HC4
  try clear c1
  try clear c2
  try clear p2
  try clear c3
  try clear c4
  try clear c5
  try clear c6
  try clear c7
  try clear c8
  try clear c9
  try clear c18
  try clear c19
  try clear c20
  try clear c21
  try clear c23
  try clear c24
  try clear c25
  try clear c27
  try clear c28
  try clear c30
  try clear c34
  try clear c36
  try clear c38
  try clear c40
  try clear c41
  try clear c42
  try clear c43
  try clear c46
  try clear c47
  try clear c48
  try clear c51
  try clear c52
  try clear c55
  try clear c58
  try clear c59
  try clear c60
  try clear c61
  try clear c64
  try clear c65
  try clear c66
  try clear c69
  try clear c70
  try clear c73
  try clear c74
  try clear c75
  try clear c76
  try clear c79
  try clear c80
  try clear c81
  try clear c84
  try clear c85
  try clear c86
  try clear c87
  try clear hcz22_0
  try clear hcz22_1
  try clear hcz26_0
  try clear hcz26_1
  try clear hcz29_0
  try clear hcz29_1
  try clear hcz31_0
  try clear hcz31_1
  try clear hcz44_0
  try clear hcz44_1
  try clear hcz49_0
  try clear hcz49_1
  try clear hcz53_0
  try clear hcz53_1
  try clear hcz56_0
  try clear hcz56_1
  try clear hcz62_0
  try clear hcz62_1
  try clear hcz67_0
  try clear hcz67_1
  try clear hcz71_0
  try clear hcz71_1
  try clear hcz77_0
  try clear hcz77_1
  try clear hcz82_0
  try clear hcz82_1
  try clear hcz88_0
  try clear hcz88_1
  try clear hfz22_0
  try clear hfz22_1
  try clear hfz26_0
  try clear hfz26_1
  try clear hfz29_0
  try clear hfz29_1
  try clear hfz31_0
  try clear hfz31_1
  try clear hfz44_0
  try clear hfz44_1
  try clear hfz49_0
  try clear hfz49_1
  try clear hfz53_0
  try clear hfz53_1
  try clear hfz56_0
  try clear hfz56_1
  try clear hfz62_0
  try clear hfz62_1
  try clear hfz67_0
  try clear hfz67_1
  try clear hfz71_0
  try clear hfz71_1
  try clear hfz77_0
  try clear hfz77_1
  try clear hfz82_0
  try clear hfz82_1
  try clear hfz88_0
  try clear hfz88_1
  obtain ⟨kq, x37_3, rfl, HA, HJ3, BK447, BK448, BK449, BK450, BK451, HB⟩ := hcut
  cases kq with
  | zero => exact absurd HA.out (by simp [zelligelaw07_PredCircles.j0])
  | succ kj3 =>
   have H := HA.out
   clear HA
   simp only [zelligelaw07_PredCircles.j0] at H
   by_cases c90 : x37_3 = true
   ·subst c90
    have H1 : (if t452 = 0 then ((zelligelaw07_lives.f kj3).bind fun t457 => (some t457)) else (some false)) = some true := by rw [if_pos rfl] at H; exact H
    clear H
    have H := H1
    clear H1
    by_cases c91 : t452 = 0
    ·rw [if_pos c91] at H
     have c91b0 : (t452 == 0) = true := beq_iff_eq.mpr c91
     have c91b1 : (t452 != 0) = false := bne_eq_false_iff_eq.mpr c91
     clear c91
     replace H := Option.bind_eq_some_iff.mp H
     obtain ⟨t457, A920, H⟩ := H
     replace H : (some t457) = some true := H
     have A92 := Aside0.mk A920
     clear A920
     obtain rfl := Option.some.inj H
     go_wp2_with (first | (go_at_call 10; (with_reducible refine (zelligelaw07_lives.calls kj3  true _ A92.out).mono ?_); rintro e w93 ⟨rfl, hb⟩; replace BK447 := u1 BK447 hb; replace BK448 := u1 BK448 hb; replace BK449 := u1 BK449 hb; replace BK450 := u1 BK450 hb; replace BK451 := u1 BK451 hb; replace HB := u2 HB hb; clear hb))
     go_ret
     exact ⟨by first | rfl | (simp [*, errW_none, errW_some] <;> rfl), bw HB.out⟩
    ·rw [if_neg c91] at H
     have c91b0 : (t452 == 0) = false := beq_eq_false_iff_ne.mpr c91
     have c91b1 : (t452 != 0) = true := bne_iff_ne.mpr c91
     exact absurd (Option.some.inj H) (by decide)
   ·replace c90 := Bool.eq_false_iff.mpr c90
    subst c90
    have H1 : ((zelligeref07_InCircle.f a0_0 a0_1 a0_2 a0_3 a0_4 a0_5 a1_0 a1_1).bind fun t458 => (if t452 = t458 then ((zelligelaw07_lives.f kj3).bind fun t459 => (some t459)) else (some false))) = some true := by rw [if_neg (show ¬ (false = true) by decide)] at H; exact H
    clear H
    have H := H1
    clear H1
    replace H := Option.bind_eq_some_iff.mp H
    obtain ⟨t458, A940, H⟩ := H
    replace H : (if t452 = t458 then ((zelligelaw07_lives.f kj3).bind fun t459 => (some t459)) else (some false)) = some true := H
    have A94 := Aside0.mk A940
    clear A940
    by_cases c95 : t452 = t458
    ·rw [if_pos c95] at H
     have c95b0 : (t452 == t458) = true := beq_iff_eq.mpr c95
     have c95b1 : (t452 != t458) = false := bne_eq_false_iff_eq.mpr c95
     clear c95
     replace H := Option.bind_eq_some_iff.mp H
     obtain ⟨t459, A960, H⟩ := H
     replace H : (some t459) = some true := H
     have A96 := Aside0.mk A960
     clear A960
     obtain rfl := Option.some.inj H
     have hnb97 := NB449_447.out
     have hnc97 := NB447_449.out
     have hnb98 := NB449_448.out
     have hnc98 := NB448_449.out
     have hnb99 := NB449_450.out
     have hnc99 := NB450_449.out
     have hnb100 := NB449_451.out
     have hnc100 := NB451_449.out
     have hcz101_0 : wc.cell? ⟨gb449, 0, none⟩ = some (.int .i64 a0_0) := (blk_cell BK449.out 0).trans rfl
     have hcz101_1 : wc.cell? ⟨gb449, 1, none⟩ = some (.int .i64 a0_1) := (blk_cell BK449.out 1).trans rfl
     have hfz101_0 := blk_frozen BK449.out 0
     have hfz101_1 := blk_frozen BK449.out 1
     have hnb102 := NB450_447.out
     have hnc102 := NB447_450.out
     have hnb103 := NB450_448.out
     have hnc103 := NB448_450.out
     have hnb104 := NB450_451.out
     have hnc104 := NB451_450.out
     have hcz105_0 : wc.cell? ⟨gb450, 0, none⟩ = some (.int .i64 a0_2) := (blk_cell BK450.out 0).trans rfl
     have hcz105_1 : wc.cell? ⟨gb450, 1, none⟩ = some (.int .i64 a0_3) := (blk_cell BK450.out 1).trans rfl
     have hfz105_0 := blk_frozen BK450.out 0
     have hfz105_1 := blk_frozen BK450.out 1
     have hnb106 := NB451_447.out
     have hnc106 := NB447_451.out
     have hnb107 := NB451_448.out
     have hnc107 := NB448_451.out
     have hcz108_0 : wc.cell? ⟨gb451, 0, none⟩ = some (.int .i64 a0_4) := (blk_cell BK451.out 0).trans rfl
     have hcz108_1 : wc.cell? ⟨gb451, 1, none⟩ = some (.int .i64 a0_5) := (blk_cell BK451.out 1).trans rfl
     have hfz108_0 := blk_frozen BK451.out 0
     have hfz108_1 := blk_frozen BK451.out 1
     have hnb109 := NB448_447.out
     have hnc109 := NB447_448.out
     have hcz110_0 : wc.cell? ⟨gb448, 0, none⟩ = some (.int .i64 a1_0) := (blk_cell BK448.out 0).trans rfl
     have hcz110_1 : wc.cell? ⟨gb448, 1, none⟩ = some (.int .i64 a1_1) := (blk_cell BK448.out 1).trans rfl
     have hfz110_0 := blk_frozen BK448.out 0
     have hfz110_1 := blk_frozen BK448.out 1
     go_wp2_with (first | ((with_reducible refine gate_callee (f := 11) rfl ?_); refine goesL_ (some 48) rfl rfl Try.func11 (by kernel_rfl) rfl #[.agg #[.int .i64 a0_0, .int .i64 a0_1], .agg #[.int .i64 a0_2, .int .i64 a0_3], .agg #[.int .i64 a0_4, .int .i64 a0_5], .agg #[.int .i64 a1_0, .int .i64 a1_1]] rfl (by (try simp only [List.map_toArray, List.map_cons, List.map_nil]); first | done | rfl | (simp only [List.length_drop, List.length_take]; rfl)) ?_; (with_reducible refine (zelligeref07_InCircle.calls a0_0 a0_1 a0_2 a0_3 a0_4 a0_5 a1_0 a1_1 t458 _ A94.out).mono ?_); rintro e w111 ⟨rfl, hb⟩; refine ⟨_, rfl, ?_⟩; replace BK447 := u1 BK447 hb; replace BK448 := u1 BK448 hb; replace BK449 := u1 BK449 hb; replace BK450 := u1 BK450 hb; replace BK451 := u1 BK451 hb; replace HB := u2 HB hb; clear hb) | (go_at_call 10; (with_reducible refine (zelligelaw07_lives.calls kj3  true _ A96.out).mono ?_); rintro e w112 ⟨rfl, hb⟩; replace BK447 := u1 BK447 hb; replace BK448 := u1 BK448 hb; replace BK449 := u1 BK449 hb; replace BK450 := u1 BK450 hb; replace BK451 := u1 BK451 hb; replace HB := u2 HB hb; clear hb))
     go_ret
     exact ⟨by first | rfl | (simp [*, errW_none, errW_some] <;> rfl), bw HB.out⟩
    ·rw [if_neg c95] at H
     have c95b0 : (t452 == t458) = false := beq_eq_false_iff_ne.mpr c95
     have c95b1 : (t452 != t458) = true := bne_iff_ne.mpr c95
     exact absurd (Option.some.inj H) (by decide)
end Go.Proofs.Ytmeckkckjikjiaa.F
end
section
namespace Go.Proofs.Ytmeckkckjikjiaa.Pd
open Go Go.RowKit Go.Proofs.YtmeckkckjikjiaaW.PrintWords Go.Proofs.Ytmeckkckjikjiaa.F Go.Proofs.Ytmeckkckjikjiaa.Wd Go.Proofs.Ytmeckkckjikjiaa.Pm
set_option linter.unusedVariables false
theorem rc_f {a b : Int} (h : I64 a ∧ I64 b) : zelligeref06_Can.f a b = some (decide (CoP a b)) := by
 unfold zelligeref06_Can.f
 rw [if_pos h]
theorem circles_f {a0 a1 b0 b1 c0 c1 d0 d1 : Int} (Ha : I64 a0 ∧ I64 a1) (Hb : I64 b0 ∧ I64 b1) (Hc : I64 c0 ∧ I64 c1) (Hd : I64 d0 ∧ I64 d1) {k : Nat} (hk : 2000 ≤ k) : zelligelaw07_PredCircles.f (k + 1) a0 a1 b0 b1 c0 c1 d0 d1 = some true := by
 unfold zelligelaw07_PredCircles.f
 rw [InCircle_f _ _ _ _ _ _ _ _ (by omega), Option.bind_some]
 unfold icS
 have no : ∀ (h : ¬ (CoP a0 a1 ∧ CoP b0 b1 ∧ CoP c0 c1 ∧ CoP d0 d1)), zelligelaw07_PredCircles.j0 (k + 1) (if CoP a0 a1 ∧ CoP b0 b1 ∧ CoP c0 c1 ∧ CoP d0 d1 then (dt a0 a1 b0 b1 c0 c1 d0 d1).sign else 0) true d0 d1 a0 a1 b0 b1 c0 c1 = some true := fun h => by
  rw [if_neg h, zelligelaw07_PredCircles.j0, if_pos rfl, if_pos rfl, lives_true hk]; rfl
 rw [rc_f Ha, rc_f Hb, rc_f Hc, rc_f Hd, Option.bind_some, Option.bind_some, Option.bind_some, Option.bind_some]
 by_cases ha : CoP a0 a1
 ·rw [if_pos (decide_eq_true ha)]
  by_cases hb : CoP b0 b1
  ·rw [if_pos (decide_eq_true hb)]
   by_cases hc : CoP c0 c1
   ·rw [if_pos (decide_eq_true hc)]
    by_cases hd : CoP d0 d1
    ·have ic : zelligeref07_InCircle.f a0 a1 b0 b1 c0 c1 d0 d1 = some (dt a0 a1 b0 b1 c0 c1 d0 d1).sign := by unfold zelligeref07_InCircle.f; rw [if_pos ⟨ha, hb, hc, hd⟩]
     rw [if_pos ⟨ha, hb, hc, hd⟩, decide_eq_true hd, zelligelaw07_PredCircles.j0, if_neg (by decide), ic, Option.bind_some, if_pos rfl, lives_true hk]
     rfl
    ·rw [decide_eq_false hd]; exact no (fun q => hd q.2.2.2)
   ·rw [if_neg (by rw [decide_eq_true_eq]; exact hc)]; exact no (fun q => hc q.2.2.1)
  ·rw [if_neg (by rw [decide_eq_true_eq]; exact hb)]; exact no (fun q => hb q.2.1)
 ·rw [if_neg (by rw [decide_eq_true_eq]; exact ha)]; exact no (fun q => ha q.1)
theorem i64_of {n : Int} (h : (Lit.int .i64 n).wf = true) : I64 n := by have := bounds_i64 h; omega
theorem circles_calls (a0_0 a0_1 a0_2 a0_3 a0_4 a0_5 a1_0 a1_1 : Int) (w : World) (h0_0 : (Lit.int .i64 a0_0).wf = true) (h0_1 : (Lit.int .i64 a0_1).wf = true) (h0_2 : (Lit.int .i64 a0_2).wf = true) (h0_3 : (Lit.int .i64 a0_3).wf = true) (h0_4 : (Lit.int .i64 a0_4).wf = true) (h0_5 : (Lit.int .i64 a0_5).wf = true) (h1_0 : (Lit.int .i64 a1_0).wf = true) (h1_1 : (Lit.int .i64 a1_1).wf = true) :
  Calls Try.prog 3 #[.agg #[.int .i64 a0_0, .int .i64 a0_1, .int .i64 a0_2, .int .i64 a0_3, .int .i64 a0_4, .int .i64 a0_5], .agg #[.int .i64 a1_0, .int .i64 a1_1]] w fun e w' => e = .returned (.bool true) ∧ Below w.heap.size w w' :=
 zelligelaw07_PredCircles.calls 3001 _ _ _ _ _ _ _ _ w (circles_f ⟨i64_of h0_0, i64_of h0_1⟩ ⟨i64_of h0_2, i64_of h0_3⟩ ⟨i64_of h0_4, i64_of h0_5⟩ ⟨i64_of h1_0, i64_of h1_1⟩ (by omega))
end Go.Proofs.Ytmeckkckjikjiaa.Pd
end
section
namespace Go.Proofs.Ytmeckkckjikjiaa.RK
open Go Go.ChangeShapes Go.WideShapes Go.ChangeAt Go.RowKit Go.WideElems Go.Maps Go.Deep
variable {H : Type} {enc : TypeId × Value → H} {P : Program}
theorem okWide_array {k e : TypeId} {n : Nat} (hu : P.underlying k = some (.array n e)) {W : World} {r : Reach} {b0 : Nat} {v : Value} (h : Value.okWide P W r b0 k v) : ∃ cs : Array Value, v = .agg cs ∧ cs.size = P.cellsOf k := by
 simp only [Value.okWide, hu] at h
 obtain ⟨cs, h1, h2, _⟩ := h
 exact ⟨cs, h1, h2⟩
theorem list6 {α : Type} {l : List α} (h : l.length = 6) : ∃ a b c d e f, l = [a, b, c, d, e, f] := by
 match l, h with
 | [a, b, c, d, e, f], _ => exact ⟨a, b, c, d, e, f, rfl⟩
theorem cells_two {w : World} {sp : Nat → Bool} {held : Bool} {base fuel : Nat} {e : TypeId} {f0 f1 : Field} {k0 k1 : IntKind} {v0 v1 : Value} {x : DataW H × List MemPlace} (hs : P.underlying e = some (.struct #[f0, f1]))
  (o0 : f0.offset = 0) (o1 : f1.offset = 1) (s0 : P.cellsOf f0.type = 1) (s1 : P.cellsOf f1.type = 1) (h0 : P.underlying f0.type = some (.int k0)) (h1 : P.underlying f1.type = some (.int k1)) (h : DataW.trod enc P w base sp held fuel e [v0, v1] = some x) :
  ∃ a b : Int, v0 = .int k0 a ∧ v1 = .int k1 b ∧ (Lit.int k0 a).wf = true ∧ (Lit.int k1 b).wf = true := by
 obtain ⟨y0, y1, n, _, _, g0, g1⟩ := trod_struct2 hs h
 rw [o0, s0] at g0
 rw [o1, s1] at g1
 obtain ⟨a, ea, _, wa⟩ := DataW.trod_int h0 g0
 obtain ⟨b, eb, _, wb⟩ := DataW.trod_int h1 g1
 simp at ea eb
 exact ⟨a, b, ea, eb, wa, wb⟩
theorem open_pairs3 {w : World} {sp : Nat → Bool} {held : Bool} {r : Reach} {b0 base : Nat} {t e : TypeId} {f0 f1 : Field} {k0 k1 : IntKind} {v : Value} {d : DataW H} {p : List MemPlace} (hu : P.underlying t = some (.array 3 e)) (hs : P.underlying e = some (.struct #[f0, f1]))
  (o0 : f0.offset = 0) (o1 : f1.offset = 1) (s0 : P.cellsOf f0.type = 1) (s1 : P.cellsOf f1.type = 1) (h0 : P.underlying f0.type = some (.int k0)) (h1 : P.underlying f1.type = some (.int k1)) (two : P.cellsOf e = 2) (size : P.cellsOf t = 6)
  (hv : Value.okWide P w r b0 t v) (h : DataW.Trod enc P w base sp held t v d p) :
  ∃ a b a' b' a'' b'' : Int, v = .agg #[.int k0 a, .int k1 b, .int k0 a', .int k1 b', .int k0 a'', .int k1 b''] ∧ (Lit.int k0 a).wf = true ∧ (Lit.int k1 b).wf = true ∧ (Lit.int k0 a').wf = true ∧ (Lit.int k1 b').wf = true ∧ (Lit.int k0 a'').wf = true ∧ (Lit.int k1 b'').wf = true := by
 obtain ⟨cs, rfl, hsz⟩ := okWide_array hu hv
 obtain ⟨l⟩ := cs
 obtain ⟨c0, c1, c2, c3, c4, c5, rfl⟩ := list6 (hsz.trans size)
 obtain ⟨fuel, hf⟩ := h
 cases fuel with
 | zero => simp [DataW.trod] at hf
 | succ n =>
  rw [DataW.trod_step] at hf
  unfold DataW.trodStep at hf
  simp only [hu, Value.cells] at hf
  rw [if_pos (by rw [size]; rfl)] at hf
  simp only [Option.map_eq_some_iff] at hf
  obtain ⟨xs, hx, e1⟩ := hf
  rw [show List.range 3 = [0, 1, 2] from rfl, List.mapM_cons, List.mapM_cons, List.mapM_cons, List.mapM_nil] at hx
  simp only [bind, Option.bind_eq_some_iff, pure, Option.some.injEq, two] at hx
  obtain ⟨y0, g0, _, ⟨y1, g1, _, ⟨y2, g2, _, rfl, rfl⟩, rfl⟩, rfl⟩ := hx
  obtain ⟨a, b, rfl, rfl, wa, wb⟩ := cells_two hs o0 o1 s0 s1 h0 h1 g0
  obtain ⟨a', b', rfl, rfl, wa', wb'⟩ := cells_two hs o0 o1 s0 s1 h0 h1 g1
  obtain ⟨a'', b'', rfl, rfl, wa'', wb''⟩ := cells_two hs o0 o1 s0 s1 h0 h1 g2
  exact ⟨a, b, a', b', a'', b'', rfl, wa, wb, wa', wb', wa'', wb''⟩
end Go.Proofs.Ytmeckkckjikjiaa.RK
end
