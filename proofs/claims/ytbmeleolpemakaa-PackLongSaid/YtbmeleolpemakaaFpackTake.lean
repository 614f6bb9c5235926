/- pack.Take, in the print's form. -/
import Derived.Test.YtbmeleolpemakaaFslicesClonebytebyte
import Derived.Test.YtbmeleolpemakaaFpacktake
import Derived.OwnWalk
namespace Go.Proofs.Ytbmeleolpemakaa.F
open Go Go.RowKit Go.Proofs.YtbmeleolpemakaaW.PrintWords Go.Proofs.YtbmeleolpemakaaW.PrintLast Go.Proofs.YtbmeleolpemakaaW.PrintMore
set_option linter.unusedVariables false
set_option linter.unusedSimpArgs false
def pack_Take.f (l0 : List Int) : Option (Int × List Int × Int) := (pack_take.f 1000 l0).bind fun t => if t.2 = 0 then some (0, [], 17) else if 0 < t.2 ∧ t.2 ≤ (l0.length : Int) ∧ l0.length < 140737488355328 then some (t.1, l0.drop t.2.toNat, 0) else none
theorem clone_c {A : Option Addr} {m c : Nat} {xs : List Int} {w : World} (hm : m = xs.length) (hC : Kd.C (Kd.int .u8) w A xs.length xs) (hc : m ≤ c) (hl : xs.length < 140737488355328) :
    Calls Try.prog 20 #[.slice A m c] w fun e w' => ∃ v0_ : Value, e = .returned v0_ ∧ Kd.R (Kd.int .u8) 5 w' w.heap.size (fun _ => True) v0_ xs ∧ Below w.heap.size w w' := by
  subst hm
  exact slices_Clone_byte_byte.calls _ _ _ _ _ hC hc (by unfold slices_Clone_byte_byte.f; rw [if_pos hl])
theorem c_nil (A : Option Addr) (w : World) : Kd.C (Kd.int .u8) w A ([] : List Int).length [] := ⟨rfl, by decide, fun h => absurd h (by decide)⟩
theorem c_drop {a : Addr} {xs : List Int} {w : World} (hC : Kd.C (Kd.int .u8) w (some a) xs.length xs) {k : Nat} (hk : k ≤ xs.length) : Kd.C (Kd.int .u8) w (some (a.add k)) (xs.drop k).length (xs.drop k) := by
  have h := Kd.C_drop (c := xs.length + k + 1) hC hk (by omega)
  rw [if_neg (by omega)] at h
  have e : k * (Kd.int .u8).sz = k := Nat.mul_one k
  rw [e] at h
  exact h
set_option maxHeartbeats 2000000 in
theorem take_none (A0 : Option Addr) (c0 : Nat) (l0 : List Int) (n : Int) (w : World) (hr0 : Kd.C (Kd.int .u8) w A0 l0.length l0) (hc0 : l0.length ≤ c0) (h : pack_take.f 1000 l0 = some (n, 0)) :
    Calls Try.prog 8 #[.slice A0 l0.length c0] w fun e w' => ∃ v0_ : Value, e = .returned (.tuple #[.int .i64 0, v0_, .int .i64 17]) ∧ Kd.R (Kd.int .u8) 5 w' w.heap.size (fun _ => True) v0_ [] ∧ Below w.heap.size w w' := by
  have HT := Aside0.mk (And.intro hr0 (And.intro hc0 h))
  clear hr0 hc0 h
  go_enter Try.func8, Try.ntmps8
  go_wp2_with (first | (with_reducible go_at_call 19; with_reducible refine (pack_take.calls 1000 A0 c0 l0 n 0 _ HT.out.1 HT.out.2.1 HT.out.2.2).mono ?_; rintro e w1 ⟨rfl, hd⟩; have HB := Aside0.mk hd.below; clear hd) | fail)
  go_ret3
  exact ⟨_, rfl, Kd.R_nil _ _ _ _ _, HB.out⟩
set_option maxHeartbeats 2000000 in
theorem take_some (a : Addr) (c0 : Nat) (l0 : List Int) (n : Int) (k : Nat) (w : World) (hr0 : Kd.C (Kd.int .u8) w (some a) l0.length l0) (hc0 : l0.length ≤ c0) (h : pack_take.f 1000 l0 = some (n, (k : Int))) (k0 : 0 < k) (k1 : k ≤ l0.length) (hl : l0.length < 140737488355328) :
    Calls Try.prog 8 #[.slice (some a) l0.length c0] w fun e w' => ∃ v0_ : Value, e = .returned (.tuple #[.int .i64 n, v0_, .int .i64 0]) ∧ Kd.R (Kd.int .u8) 5 w' w.heap.size (fun _ => True) v0_ (l0.drop k) ∧ Below w.heap.size w w' := by
  have HT := Aside0.mk (And.intro hr0 (And.intro hc0 h))
  have HK := Aside0.mk (And.intro k1 hl)
  clear hr0 h hl
  have kn : ((k : Int) == 0) = false := by simp; omega
  go_enter Try.func8, Try.ntmps8
  go_wp2_with (first | (with_reducible go_at_call 19; with_reducible refine (pack_take.calls 1000 (some a) c0 l0 n k _ HT.out.1 HT.out.2.1 HT.out.2.2).mono ?_; rintro e w1 ⟨rfl, hd⟩; have HB := Aside0.mk hd.below; clear hd) | fail)
  all_goals (
    first
    | (with_reducible refine (clone_c (xs := l0.drop k) (by rw [List.length_drop]) (c_drop (Kd.C_below HT.out.1 HB.out) HK.out.1) (Nat.le_refl _) (by rw [List.length_drop]; have := HK.out.2; omega)).mono ?_
       rintro e w2 ⟨v, rfl, hR, hb⟩
       have HQ := Aside0.mk (And.intro hR hb)
       clear hR hb
       go_wp2
       go_ret3
       exact ⟨_, rfl, Kd.R_lower HQ.out.1 (below_size HB.out), below_step HB.out HQ.out.2⟩)
    | (have e0 : l0.drop k = [] := List.drop_eq_nil_of_le (by omega)
       with_reducible refine (clone_c (m := 0) (c := 0) (xs := []) rfl (c_nil _ _) (Nat.le_refl _) (by decide)).mono ?_
       rintro e w2 ⟨v, rfl, hR, hb⟩
       have HQ := Aside0.mk (And.intro hR hb)
       clear hR hb
       go_wp2
       go_ret3
       exact ⟨_, rfl, by rw [e0]; exact Kd.R_lower HQ.out.1 (below_size HB.out), below_step HB.out HQ.out.2⟩))
theorem pack_Take.calls (A0 : Option Addr) (c0 : Nat) (l0 : List Int) (r1 : Int) (r2 : List Int) (r3 : Int) (w : World) (hr0 : Kd.C (Kd.int .u8) w A0 l0.length l0) (hc0 : l0.length ≤ c0) (h : pack_Take.f l0 = some (r1, r2, r3)) :
    Calls Try.prog 8 #[.slice A0 l0.length c0] w fun e w' => ∃ v0_ : Value, e = .returned (.tuple #[.int .i64 r1, v0_, .int .i64 r3]) ∧ Kd.R (Kd.int .u8) 5 w' w.heap.size (fun _ => True) v0_ r2 ∧ Below w.heap.size w w' := by
  unfold pack_Take.f at h
  obtain ⟨⟨n, k⟩, ht, h⟩ := Option.bind_eq_some_iff.1 h
  by_cases hk : k = 0
  · subst hk
    rw [if_pos rfl] at h
    injection h with h
    injection h with h1 h
    injection h with h2 h3
    subst h1 h2 h3
    exact take_none A0 c0 l0 n w hr0 hc0 ht
  · rw [if_neg hk] at h
    by_cases hb : 0 < k ∧ k ≤ (l0.length : Int) ∧ l0.length < 140737488355328
    · rw [if_pos hb] at h
      injection h with h
      injection h with h1 h
      injection h with h2 h3
      subst h1 h2 h3
      obtain ⟨m, rfl⟩ : ∃ m : Nat, k = m := ⟨k.toNat, by omega⟩
      rcases A0 with _ | a
      · obtain ⟨ad, e, _⟩ := hr0.2.2 (by omega)
        cases e
      · exact take_some a c0 l0 n m w hr0 hc0 ht (by omega) (by omega) hb.2.2
    · rw [if_neg hb] at h
      cases h
end Go.Proofs.Ytbmeleolpemakaa.F
