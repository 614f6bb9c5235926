/- PackLong: the law: the bytes of sites that are nought. -/
import Derived.Test.YtbmeleolpemakaaPackN
import Derived.Test.YtbmeleolpemakaaPackWL
namespace Go.Proofs.Ytbmeleolpemakaa.Pk
open Go Go.RowKit Go.Proofs.YtbmeleolpemakaaW.PrintWords Go.Proofs.Ytbmeleolpemakaa.F
theorem D_zero : D 9 (zig 0) = [0] := by decide
theorem D_one : D 9 (zig 1) = [2] := by decide
theorem D_three {u : Int} (h0 : 16384 ≤ u) (h1 : u < 2097152) : (D 9 u).length = 3 := by
  unfold D
  rw [if_pos (by omega)]
  unfold D
  rw [if_pos (by omega)]
  unfold D
  rw [if_neg (by omega)]
  rfl
theorem puts_zero {l : List Int} (hl : l.length ≤ 80000000) : puts 11 l [0, 0, 0] = some (l ++ [0] ++ [0] ++ [0]) := by
  have b0 : -9223372036854775808 ≤ (0 : Int) ∧ (0 : Int) ≤ 9223372036854775807 := by omega
  unfold puts
  rw [number_f b0 (by omega) (by omega), D_zero, Option.bind_some]
  unfold puts
  rw [number_f b0 (by simp; omega) (by omega), D_zero, Option.bind_some]
  unfold puts
  rw [number_f b0 (by simp; omega) (by omega), D_zero, Option.bind_some]
  rfl
theorem sites_zero (M : Nat) : ∀ l : List Int, l.length ≤ 1048576 → (1048576 < l.length + 3 * M → sitesF 11 l ⟨0, 0, 0⟩ (List.replicate M ⟨0, 0, 0⟩) = some none) ∧ (¬ 1048576 < l.length + 3 * M → ∃ l', sitesF 11 l ⟨0, 0, 0⟩ (List.replicate M ⟨0, 0, 0⟩) = some (some (l', ⟨0, 0, 0⟩)) ∧ l'.length = l.length + 3 * M) := by
  induction M with
  | zero => exact fun l hl => ⟨fun h => by omega, fun _ => ⟨l, rfl, by omega⟩⟩
  | succ M ih =>
    intro l hl
    have e : (l ++ [0] ++ [0] ++ [(0 : Int)]).length = l.length + 3 := by simp
    have step : sitesF 11 l ⟨0, 0, 0⟩ (List.replicate (M + 1) ⟨0, 0, 0⟩) = if (1048576 : Int) < ((l ++ [0] ++ [0] ++ [(0 : Int)]).length : Int) then some none else sitesF 11 (l ++ [0] ++ [0] ++ [0]) ⟨0, 0, 0⟩ (List.replicate M ⟨0, 0, 0⟩) := by
      rw [List.replicate_succ]
      show (puts 11 l [wrap64 (0 - 0), 0, 0]).bind _ = _
      rw [show wrap64 (0 - 0) = 0 from p64 (x := 0 - 0) (by omega), puts_zero (by omega), Option.bind_some]
    rw [step, e]
    by_cases c : 1048576 < l.length + 3
    · rw [if_pos (by omega)]
      exact ⟨fun _ => rfl, fun h => by omega⟩
    · rw [if_neg (by omega)]
      have i := ih (l ++ [0] ++ [0] ++ [0]) (by omega)
      rw [e] at i
      refine ⟨fun h => i.1 (by omega), fun h => ?_⟩
      obtain ⟨l', h1, h2⟩ := i.2 (by omega)
      exact ⟨l', h1, by omega⟩
theorem pack_zero {M : Nat} (h0 : 8192 ≤ M) (h1 : M < 1000000) : ∃ r1 r2, pack_Pack.f 1 1 1 (List.replicate M ⟨0, 0, 0⟩) [] = some (r1, r2) ∧ (if 1048576 < 9 + 3 * M then r1 = [] ∧ r2 = 5 else r1.length = 9 + 3 * M ∧ r2 = 0) := by
  have b1 : -9223372036854775808 ≤ (1 : Int) ∧ (1 : Int) ≤ 9223372036854775807 := by omega
  have b0 : -9223372036854775808 ≤ (0 : Int) ∧ (0 : Int) ≤ 9223372036854775807 := by omega
  have bM : -9223372036854775808 ≤ (M : Int) ∧ (M : Int) ≤ 9223372036854775807 := by omega
  have zM : zig (M : Int) = 2 * (M : Int) := by unfold zig; rw [if_neg (by omega)]
  have d3 : (D 9 (zig (M : Int))).length = 3 := D_three (by omega) (by omega)
  have hp : puts 11 [90, 71] [1, 1, 1, (M : Int), 0] = some ([90, 71] ++ [2] ++ [2] ++ [2] ++ D 9 (zig (M : Int)) ++ [0]) := by
    unfold puts
    rw [number_f b1 (by decide) (by omega), D_one, Option.bind_some]
    unfold puts
    rw [number_f b1 (by decide) (by omega), D_one, Option.bind_some]
    unfold puts
    rw [number_f b1 (by decide) (by omega), D_one, Option.bind_some]
    unfold puts
    rw [number_f bM (by decide) (by omega), Option.bind_some]
    unfold puts
    rw [number_f b0 (by rw [List.length_append, d3]; decide) (by omega), D_zero, Option.bind_some]
    rfl
  have hl : ([90, 71] ++ [2] ++ [2] ++ [2] ++ D 9 (zig (M : Int)) ++ [(0 : Int)]).length = 9 := by simp [d3]
  have s := sites_zero M ([90, 71] ++ [2] ++ [2] ++ [2] ++ D 9 (zig (M : Int)) ++ [0]) (by omega)
  rw [hl] at s
  unfold pack_Pack.f
  rw [if_pos (show ([] : List S54).length = 0 from rfl), List.length_replicate, hp, Option.bind_some]
  by_cases c : 1048576 < 9 + 3 * M
  · rw [s.1 c]
    exact ⟨[], 5, rfl, by rw [if_pos c]; exact ⟨rfl, rfl⟩⟩
  · obtain ⟨l', h1, h2⟩ := s.2 c
    rw [h1]
    exact ⟨l', 0, rfl, by rw [if_neg c]; exact ⟨h2, rfl⟩⟩
theorem long_calls (n many : Int) (w : World) (hn : (Lit.int .u8 n).wf = true) (hm : (Lit.int .u8 many).wf = true) :
    Calls Try.prog 7 #[.int .u8 n, .int .u8 many] w fun e w' => e = .returned (.bool true) ∧ Below w.heap.size w w' := by
  have bn := bounds_u8 hn
  have bm := bounds_u8 hm
  obtain ⟨M, hM⟩ : ∃ M, (349500 + many % 64).toNat = M := ⟨_, rfl⟩
  obtain ⟨m, hm2⟩ : ∃ m, (1048570 + n % 16).toNat = m + 2 := ⟨(1048570 + n % 16).toNat - 2, by omega⟩
  obtain ⟨r1, r2, hp, hr⟩ := pack_zero (M := M) (by omega) (by omega)
  have h5 : ((if m + 2 > 1048576 then (5 : Int) else 17) == 5) = decide (6 < n % 16) := by
    by_cases c : 6 < n % 16
    · rw [if_pos (by omega), decide_eq_true c]; rfl
    · rw [if_neg (by omega), decide_eq_false c]; rfl
  by_cases c : 1048576 < 9 + 3 * M
  · rw [if_pos c] at hr
    obtain ⟨rfl, rfl⟩ := hr
    exact long_walk n many M m hM hm2 w bn bm [] 5 0 true _ _ hp rfl rfl rfl rfl (decide_eq_true (by omega)) rfl h5 rfl
  · rw [if_neg c] at hr
    obtain ⟨h1, rfl⟩ := hr
    exact long_walk n many M m hM hm2 w bn bm r1 0 (9 + 3 * M) false _ _ hp h1 rfl rfl (by simp; omega) (decide_eq_false (by omega)) rfl h5 rfl
end Go.Proofs.Ytbmeleolpemakaa.Pk
