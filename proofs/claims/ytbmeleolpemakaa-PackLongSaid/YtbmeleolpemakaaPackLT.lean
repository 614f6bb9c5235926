/- PackTakes: what the law asks of plain lists. -/
import Derived.Test.YtbmeleolpemakaaPackT
import Derived.Test.YtbmeleolpemakaaPackWT
import Derived.OpenShut
namespace Go.Proofs.Ytbmeleolpemakaa.Pk
open Go Go.RowKit Go.Proofs.YtbmeleolpemakaaW.PrintWords Go.Proofs.Ytbmeleolpemakaa.F
set_option linter.unusedVariables false
theorem T_len {l : List Int} : (T l).2 ≤ (l.length : Int) ∧ 0 ≤ (T l).2 ∧ ((T l).2 = 0 → T l = (0, 0)) := by
  unfold T
  by_cases h : l.length ≤ fl l ∨ 9 < fl l ∨ (fl l = 9 ∧ 1 < b l 9) ∨ (0 < fl l ∧ b l (fl l) = 0)
  · rw [if_pos h]; exact ⟨by simp, by simp, fun _ => rfl⟩
  · rw [if_neg h]
    have : fl l < l.length := by omega
    exact ⟨by simp; omega, by simp; omega, fun e => by simp at e; omega⟩
theorem Take_p {l : List Int} (hB : By l) (hn : l.length ≤ 400) : pack_Take.f l = some (if (T l).2 = 0 then (0, [], 17) else ((T l).1, l.drop (T l).2.toNat, 0)) := by
  unfold pack_Take.f
  have t := T_len (l := l)
  rw [take_p hB hn, Option.bind_some]
  by_cases h : (T l).2 = 0
  · rw [if_pos h, if_pos h]
  · rw [if_neg h, if_neg h, if_pos ⟨by omega, t.1, by omega⟩]
theorem takes_calls (A0 : Option Addr) (c0 : Nat) (l0 : List Int) (w : World) (hc0 : l0.length ≤ c0) (hr0 : Kd.C (Kd.int .u8) w A0 l0.length l0) (hw : ∀ x ∈ l0, (Lit.int .u8 x).wf = true) :
    Calls Try.prog 3 #[.slice A0 l0.length c0] w fun e w' => e = .returned (.bool true) ∧ Below w.heap.size w w' := by
  have hB : By l0 := fun x hx => by have := bounds_u8 (hw x hx); omega
  by_cases g : 30 < l0.length
  · have hB' : By (l0.take 30) := fun x hx => hB x (List.mem_of_mem_take hx)
    have hn : (l0.take 30).length ≤ 400 := by rw [List.length_take]; omega
    have hp := Take_p hB' hn
    have hq := ref_p hB' hn (k := 2000) (by omega)
    have t := T_len (l := l0.take 30)
    by_cases h : (T (l0.take 30)).2 = 0
    · rw [if_pos h] at hp
      rw [t.2.2 h] at hq
      exact takes_cut_none 2000 A0 c0 l0 w hr0 hc0 g _ rfl hp hq
    · rw [if_neg h] at hp
      have e : (T (l0.take 30)).2 = (((T (l0.take 30)).2.toNat : Nat) : Int) := by omega
      exact takes_cut_some 2000 A0 c0 l0 w hr0 hc0 g _ rfl (T (l0.take 30)).1 (T (l0.take 30)).2.toNat (by omega) (by omega) _ rfl hp (by rw [hq, ← e])
  · by_cases h4 : l0.length ≤ 400
    · have hp := Take_p hB h4
      have hq := ref_p hB h4 (k := 2000) (by omega)
      have t := T_len (l := l0)
      by_cases h : (T l0).2 = 0
      · rw [if_pos h] at hp
        rw [t.2.2 h] at hq
        exact takes_all_none 2000 A0 c0 l0 w hr0 hc0 g _ rfl hp hq
      · rw [if_neg h] at hp
        have e : (T l0).2 = (((T l0).2.toNat : Nat) : Int) := by omega
        exact takes_all_some 2000 A0 c0 l0 w hr0 hc0 g _ rfl (T l0).1 (T l0).2.toNat (by omega) (by omega) _ rfl hp (by rw [hq, ← e])
    · omega
end Go.Proofs.Ytbmeleolpemakaa.Pk
