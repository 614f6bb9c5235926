/- Arguments that are slices: of strings, of whole numbers: as lists that are read. -/
import Derived.Test.YtbmeleolpemakaaWMore
import Derived.Test.YtbmeleolpemakaaRowKit
namespace Go.Proofs.Ytbmeleolpemakaa.RK
open Go Go.ChangeShapes Go.WideShapes Go.ChangeAt Go.RowKit Go.WideElems Go.Maps Go.Deep Go.Proofs.YtbmeleolpemakaaW.PrintWords
variable {H : Type} {enc : TypeId × Value → H} {P : Program}

theorem reads_enc {α : Type} (f : α → Value) (h1 : ∀ x, (f x).oneCell' = true) {w : World} {a : Addr} {xs : List α} (d : α) (hn : xs.length ≤ 9223372036854775807) (hc : ∀ i, i < xs.length → w.cell? (a.add i) = some (f (xs.getD i d))) :
    Kd.C (Kd.scalar f h1) w (some a) xs.length xs := by
  refine ⟨rfl, hn, fun _ => ⟨a, rfl, fun j p hj => ⟨[f p], rfl, rfl, fun i u hu => ?_⟩⟩⟩
  obtain ⟨hj', rfl⟩ := List.getElem?_eq_some_iff.1 hj
  cases i with
  | succ i => simp at hu
  | zero =>
    simp only [List.getElem?_cons_zero, Option.some.injEq] at hu
    subst hu
    have := hc j hj'
    rw [List.getD_eq_getElem?_getD, List.getElem?_eq_getElem hj'] at this
    simpa [Kd.scalar] using this
theorem reads_none {α : Type} (f : α → Value) (h1 : ∀ x, (f x).oneCell' = true) (w : World) : Kd.C (Kd.scalar f h1) w none 0 ([] : List α) := ⟨rfl, by decide, fun h => absurd h (by decide)⟩

/-- A slice of strings. -/
theorem open_strs {w : World} {sp : Nat → Bool} {held : Bool} {r : Reach} {b0 base : Nat} {t e : TypeId} {v : Value} {d : DataW H} {p : List MemPlace}
    (ht : P.underlying t = some (.slice e)) (he : P.underlying e = some .string) (hce : P.cellsOf e = 1) (hv : Value.okWide P w r b0 t v) (h : DataW.Trod enc P w base sp held t v d p) :
    ∃ (A : Option Addr) (c : Nat) (xs : List ByteArray), v = .slice A xs.length c ∧ xs.length ≤ c ∧ Kd.C Kd.string w A xs.length xs := by
  obtain ⟨a0, len, cap, rfl⟩ := okWide_slice ht hv
  obtain ⟨fuel, hf⟩ := h
  rcases open_strings ht he hce hf with ⟨hcs, hx⟩ | ⟨a, len', cap', ss, hcs, _, hl, hm, hz, hx, hcell, hws⟩
  · simp [Value.cells] at hcs
    obtain ⟨rfl, rfl, rfl⟩ := hcs
    exact ⟨none, 0, [], rfl, Nat.le_refl _, reads_none _ _ _⟩
  · simp [Value.cells] at hcs
    obtain ⟨rfl, rfl, rfl⟩ := hcs
    unfold maxLen at hm
    have hls : len ≤ ss.length := by rw [hz]; split <;> omega
    have e1 : (ss.take len).length = len := by rw [List.length_take]; omega
    have hC := reads_enc (xs := ss.take len) Value.string (fun _ => rfl) (w := w) (a := a) ByteArray.empty (by omega) (fun i hi => by
      rw [hcell i (by omega)]
      congr 2
      rw [List.getD_eq_getElem?_getD, List.getD_eq_getElem?_getD, List.getElem?_take, if_pos (by omega)])
    refine ⟨some a, cap, ss.take len, by rw [e1], by omega, hC⟩
/-- A slice of whole numbers. -/
theorem open_nums {w : World} {sp : Nat → Bool} {held : Bool} {r : Reach} {b0 base : Nat} {t e : TypeId} {k : IntKind} {v : Value} {d : DataW H} {p : List MemPlace}
    (ht : P.underlying t = some (.slice e)) (he : P.underlying e = some (.int k)) (hce : P.cellsOf e = 1) (hv : Value.okWide P w r b0 t v) (h : DataW.Trod enc P w base sp held t v d p) :
    ∃ (A : Option Addr) (c : Nat) (xs : List Int), v = .slice A xs.length c ∧ xs.length ≤ c ∧ Kd.C (Kd.int k) w A xs.length xs ∧ ∀ n, n ∈ xs → (Lit.int k n).wf = true := by
  obtain ⟨a0, len, cap, rfl⟩ := okWide_slice ht hv
  obtain ⟨fuel, hf⟩ := h
  rcases open_ints ht he hce hf with ⟨hcs, hx⟩ | ⟨a, len', cap', ss, hcs, _, hl, hm, hz, hx, hcell, hws⟩
  · simp [Value.cells] at hcs
    obtain ⟨rfl, rfl, rfl⟩ := hcs
    exact ⟨none, 0, [], rfl, Nat.le_refl _, reads_none _ _ _, fun n hn => by cases hn⟩
  · simp [Value.cells] at hcs
    obtain ⟨rfl, rfl, rfl⟩ := hcs
    unfold maxLen at hm
    have hls : len ≤ ss.length := by rw [hz]; split <;> omega
    have e1 : (ss.take len).length = len := by rw [List.length_take]; omega
    have hC := reads_enc (xs := ss.take len) (Value.int k) (fun _ => rfl) (w := w) (a := a) 0 (by omega) (fun i hi => by
      rw [hcell i (by omega)]
      congr 2
      rw [List.getD_eq_getElem?_getD, List.getD_eq_getElem?_getD, List.getElem?_take, if_pos (by omega)])
    refine ⟨some a, cap, ss.take len, by rw [e1], by omega, hC, fun n hn => hws n (List.mem_of_mem_take hn)⟩
end Go.Proofs.Ytbmeleolpemakaa.RK
