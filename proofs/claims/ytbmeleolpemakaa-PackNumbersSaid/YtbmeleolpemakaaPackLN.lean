/- PackNumbers: the law. -/
import Derived.Test.YtbmeleolpemakaaPackN
import Derived.Test.YtbmeleolpemakaaPackWN
namespace Go.Proofs.Ytbmeleolpemakaa.Pk
open Go Go.RowKit Go.Proofs.YtbmeleolpemakaaW.PrintWords Go.Proofs.Ytbmeleolpemakaa.F
theorem str_app (xs ys : List Int) : strOfNums (xs ++ ys) = strOfNums xs ++ strOfNums ys := by
  apply ByteArray.ext
  rw [ByteArray.data_append]
  simp [strOfNums]
theorem numbers_calls (n : Int) (A0 : Option Addr) (c0 : Nat) (l0 : List Int) (w : World) (hn : (Lit.int .i64 n).wf = true) (hc0 : l0.length ≤ c0) (hr0 : Kd.C (Kd.int .u8) w A0 l0.length l0) (hw : ∀ x ∈ l0, (Lit.int .u8 x).wf = true) :
    Calls Try.prog 4 #[.int .i64 n, .slice A0 l0.length c0] w fun e w' => e = .returned (.bool true) ∧ Below w.heap.size w w' := by
  have b := bounds_i64 hn
  have hB : By l0 := fun x hx => by have := bounds_u8 (hw x hx); omega
  have z := zig_bd b
  have d := D_bytes 9 (zig n) z.1 (small9 z.2)
  by_cases g : 30 < l0.length
  · have hB' : By (l0.take 30) := fun x hx => hB x (List.mem_of_mem_take hx)
    have hl : (l0.take 30).length ≤ 300 := by rw [List.length_take]; omega
    exact numbers_cut 20 n A0 c0 l0 w hr0 hc0 g (l0.take 30) (D 9 (zig n)) _ rfl rfl (by omega) (Number_f b (by rw [List.nil_append]; omega) (by omega)) (ref_Number_f b (by omega)) (Take_D b hB' hl) (str_app _ _)
  · exact numbers_all 20 n A0 c0 l0 w hr0 hc0 g l0 (D 9 (zig n)) _ rfl rfl (by omega) (Number_f b (by rw [List.nil_append]; omega) (by omega)) (ref_Number_f b (by omega)) (Take_D b hB (by omega)) (str_app _ _)
end Go.Proofs.Ytbmeleolpemakaa.Pk
