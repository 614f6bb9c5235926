/- Unpack at zero bytes, walked by hand. -/
import Derived.Test.YtbmeleolpemakaaPackWN
import Derived.Test.YtbmeleolpemakaaFstringsHasPrefix
import Derived.Test.YtbmeleolpemakaaFx0
import Derived.OpenShut
namespace Go.Proofs.Ytbmeleolpemakaa.Pk
open Go Go.RowKit Go.Proofs.YtbmeleolpemakaaW.PrintWords Go.Proofs.YtbmeleolpemakaaW.PrintLast Go.Proofs.YtbmeleolpemakaaW.PrintMore Go.Proofs.Ytbmeleolpemakaa.F
set_option linter.unusedVariables false
set_option linter.unusedSimpArgs false
theorem info50 : (Try.prog.info? 50).map (fun i => (i.zero, i.size, i.bytes)) = some (some (.agg #[.int .i64 0, .int .i64 0, .int .i64 0]), 3, 24) := by kernel_rfl
theorem pre_zero (m : Nat) : strings_HasPrefix.f (strOfNums (List.replicate (m + 2) 0)) (strOfNums [90, 71]) = some false := by
  unfold strings_HasPrefix.f stringslite_HasPrefix.f
  have e1 : (strOfNums (List.replicate (m + 2) 0)).size = m + 2 := by rw [str_size, List.length_replicate]
  have e2 : (strOfNums [90, 71]).size = 2 := by rw [str_size]; rfl
  have e3 : (strOfNums (List.replicate (m + 2) 0)).extract 0 2 = strOfNums [0, 0] := by
    apply ByteArray.ext
    rw [ByteArray.data_extract]
    simp [strOfNums, List.replicate_succ]
  rw [e1, e2, if_pos (by omega), if_pos (by omega), if_pos (by omega), show ((2 : Nat) : Int).toNat = 2 from rfl, e3]
  decide +kernel
theorem lit_str (w : World) (o : Obj) : (convert 22 9 (.slice (some ⟨w.heap.size + 1, 0, none⟩) 2 2)).run Try.prog ((w.alloc o).alloc (.cells #[.int .u8 90, .int .u8 71] 5)) = .ok (.string (strOfNums [90, 71])) ((w.alloc o).alloc (.cells #[.int .u8 90, .int .u8 71] 5)) := by
  have hs : (w.alloc o).heap.size = w.heap.size + 1 := World.size_alloc w o
  have ho := World.ownsRow_lit (base := w.heap.size) (e := 5) (size := 1) (w.alloc o) #[.int .u8 90, .int .u8 71] 2 (by omega) (by decide) rfl
  rw [hs] at ho
  have hR : Kd.R (Kd.int .u8) 5 ((w.alloc o).alloc (.cells #[.int .u8 90, .int .u8 71] 5)) w.heap.size (fun _ => True) (.slice (some ⟨w.heap.size + 1, 0, none⟩) 2 2) [90, 71] := Kd.R_of_own ho (fun _ _ => trivial)
  exact cv _ (Kd.R_reads' hR).2.2
theorem first_cell {w : World} {ad : Addr} {m : Nat} (h : Kd.C (Kd.int .u8) w (some ad) (m + 2) (List.replicate (m + 2) 0)) : w.cell? ad = some (.int .u8 0) := by
  obtain ⟨ad', cs, e, _, hK, hc⟩ := Kd.C_get h (0 : Int) 0 (by omega) (by omega)
  cases e
  have hK' : cs = [.int .u8 ((List.replicate (m + 2) (0 : Int)).getD (0 : Int).toNat 0)] := hK
  have := hc 0 (.int .u8 0) (by rw [hK']; simp)
  have e : ad.add ((0 : Int).toNat * (Kd.int .u8).sz + 0) = ad := by simp [Addr.add]
  rw [e] at this
  exact this
theorem results_row2 {P : Program} {fn : Func} {p u v : Tmp} {ty : TypeId} (h : fn.results = #[.cell p ty, .tmp u, .tmp v]) (tmps : Array Value) (w : World) (g : Nat) (t : TypeId) (cs : Array Value) (fr : Nat × Nat) (d : TypeDesc)
    (hp : tmps.getD p undef = .pointer (some ⟨g, 0, none⟩)) (hg : w.heap[g]? = some (.cells cs t fr))
    (hu : P.underlying ty = some d) (hd : (match d with | .struct _ | .array _ _ => true | _ => false) = true) (hi : (P.info? ty).map (·.size) = some cs.size) :
    (results fn tmps).run P w = .ok (.tuple #[.agg cs, tmps.getD u undef, tmps.getD v undef]) w := by
  have hp' : tmps[p]?.getD undef = .pointer (some ⟨g, 0, none⟩) := by simpa using hp
  simp [results, h, hp', asAddr, run_loadVar_row w g t ty cs fr d hg hu hd hi]
abbrev spec0 : Array Value := #[.int .i64 0, .int .i64 0, .int .i64 0, .slice none 0 0, .slice none 0 0]
theorem put0 {W : World} {g : Nat} (h : W.heap[g]? = some (.cells #[.int .i64 0, .int .i64 0, .int .i64 0, .slice none 0 0, .slice none 0 0] 36 (0, 0))) :
    (((((W.setCell ⟨g, 0, none⟩ (.int .i64 0)).setCell ⟨g, 1, none⟩ (.int .i64 0)).setCell ⟨g, 2, none⟩ (.int .i64 0)).setCell ⟨g, 3, none⟩ (.slice none 0 0)).setCell ⟨g, 4, none⟩ (.slice none 0 0)).heap[g]? = some (.cells #[.int .i64 0, .int .i64 0, .int .i64 0, .slice none 0 0, .slice none 0 0] 36 (0, 0)) :=
  blk_put (blk_put (blk_put (blk_put (blk_put h 0 _ rfl) 1 _ rfl) 2 _ rfl) 3 _ rfl) 4 _ rfl
theorem below5 {w W : World} {g : Nat} (h : Below w.heap.size w W) (hg : w.heap.size ≤ g) (a b c d e : Value) :
    Below w.heap.size w (((((W.setCell ⟨g, 0, none⟩ a).setCell ⟨g, 1, none⟩ b).setCell ⟨g, 2, none⟩ c).setCell ⟨g, 3, none⟩ d).setCell ⟨g, 4, none⟩ e) :=
  below_set (below_set (below_set (below_set (below_set h hg) hg) hg) hg) hg
set_option maxHeartbeats 4000000 in
/-- Unpack at bytes that are nought. -/
theorem unpack_zero (ad : Addr) (c m : Nat) (w : World) (hC : Kd.C (Kd.int .u8) w (some ad) (m + 2) (List.replicate (m + 2) 0)) (hc : m + 2 ≤ c) (h : ¬ m + 2 > 1048576) :
    Calls Try.prog 15 #[.slice (some ad) (m + 2) c] w fun e w' => e = .returned (.tuple #[.agg #[.int .i64 0, .int .i64 0, .int .i64 0, .slice none 0 0, .slice none 0 0], .int .i64 0, .int .i64 17]) ∧ Below w.heap.size w w' := by
  have HC := Aside0.mk hC
  have g0 : decide ((1048576 : Int) < ((m : Int) + 2)) = false := decide_eq_false (by omega)
  have g1 : decide ((0 : Int) < ((m : Int) + 2)) = true := decide_eq_true (by omega)
  clear hC
  have hl := lit_str w (.cells #[.int .i64 0, .int .i64 0, .int .i64 0, .slice none 0 0, .slice none 0 0] 36)
  have HB := Aside0.mk (below_alloc (below_alloc (Below.refl w.heap.size w) (.cells #[.int .i64 0, .int .i64 0, .int .i64 0, .slice none 0 0, .slice none 0 0] 36)) (.cells #[.int .u8 90, .int .u8 71] 5))
  have HK := Aside0.mk (blk_alloc (blk_new w (.cells #[.int .i64 0, .int .i64 0, .int .i64 0, .slice none 0 0, .slice none 0 0] 36)) (.cells #[.int .u8 90, .int .u8 71] 5))
  have hl2 := cv (c := c) _ (Kd.C_below HC.out HB.out)
  go_enter Try.func15, Try.ntmps15
  go_wp2_with (first | (with_reducible go_at_call 23; with_reducible refine (strings_HasPrefix.calls _ _ _ _ (pre_zero m)).mono ?_; rintro e w3 ⟨rfl, ⟨nd, rfl⟩⟩; have HB3 := Aside0.mk (pw_below_drewN HB.out nd); have HK3 := Aside0.mk (blk_drewN HK.out nd); have hx := first_cell (Kd.C_below HC.out HB3.out); clear HB HK hl hl2) | fail)
  clear hx g0 g1
  generalize ((w.alloc (.cells #[.int .i64 0, .int .i64 0, .int .i64 0, .slice none 0 0, .slice none 0 0] 36)).alloc (.cells #[.int .u8 90, .int .u8 71] 5)).drewN nd = w3 at HB3 HK3 ⊢
  have hres := put0 HK3.out
  have hbel := below5 HB3.out (Nat.le_refl _) (.int .i64 0) (.int .i64 0) (.int .i64 0) (.slice none 0 0) (.slice none 0 0)
  generalize (((((w3.setCell ⟨w.heap.size, 0, none⟩ (.int .i64 0)).setCell ⟨w.heap.size, 1, none⟩ (.int .i64 0)).setCell ⟨w.heap.size, 2, none⟩ (.int .i64 0)).setCell ⟨w.heap.size, 3, none⟩ (.slice none 0 0)).setCell ⟨w.heap.size, 4, none⟩ (.slice none 0 0)) = W at hres hbel ⊢
  generalize strOfNums (List.replicate (m + 2) 0) = s1
  generalize strOfNums [90, 71] = s2
  refine bodyPost_ret (v := .tuple #[.agg #[.int .i64 0, .int .i64 0, .int .i64 0, .slice none 0 0, .slice none 0 0], .int .i64 0, .int .i64 17]) ?_ rfl ⟨rfl, hbel⟩
  have hi : (Try.prog.info? 36).map (·.size) = some 5 := by kernel_rfl
  dsimp only
  refine results_row2 (P := Try.prog) (fn := Try.f15) (p := 2) (u := 3) (v := 4) (ty := 36) ?h1 _ W w.heap.size 36 #[.int .i64 0, .int .i64 0, .int .i64 0, .slice none 0 0, .slice none 0 0] (0, 0) _ ?h2 hres Try.underlying36 ?h3 hi
  case h1 => rfl
  case h3 => rfl
  case h2 => simp
set_option maxHeartbeats 4000000 in
/-- Unpack at too many bytes. -/
theorem unpack_many (A : Option Addr) (c m : Nat) (w : World) (h : m > 1048576) :
    Calls Try.prog 15 #[.slice A m c] w fun e w' => e = .returned (.tuple #[.agg #[.int .i64 0, .int .i64 0, .int .i64 0, .slice none 0 0, .slice none 0 0], .int .i64 0, .int .i64 5]) ∧ Below w.heap.size w w' := by
  have g0 : decide ((1048576 : Int) < (m : Int)) = true := decide_eq_true (by omega)
  have HB := Aside0.mk (below_alloc (Below.refl w.heap.size w) (.cells #[.int .i64 0, .int .i64 0, .int .i64 0, .slice none 0 0, .slice none 0 0] 36))
  have HK := Aside0.mk (blk_new w (.cells #[.int .i64 0, .int .i64 0, .int .i64 0, .slice none 0 0, .slice none 0 0] 36))
  go_enter Try.func15, Try.ntmps15
  go_wp2_with fail
  clear g0
  have hres := HK.out
  have hbel := HB.out
  generalize (w.alloc (.cells #[.int .i64 0, .int .i64 0, .int .i64 0, .slice none 0 0, .slice none 0 0] 36)) = W at hres hbel ⊢
  refine bodyPost_ret (v := .tuple #[.agg #[.int .i64 0, .int .i64 0, .int .i64 0, .slice none 0 0, .slice none 0 0], .int .i64 0, .int .i64 5]) ?_ rfl ⟨rfl, hbel⟩
  have hi : (Try.prog.info? 36).map (·.size) = some 5 := by kernel_rfl
  dsimp only
  refine results_row2 (P := Try.prog) (fn := Try.f15) (p := 2) (u := 3) (v := 4) (ty := 36) ?h1 _ W w.heap.size 36 #[.int .i64 0, .int .i64 0, .int .i64 0, .slice none 0 0, .slice none 0 0] (0, 0) _ ?h2 hres Try.underlying36 ?h3 hi
  case h1 => rfl
  case h3 => rfl
  case h2 => simp
end Go.Proofs.Ytbmeleolpemakaa.Pk
